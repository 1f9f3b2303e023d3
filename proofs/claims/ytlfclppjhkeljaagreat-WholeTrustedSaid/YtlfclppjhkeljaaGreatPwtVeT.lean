/- What comes out of an iterator: the list of what has come so far, and what the rounds keep. -/
import Derived.Test.YtlfclppjhkeljaaGreatPwtVeB
namespace Go.Vd
set_option linter.unusedSectionVars false
set_option linter.unusedVariables false
variable [Pins]
variable {P : Program} {H H' : AH} {E : Type} {W fp : Fp} {xs : List E} {I : AH → List E → Fp → Prop}
structure Trc (I : AH → List E → Fp → Prop) (H : AH) (xs : List E) (fp : Fp) : Prop where
 lt : Lt H fp
 wf : WF H
 is : ∀ W H', FrS W H H' → Dj W fp → I H' xs fp
theorem Trc.fr (h : Trc I H xs fp) (k : FrS W H H') (hd : Dj W fp) : Trc I H' xs fp :=
 ⟨h.lt.fr k, k.wf, fun W' H2 k2 d2 => h.is (W ++ W') H2 (FrS.step h.wf (k.mono fun t ht => List.mem_append_left _ ht) (k2.mono fun t ht => List.mem_append_right _ ht) Inn.self)
  fun t ht hb => (List.mem_append.1 ht).elim (fun q => hd t q hb) (fun q => d2 t q hb)⟩
theorem Trc.ext (h : Trc I H xs fp) (k : Ext H H') : Trc I H' xs fp := h.fr (k.frS []) Dj.nil_l
theorem Trc.at (h : Trc I H xs fp) : I H xs fp := h.is [] H (.refl h.wf) Dj.nil_l
def Yld (P : Program) (l : Nat) (ok : List E → Bool) (encs : E → Array Value) (I : AH → List E → Fp → Prop) : Prop :=
 ∀ H xs fp x, WF H → ok (xs ++ [x]) = true → I H xs fp → AYields P l (encs x) H fun v H' => v = .bool true ∧ ∃ fp', FrS fp H H' ∧ Trc I H' (xs ++ [x]) fp' ∧ Inn fp H fp'
def Zc9 {σ : Type} (f : E → σ → Option σ) (s : σ) : List E → Option σ
 | [] => some s
 | x :: l => (f x s).bind fun s => Zc9 f s l
theorem Zjn {σ : Type} {f : E → σ → Option σ} {s t : σ} {l : List E} {x : E} (h : Zc9 f s l = some t) : Zc9 f s (l ++ [x]) = f x t := by
 induction l generalizing s with
 | nil => cases h; simp only [List.nil_append, Zc9]; cases f x t <;> rfl
 | cons y l ih =>
  simp only [Zc9, List.cons_append] at h ⊢
  cases hf : f y s with
  | none => rw [hf] at h; cases h
  | some u => rw [hf] at h; simp only [Option.bind_some] at h ⊢; exact ih h
theorem Dj.appL {a b c : Fp} (h : Dj a (b ++ c)) : Dj a b := fun t ht hb => h t ht (List.mem_append_left _ hb)
theorem Dj.appR {a b c : Fp} (h : Dj a (b ++ c)) : Dj a c := fun t ht hb => h t ht (List.mem_append_right _ hb)
theorem Inn.off {W f : List Nat} {H : AH} (h : ∀ t ∈ f, t ∈ W ∨ H.next ≤ t) (d : Dj W f) : Inn [] H f := fun t ht => (h t ht).elim (fun hw => absurd ht (d t hw)) .inr
end Go.Vd
