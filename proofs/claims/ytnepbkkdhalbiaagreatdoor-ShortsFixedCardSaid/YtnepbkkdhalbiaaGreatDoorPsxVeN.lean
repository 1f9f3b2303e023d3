/- Slices of slices, and of structs that hold slices. -/
import Derived.Test.YtnepbkkdhalbiaaGreatDoorPsxVeB
namespace Go.Vd
set_option linter.unusedSectionVars false
variable [Pins]
theorem Dj.sub {a b b' : Fp} (h : Dj a b) (k : ∀ t ∈ b', t ∈ b) : Dj a b' := fun t ha hb => h t ha (k t hb)
theorem Dj.subl {a a' b : Fp} (h : Dj a b) (k : ∀ t ∈ a', t ∈ a) : Dj a' b := fun t ha hb => h t (k t ha) hb
theorem Lt.sub {H : AH} {a b : Fp} (h : Lt H a) (k : ∀ t ∈ b, t ∈ a) : Lt H b := fun t ht => h t (k t ht)
section
variable {P : Program} {H H' : AH} {E : Type} {enc : E → List Value} {sz : Nat} {s : Value} {xs ys : List E} {W fp fq : Fp}
theorem Sq.up (h : Sq enc sz H s xs fp) (k : ∀ t ∈ fp, t ∈ fq) (hl : Lt H fq) : Sq enc sz H s xs fq :=
 ⟨hl, h.pos, h.is.imp id fun ⟨a, b⟩ => ⟨a, fun b' o n c e => ⟨(b b' o n c e).1, k _ (b b' o n c e).2⟩⟩⟩
end
structure CR (E : Type) where
 rel : AH → E → List Value → Fp → Prop
 sz : Nat
 pos : 0 < sz
 len : ∀ {H : AH} {x : E} {cs : List Value} {fp : Fp}, rel H x cs fp → cs.length = sz
 one : ∀ {H : AH} {x : E} {cs : List Value} {fp : Fp}, rel H x cs fp → Zl cs = true
 lt : ∀ {H : AH} {x : E} {cs : List Value} {fp : Fp}, rel H x cs fp → Lt H fp
 fr : ∀ {H H' : AH} {x : E} {cs : List Value} {fp W : Fp}, rel H x cs fp → FrS W H H' → Dj W fp → rel H' x cs fp
def CR.int (k : IntKind) : CR Int where
 rel H x cs fp := cs = [.int k x] ∧ Lt H fp
 sz := 1
 pos := by decide
 len h := by rw [h.1]; rfl
 one h := by rw [h.1]; rfl
 lt h := h.2
 fr h k _ := ⟨h.1, h.2.fr k⟩
def CR.bool : CR Bool where
 rel H x cs fp := cs = [.bool x] ∧ Lt H fp
 sz := 1
 pos := by decide
 len h := by rw [h.1]; rfl
 one h := by rw [h.1]; rfl
 lt h := h.2
 fr h k _ := ⟨h.1, h.2.fr k⟩
def CR.sl {E : Type} (enc : E → List Value) (sz : Nat) : CR (List E) where
 rel H x cs fp := ∃ h, cs = [h] ∧ Ow enc sz H h x fp
 sz := 1
 pos := by decide
 len h := by obtain ⟨_, rfl, _⟩ := h; rfl
 one h := by obtain ⟨v, rfl, h⟩ := h; simp [Zl, h.one1]
 lt h := by obtain ⟨_, _, h⟩ := h; exact h.lt
 fr h k d := by obtain ⟨v, e, h⟩ := h; exact ⟨v, e, h.fr k d⟩
structure Nst {E : Type} (C : CR E) (H : AH) (s : Value) (xs : List E) (fp : Fp) : Prop where
 lt : Lt H fp
 is : ∃ (css : List (List Value)) (f0 : Fp) (F : Nat → Fp), Ow id C.sz H s css f0 ∧ (∀ t ∈ f0, t ∈ fp) ∧ css.length = xs.length ∧
  ∀ (i : Nat) (x : E) (cs : List Value), xs[i]? = some x → css[i]? = some cs → C.rel H x cs (F i) ∧ (∀ t ∈ F i, t ∈ fp) ∧ Dj f0 (F i) ∧ ∀ j, j < xs.length → j ≠ i → Dj (F i) (F j)
def Kid (H : AH) (s : Value) (sz i off : Nat) (hd : Value) (fp : Fp) : Prop :=
 ∃ b o n c k row, s = .slice (some ⟨b, o, none⟩) n c ∧ b < H.next ∧ Zu H b ∈ fp ∧ H.get b = some (.row k row) ∧ row[o + i * sz + off]? = some hd
structure KdS {E : Type} (enc : E → List Value) (sz' : Nat) (H : AH) (hd : Value) (ys : List E) (fp : Fp) (s : Value) (sz i off : Nat) : Prop where
 sq : Sq enc sz' H hd ys fp
 kid : Kid H s sz i off hd fp
section
variable {P : Program} {H H' : AH} {E : Type} {C : CR E} {s : Value} {xs : List E} {W fp g : Fp}
theorem Kid.fr {sz i off : Nat} {hd : Value} (h : Kid H s sz i off hd fp) (k : FrS W H H') (hd1 : Dj W fp) : Kid H' s sz i off hd fp := by
 obtain ⟨b, o, n, c, kd, row, e1, e2, e3, e4, e5⟩ := h
 have he : H'.get b = H.get b := k.same b e2 fun hm => hd1 _ hm e3
 exact ⟨b, o, n, c, kd, row, e1, Nat.lt_of_lt_of_le e2 k.next, by unfold Zu; rw [he]; exact e3, he.trans e4, e5⟩
theorem KdS.fr {E' : Type} {enc : E' → List Value} {sz' sz i off : Nat} {hd : Value} {ys : List E'} (h : KdS enc sz' H hd ys fp s sz i off) (k : FrS W H H') (hd1 : Dj W fp) : KdS enc sz' H' hd ys fp s sz i off := ⟨h.sq.fr k hd1, h.kid.fr k hd1⟩
theorem KdS.ext {E' : Type} {enc : E' → List Value} {sz' sz i off : Nat} {hd : Value} {ys : List E'} (h : KdS enc sz' H hd ys fp s sz i off) (k : Ext H H') : KdS enc sz' H' hd ys fp s sz i off := h.fr (k.frS []) Dj.nil_l
theorem Ow.kid {sz : Nat} {css : List (List Value)} {f0 : Fp} {i off : Nat} {cs : List Value} {v : Value} (h : Ow id sz H s css f0) (hi : css[i]? = some cs) (hv : cs[off]? = some v) (ho : off < sz) : Kid H s sz i off v f0 := by
 rcases h.is with ⟨_, rfl⟩ | ⟨φ, hφ, hown⟩
 ·simp at hi
 rcases hown.is with ⟨_, rfl⟩ | ⟨b, c, k, row, rfl, g2, g3, g4, g5, g6, g7⟩
 ·simp at hi
 refine ⟨b, 0, _, c, k, row, rfl, g2, ?_, g3, ?_⟩
 ·unfold Zu; rw [g3]
  rcases g4 with ⟨rfl, rfl⟩ | rfl <;> exact hφ
 ·have := g7 i cs hi off ho
  rw [Nat.zero_add, this]; exact hv
theorem Kid.same {sz : Nat} {css : List (List Value)} {f0 : Fp} {i off : Nat} {cs : List Value} {hd : Value} (h : Ow id sz H s css f0) (hi : css[i]? = some cs) (ho : off < sz) (k : Kid H s sz i off hd fp) : cs[off]? = some hd := by
 obtain ⟨b, o, n, c, kd, row, rfl, e2, e3, e4, e5⟩ := k
 rcases h.is with ⟨h | h, _⟩ | ⟨φ, hφ, hown⟩
 ·cases h
 ·cases h
 rcases hown.is with ⟨h, _⟩ | ⟨b', c', k', row', h, g2, g3, g4, g5, g6, g7⟩
 ·cases h
 cases h
 rw [e4] at g3; cases g3
 have := g7 i cs hi off ho
 rw [Nat.zero_add] at e5
 rw [← e5, this]; rfl
end
section
variable {E : Type} {enc : E → List Value} {sz : Nat} {H : AH} {cs : List Value} {f g : Fp} {h : Value}
end
structure Hol {E E' : Type} (C : CR E) (enc : E' → List Value) (sz' : Nat) (H : AH) (s : Value) (xs : List E) (i off : Nat) (upd : List E' → E) (fp : Fp) : Prop where
 lt : Lt H fp
 is : ∃ (css : List (List Value)) (f0 : Fp) (F : Nat → Fp) (cs : List Value) (fi : Fp), Ow id C.sz H s css f0 ∧ (∀ t ∈ f0, t ∈ fp) ∧ css.length = xs.length ∧ css[i]? = some cs ∧ off < C.sz ∧ (∀ t ∈ fi, t ∈ fp) ∧ Dj f0 fi ∧
  (∀ (j : Nat) (x : E) (c : List Value), xs[j]? = some x → css[j]? = some c → j ≠ i → C.rel H x c (F j) ∧ (∀ t ∈ F j, t ∈ fp) ∧ Dj f0 (F j) ∧ Dj (F j) fi ∧ ∀ k, k < xs.length → k ≠ j → k ≠ i → Dj (F j) (F k)) ∧
  ∀ W H', FrS W H H' → Dj W fi → ∀ hd y g, Ow enc sz' H' hd y g → Dj fi g → ∃ f', C.rel H' (upd y) (ZR cs off [hd]) f' ∧ ∀ t ∈ f', t ∈ fi ∨ t ∈ g
section
variable {P : Program} {H H' : AH} {E E' : Type} {C : CR E} {enc : E' → List Value} {sz' : Nat} {s : Value} {xs : List E} {i off : Nat} {upd : List E' → E} {W fp g : Fp}
theorem Inn.grow3 {H0 : AH} {fr old new : Fp} (h : Inn (fr ++ g) H new) (k1 : Inn old H0 fr) (k2 : Inn old H0 g) (hn : H0.next ≤ H.next) : Inn old H0 new := fun t ht => (h t ht).elim (fun m => (List.mem_append.1 m).elim (k1 t) (k2 t)) (fun q => .inr (Nat.le_trans hn q))
theorem Inn.sub' {a b : Fp} {H : AH} (h : ∀ t ∈ b, t ∈ a) : Inn a H b := fun t ht => .inl (h t ht)
end
section
variable {E : Type} {enc : E → List Value} {sz : Nat}
end
end Go.Vd
