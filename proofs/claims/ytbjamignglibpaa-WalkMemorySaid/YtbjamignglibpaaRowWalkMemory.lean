/-
  Whatever is handed in, WalkMemory returns true, and what was handed in reads as it did; the conditions are the row's own, no other.
-/
import Derived.Test.YtbjamignglibpaaRows
import Derived.Test.YtbjamignglibpaaKWm1
import Derived.Test.YtbjamignglibpaaPrWalkMemory
import Derived.Test.YtbjamignglibpaaVeE
import Derived.WalkKit
import Derived.ProofKit
import Derived.OpenShut
import Derived.ChangeOld
import Derived.Below
namespace Go.Proofs.Ytbjamignglibpaa
open Go.ChangeShapes Go.WideShapes Go.ChangeAt Go.RowKit Go.Vd
set_option linter.unusedVariables false
set_option linter.unusedSimpArgs false

theorem own9 : ownKnob Try.prog.godebug = none := by kernel_rfl
theorem laidOut9 : laidOutB Try.prog = true := by kernel_rfl

theorem int_rd {Hd : Type} {enc : TypeId × Value → Hd} {W : World} (cs : List Value) (h : Rd enc Try.prog W 3 cs) : ∃ x : Int, cs = encI .i64 x ∧ (Lit.int .i64 x).wf = true := by
  obtain ⟨n, h1, h2⟩ := h.int Try.underlying3
  exact ⟨n, h1, h2⟩

theorem walkMemory_walk {Hd : Type} {enc : TypeId × Value → Hd} (W : World) (v0 v1 : Value) (k0 : ∃ a l c, v0 = .slice a l c) (k1 : ∃ a l c, v1 = .slice a l c)
    (r0 : Rd enc Try.prog W 22 v0.cells.toList) (r1 : Rd enc Try.prog W 22 v1.cells.toList) :
    Calls Try.prog 4 #[v0, v1] W fun e w' => e = .returned (.bool true) ∧ Below W.heap.size W w' := by
  have hb3 : Try.prog.bytesOf 3 = 8 := by kernel_rfl
  have hr : reachBytes = 140737488351232 := by decide
  obtain ⟨d0, X0, e0, s0⟩ := r0.slice (en := encI .i64) (sz := 1) Try.underlying22 (by kernel_rfl) (fun _ => rfl) int_rd
  obtain ⟨aa0, ll0, cc0, rfl⟩ := k0
  obtain rfl : d0 = .slice aa0 ll0 cc0 := by
    have q : (Value.slice aa0 ll0 cc0).cells.toList = [.slice aa0 ll0 cc0] := rfl
    rw [q] at e0; cases e0; rfl
  obtain ⟨d1, X1, e1, s1⟩ := r1.slice (en := encI .i64) (sz := 1) Try.underlying22 (by kernel_rfl) (fun _ => rfl) int_rd
  obtain ⟨aa1, ll1, cc1, rfl⟩ := k1
  obtain rfl : d1 = .slice aa1 ll1 cc1 := by
    have q : (Value.slice aa1 ll1 cc1).cells.toList = [.slice aa1 ll1 cc1] := rfl
    rw [q] at e1; cases e1; rfl
  obtain ⟨μ0, H0, b0, f0, E0, x0, l0, va0, qa0⟩ := s0.ent (Ent.nil W) (by decide) (fun _ => rfl) (fun _ => rfl) (fun x u hu => by simp [encI] at hu; subst hu; rfl)
  have n0x := s0.len
  rw [hb3, hr] at n0x
  obtain ⟨μ1, H1, b1, f1, E1, x1, l1, va1, qa1⟩ := s1.ent E0 (by decide) (fun _ => rfl) (fun _ => rfl) (fun x u hu => by simp [encI] at hu; subst hu; rfl)
  have n1x := s1.len
  rw [hb3, hr] at n1x
  have hp : z_viaductlaw09_WalkMemory X0 X1 = some true := by
    apply p_WalkMemory <;> first | omega | assumption
  have hw := c_viaductlaw09_WalkMemory E1.wf (qa0.ext x1) qa1 hp
  have harg : ARel μ1 #[b0, b1] #[.slice aa0 ll0 cc0, .slice aa1 ll1 cc1] := ARel.toList.2 (.cons (va0.mono l1) (.cons va1 .nil))
  exact calls_of_acalls (hw.mono fun v H' h => h.1) rfl E1.rel harg E1.ro

set_option maxRecDepth 100000 in
theorem walkMemory_lifted (os : Os) (started : os.Started) (H : Type) (enc : TypeId × Value → H) :
    ReturnsInHanded {} Try.checked os 4 .any (Rows.walkMemorySpec.pre6 enc Try.prog Try.f4 Rows.walkMemoryRow.domain false) (Rows.walkMemorySpec.post enc Try.prog Try.f4 false true false false) := by
  refine returnsInHanded_of_change_sized (C := Try.checked) own9 started (by kernel_rfl) Try.func4
    (ChangeSpec.witness6 (enc := enc) (C := Try.checked) false ⟨#[], #[.slice none 0 0, .slice none 0 0], []⟩ 8 (by kernel_rfl) (by kernel_rfl) (by kernel_rfl) (by kernel_rfl)) ?_
  intro W base args ds gs before hval0 hW hcnd hsz _
  have hval : ∀ (j : Nat) t v, Try.f4.params[j]? = some t → args[j]? = some v → Value.okWide Try.prog W .any base t v := hval0
  have hW' := hW
  obtain ⟨p, q, hA0, hV, rfl, hfz, hnd⟩ := hW
  have hA : DataW.TrodAll enc Try.prog W 0 (fun _ => true) true Try.f4.params.toList args.toList ds p := hA0
  have hsz' : (DataW.weightsEach Try.prog (Try.f4.params.toList ++ Rows.walkMemorySpec.plain.varTypes Try.prog) (ds ++ gs)).all (· ≤ reachBytes) = true := hsz
  rw [Try.params4] at hA hval hsz'
  obtain ⟨v0, vs0, d0, ds0, p0, q0, hargs, rfl, rfl, h0, r0⟩ := trodAll_cons hA
  obtain ⟨v1, vs1, d1, ds1, p1, q1, rfl, rfl, rfl, h1, r1⟩ := trodAll_cons r0
  obtain ⟨rfl, rfl, rfl⟩ := trodAll_nil r1
  obtain rfl : args = #[v0, v1] := by cases args; simp_all
  obtain ⟨rfl, rfl⟩ := trodVars_none hV
  have wt : ∀ (j : Nat) t d, (#[22, 22] : Array TypeId).toList[j]? = some t → [d0, d1][j]? = some d → ∀ n ∈ d.weights Try.prog t, n ≤ reachBytes := fun j t d ht hd n hn => by
    have hlt := (List.getElem?_eq_some_iff.1 ht).1
    have hltd := (List.getElem?_eq_some_iff.1 hd).1
    have := List.all_eq_true.1 hsz' n (DataW.weights_mem_each (j := j) (t := t) (d := d) (by rw [List.getElem?_append_left hlt]; exact ht) (by rw [List.getElem?_append_left hltd]; exact hd) n hn)
    simpa using this
  have lt0 : ∀ x ∈ p0, x.block < W.heap.size := by obtain ⟨m, hm⟩ := h0; exact DataW.trod_lt m _ _ _ hm
  have lt1 : ∀ x ∈ p1, x.block < W.heap.size := by obtain ⟨m, hm⟩ := h1; exact DataW.trod_lt m _ _ _ hm
  refine (walkMemory_walk (enc := enc) W v0 v1 (okWide_slice Try.underlying22 (hval 0 22 v0 rfl rfl)) (okWide_slice Try.underlying22 (hval 1 22 v1 rfl rfl)) (Rd.of h0 (wt 0 22 d0 rfl rfl)) (Rd.of h1 (wt 1 22 d1 rfl rfl))).mono fun e W' ⟨he, bel⟩ => ?_
  subst he
  exact ⟨_, rfl, _, _, _, [], _, [], hW', trodAll_mk1 (shut_bool Try.underlying4 _), (trodAll_cons_mk (Below.trod laidOut9 (by kernel_rfl) (of_decide_eq_true (by kernel_rfl)) h0 bel lt0) (trodAll_cons_mk (Below.trod laidOut9 (by kernel_rfl) (of_decide_eq_true (by kernel_rfl)) h1 bel lt1) trodAll_mk0)), rfl, bel.frame _, fun h => by cases h⟩

theorem walkMemory_holds : Rows.WalkMemorySaid :=
  OpenClaim.holds_of_wide 4 Try.f4 rfl rfl rfl rfl rfl rfl rfl ⟨rfl, rfl, rfl, rfl, rfl⟩ rfl rfl rfl rfl rfl (by kernel_rfl) Try.func4 (by kernel_rfl)
    (of_decide_eq_true (by kernel_rfl)) (by unfold Func.isWrapper; first | (rw [if_pos (by decide +kernel)]; kernel_rfl) | (rw [if_neg (by decide +kernel)]; exact ⟨rfl, rfl⟩))
    (fun os started H enc _ => walkMemory_lifted os started H enc)
#print axioms walkMemory_holds
end Go.Proofs.Ytbjamignglibpaa
