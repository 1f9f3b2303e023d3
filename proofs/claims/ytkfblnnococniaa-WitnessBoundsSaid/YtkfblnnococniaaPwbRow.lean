/-
  Whatever is handed in, WitnessBounds returns true, and what was handed in reads as it did; the conditions are the row's own, no other.
-/
import Derived.Test.YtkfblnnococniaaPwb1
import Derived.Test.YtkfblnnococniaaRows
import Derived.Test.YtkfblnnococniaaVeE
import Derived.WalkKit
import Derived.ProofKit
import Derived.OpenShut
import Derived.ChangeOld
import Derived.Below
set_option linter.unusedVariables false
set_option linter.unusedSimpArgs false
set_option linter.unusedSectionVars false
/-! (RowWitnessBounds) -/

namespace Go.Proofs.Ytkfblnnococniaa
open Go.ChangeShapes Go.WideShapes Go.ChangeAt Go.RowKit Go.Vd
set_option linter.unusedVariables false
set_option linter.unusedSimpArgs false

theorem own9 : ownKnob Try.prog.godebug = none := by kernel_rfl
theorem laidOut9 : laidOutB Try.prog = true := by kernel_rfl

theorem i64_rng {x : Int} (h : (Lit.int .i64 x).wf = true) : -9223372036854775808 ≤ x ∧ x ≤ 9223372036854775807 := by
  simp only [Lit.wf, IntKind.min, IntKind.max, IntKind.signed, IntKind.bits, Bool.and_eq_true, decide_eq_true_eq, if_true, Bool.false_eq_true, if_false] at h
  omega
theorem u64_rng {x : Int} (h : (Lit.int .u64 x).wf = true) : 0 ≤ x ∧ x ≤ 18446744073709551615 := by
  simp only [Lit.wf, IntKind.min, IntKind.max, IntKind.signed, IntKind.bits, Bool.and_eq_true, decide_eq_true_eq, if_true, Bool.false_eq_true, if_false] at h
  omega
theorem int_rd {Hd : Type} {enc : TypeId × Value → Hd} {W : World} (cs : List Value) (h : Rd enc Try.prog W 3 cs) : ∃ x : Int, cs = Go.Vd.encI .i64 x ∧ (Lit.int .i64 x).wf = true := by
  obtain ⟨n, h1, h2⟩ := h.int Try.underlying3
  exact ⟨n, h1, h2⟩

theorem parts5 {α : Type} {l : List α} {a0 a1 a2 a3 a4 : α} (h : l.length = 5) (h0 : (l.drop 0).take 1 = [a0]) (h1 : (l.drop 1).take 1 = [a1]) (h2 : (l.drop 2).take 1 = [a2]) (h3 : (l.drop 3).take 1 = [a3]) (h4 : (l.drop 4).take 1 = [a4]) : l = [a0, a1, a2, a3, a4] := by
  match l, h with
  | [x0, x1, x2, x3, x4], _ => simp at h0 h1 h2 h3 h4; simp [h0, h1, h2, h3, h4]

theorem witnessBounds_walk {Hd : Type} {enc : TypeId × Value → Hd} (W : World) (v0 : Value) (k0 : ∃ cs, v0 = .agg cs ∧ cs.size = Try.prog.cellsOf 67)
    (r0 : Rd enc Try.prog W 67 v0.cells.toList) :
    Calls Try.prog 6 #[v0] W fun e w' => e = .returned (.bool true) ∧ Below W.heap.size W w' := by
  have hb3 : Try.prog.bytesOf 3 = 8 := by kernel_rfl
  have hr : reachBytes = 140737488351232 := by decide
  obtain ⟨cs0, rfl, hcs0⟩ := k0
  obtain ⟨hl0, hf0⟩ := r0.struct Try.underlying67
  have hc0 : Try.prog.cellsOf 67 = 5 := by kernel_rfl
  have g0_0 : Rd enc Try.prog W 3 (((Value.agg cs0).cells.toList.drop 0).take (Try.prog.cellsOf 3)) := hf0 0 _ rfl
  rw [show Try.prog.cellsOf 3 = 1 from by kernel_rfl] at g0_0
  obtain ⟨X0_0, e0_0, q0_0⟩ := int_rd _ g0_0
  have w0_0 := i64_rng q0_0
  have g0_1 : Rd enc Try.prog W 3 (((Value.agg cs0).cells.toList.drop 1).take (Try.prog.cellsOf 3)) := hf0 1 _ rfl
  rw [show Try.prog.cellsOf 3 = 1 from by kernel_rfl] at g0_1
  obtain ⟨X0_1, e0_1, q0_1⟩ := int_rd _ g0_1
  have w0_1 := i64_rng q0_1
  have g0_2 : Rd enc Try.prog W 3 (((Value.agg cs0).cells.toList.drop 2).take (Try.prog.cellsOf 3)) := hf0 2 _ rfl
  rw [show Try.prog.cellsOf 3 = 1 from by kernel_rfl] at g0_2
  obtain ⟨X0_2, e0_2, q0_2⟩ := int_rd _ g0_2
  have w0_2 := i64_rng q0_2
  have g0_3 : Rd enc Try.prog W 3 (((Value.agg cs0).cells.toList.drop 3).take (Try.prog.cellsOf 3)) := hf0 3 _ rfl
  rw [show Try.prog.cellsOf 3 = 1 from by kernel_rfl] at g0_3
  obtain ⟨X0_3, e0_3, q0_3⟩ := int_rd _ g0_3
  have w0_3 := i64_rng q0_3
  have g0_4 : Rd enc Try.prog W 3 (((Value.agg cs0).cells.toList.drop 4).take (Try.prog.cellsOf 3)) := hf0 4 _ rfl
  rw [show Try.prog.cellsOf 3 = 1 from by kernel_rfl] at g0_4
  obtain ⟨X0_4, e0_4, q0_4⟩ := int_rd _ g0_4
  have w0_4 := i64_rng q0_4
  rw [hc0] at hl0
  have hcs0' := parts5 (l := (Value.agg cs0).cells.toList) hl0 e0_0 e0_1 e0_2 e0_3 e0_4
  obtain rfl : cs0 = #[.int .i64 X0_0, .int .i64 X0_1, .int .i64 X0_2, .int .i64 X0_3, .int .i64 X0_4] := by
    have q : (Value.agg cs0).cells = cs0 := rfl
    rw [q] at hcs0'
    cases cs0; simp_all
  have hp : z_viaductlaw12_WitnessBounds X0_0 X0_1 X0_2 X0_3 X0_4 = some true := by
    apply p_WitnessBounds <;> first | omega | assumption
  have E0 := Ent.nil W (fun v h => by cases h)
  have hw := c_viaductlaw12_WitnessBounds E0.wf  hp
  have ag0 : ARel (fun _ => none) #[.int .i64 X0_0, .int .i64 X0_1, .int .i64 X0_2, .int .i64 X0_3, .int .i64 X0_4] #[.int .i64 X0_0, .int .i64 X0_1, .int .i64 X0_2, .int .i64 X0_3, .int .i64 X0_4] := ARel.toList.2 (.cons (.int _ _) (.cons (.int _ _) (.cons (.int _ _) (.cons (.int _ _) (.cons (.int _ _) .nil)))))
  have harg : ARel (fun _ => none) #[.agg #[.int .i64 X0_0, .int .i64 X0_1, .int .i64 X0_2, .int .i64 X0_3, .int .i64 X0_4]] #[.agg #[.int .i64 X0_0, .int .i64 X0_1, .int .i64 X0_2, .int .i64 X0_3, .int .i64 X0_4]] := ARel.toList.2 (.cons (.agg _ _ ag0.1 ag0.2) .nil)
  exact calls_of_acalls (hw.mono fun v H' h => h.1) rfl E0.rel harg E0.ro

set_option maxRecDepth 100000 in
theorem witnessBounds_lifted (os : Os) (started : os.Started) (H : Type) (enc : TypeId × Value → H) :
    ReturnsInHanded {} Try.checked os 6 .any (Rows.witnessBoundsSpec.pre6 enc Try.prog Try.f6 Rows.witnessBoundsRow.domain false) (Rows.witnessBoundsSpec.post enc Try.prog Try.f6 false true false false) := by
  refine returnsInHanded_of_change_sized (C := Try.checked) own9 started (by kernel_rfl) Try.func6
    (ChangeSpec.witness6 (enc := enc) (C := Try.checked) false ⟨#[], #[.agg #[.int .i64 0, .int .i64 0, .int .i64 0, .int .i64 0, .int .i64 0]], []⟩ 8 (by kernel_rfl) (by kernel_rfl) (by kernel_rfl) (by kernel_rfl)) ?_
  intro W base args ds gs before hval0 hW hcnd hsz _
  have hval : ∀ (j : Nat) t v, Try.f6.params[j]? = some t → args[j]? = some v → Value.okWide Try.prog W .any base t v := hval0
  have hW' := hW
  obtain ⟨p, q, hA0, hV, rfl, hfz, hnd⟩ := hW
  have hA : DataW.TrodAll enc Try.prog W 0 (fun _ => true) true Try.f6.params.toList args.toList ds p := hA0
  have hsz' : (DataW.weightsEach Try.prog (Try.f6.params.toList ++ Rows.witnessBoundsSpec.plain.varTypes Try.prog) (ds ++ gs)).all (· ≤ reachBytes) = true := hsz
  rw [Try.params6] at hA hval hsz'
  obtain ⟨v0, vs0, d0, ds0, p0, q0, hargs, rfl, rfl, h0, r0⟩ := trodAll_cons hA
  obtain ⟨rfl, rfl, rfl⟩ := trodAll_nil r0
  obtain rfl : args = #[v0] := by cases args; simp_all
  obtain ⟨rfl, rfl⟩ := trodVars_none hV
  have wt : ∀ (j : Nat) t d, (#[67] : Array TypeId).toList[j]? = some t → [d0][j]? = some d → ∀ n ∈ d.weights Try.prog t, n ≤ reachBytes := fun j t d ht hd n hn => by
    have hlt := (List.getElem?_eq_some_iff.1 ht).1
    have hltd := (List.getElem?_eq_some_iff.1 hd).1
    have := List.all_eq_true.1 hsz' n (DataW.weights_mem_each (j := j) (t := t) (d := d) (by rw [List.getElem?_append_left hlt]; exact ht) (by rw [List.getElem?_append_left hltd]; exact hd) n hn)
    simpa using this
  have lt0 : ∀ x ∈ p0, x.block < W.heap.size := by obtain ⟨m, hm⟩ := h0; exact DataW.trod_lt m _ _ _ hm
  refine (witnessBounds_walk (enc := enc) W v0 (okWide_struct Try.underlying67 (hval 0 67 v0 rfl rfl)) (Rd.of h0 (wt 0 67 d0 rfl rfl))).mono fun e W' ⟨he, bel⟩ => ?_
  subst he
  exact ⟨_, rfl, _, _, _, [], _, [], hW', trodAll_mk1 (shut_bool Try.underlying4 _), (trodAll_cons_mk (Below.trod laidOut9 (by kernel_rfl) (of_decide_eq_true (by kernel_rfl)) h0 bel lt0) trodAll_mk0), rfl, bel.frame _, fun h => by cases h⟩

theorem witnessBounds_holds : Rows.WitnessBoundsSaid :=
  OpenClaim.holds_of_wide 6 Try.f6 rfl rfl rfl rfl rfl rfl rfl ⟨rfl, rfl, rfl, rfl, rfl⟩ rfl rfl rfl rfl rfl (by kernel_rfl) Try.func6 (by kernel_rfl)
    (of_decide_eq_true (by kernel_rfl)) (by unfold Func.isWrapper; first | (rw [if_pos (by decide +kernel)]; kernel_rfl) | (rw [if_neg (by decide +kernel)]; exact ⟨rfl, rfl⟩))
    (fun os started H enc _ => witnessBounds_lifted os started H enc)

#print axioms witnessBounds_holds
end Go.Proofs.Ytkfblnnococniaa
