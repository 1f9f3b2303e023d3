/-
  Whatever is handed in, OverlayFixed returns true, and what was handed in reads as it did; the conditions are the row's own, no other.
-/
import Derived.Test.YtodoafhphhbaaaaDoorPof3
import Derived.Test.YtodoafhphhbaaaaDoorRows
import Derived.Test.YtodoafhphhbaaaaDoorPofVeE
import Derived.WalkKit
import Derived.ProofKit
import Derived.OpenShut
import Derived.ChangeOld
import Derived.Below
import Derived.Test.YtodoafhphhbaaaaDoorTie
import Derived.Test.YtodoafhphhbaaaaDoorCards
import Derived.JoinedOf
import Derived.LaidHandle
import Derived.SevenTiedAt
set_option linter.unusedVariables false
set_option linter.unusedSimpArgs false
set_option linter.unusedSectionVars false
/-! (RowOverlayFixed) -/

namespace Go.Proofs.YtodoafhphhbaaaaDoor
open Go.ChangeShapes Go.WideShapes Go.ChangeAt Go.RowKit Go.Vd
set_option linter.unusedVariables false
set_option linter.unusedSimpArgs false

theorem own9 : ownKnob Tryd.prog.godebug = none := by kernel_rfl
theorem laidOut9 : laidOutB Tryd.prog = true := by kernel_rfl

theorem et9 : Tryd.prog.globalNamed "errors.errorType" = some 0 := by kernel_rfl
theorem rt9 : (Tryd.prog.cutTypes.find? (·.1 == "internal/reflectlite.rtype")).map (·.2) = some 110 := by kernel_rfl
theorem oneRow9 : ((List.range 175).filter fun t => Tryd.prog.rowNamed t [101, 114, 114, 111, 114]) = [25] := by kernel_rfl
theorem size9 : Tryd.prog.types.size = 175 := by kernel_rfl
theorem handle_of_laid {W : World} (h : laidMetH Tryd.prog Rows.overlayFixedRow.laid W) : W.cell? ⟨0, 0, none⟩ = some (.iface 110 (.agg #[.pointer (some ⟨1, 25, none⟩)])) := by
  have h' : laidMet Tryd.prog [] W ∧ handlesMet Tryd.prog Rows.overlayFixedRow.laid W := h
  obtain ⟨name, u, ty, e1, e2, e3, e4, e5⟩ := h'.2 _ (List.mem_singleton.2 rfl)
  have en : name = [101, 114, 114, 111, 114] := (Option.some.inj e1).symm
  subst en
  obtain rfl := Option.some.inj (rt9.symm.trans e2)
  have hm : ty ∈ (List.range 175).filter fun t => Tryd.prog.rowNamed t [101, 114, 114, 111, 114] := List.mem_filter.2 ⟨List.mem_range.2 (by rw [← size9]; exact e3), e4⟩
  rw [oneRow9] at hm
  obtain rfl := List.mem_singleton.1 hm
  have hh : typeHandle Tryd.prog 25 = .pointer (some ⟨1, 25, none⟩) := by kernel_rfl
  rw [hh] at e5
  simpa using World.var?_cell et9 e5 0
theorem pin_of_laid {W : World} (h : laidMetH Tryd.prog Rows.overlayFixedRow.laid W) : ∀ v, pinV = some v → ∃ c ty fr, W.heap[0]? = some (.cells c ty fr) ∧ c[0]? = some v := by
  intro v hv
  obtain rfl := Option.some.inj hv
  exact (cell_heap (handle_of_laid h)).2
noncomputable def laidWorld (os : Os) : World :=
  let w0 := World.holding Tryd.prog os ⟨#[], #[], []⟩
  { w0 with heap := w0.heap.modify 0 fun
      | .cells _ t frozen => .cells #[.iface 110 (.agg #[.pointer (some ⟨1, 25, none⟩)])] t frozen
      | o => o }
theorem laidWorld_met (os : Os) (args : Array Value) : laidMetH Tryd.prog Rows.overlayFixedRow.laid ((laidWorld os).forCall (fun _ _ => 0) ⟨#[], args, []⟩).memory :=
  laidMetH_of_parts (laidMet_nil _ _) (by kernel_rfl)

theorem i64_rng {x : Int} (h : (Lit.int .i64 x).wf = true) : -9223372036854775808 ≤ x ∧ x ≤ 9223372036854775807 := by
  simp only [Lit.wf, IntKind.min, IntKind.max, IntKind.signed, IntKind.bits, Bool.and_eq_true, decide_eq_true_eq, if_true, Bool.false_eq_true, if_false] at h
  omega
theorem u64_rng {x : Int} (h : (Lit.int .u64 x).wf = true) : 0 ≤ x ∧ x ≤ 18446744073709551615 := by
  simp only [Lit.wf, IntKind.min, IntKind.max, IntKind.signed, IntKind.bits, Bool.and_eq_true, decide_eq_true_eq, if_true, Bool.false_eq_true, if_false] at h
  omega
theorem int_rd {Hd : Type} {enc : TypeId × Value → Hd} {W : World} (cs : List Value) (h : Rd enc Tryd.prog W 3 cs) : ∃ x : Int, cs = Go.Vd.encI .i64 x ∧ (Lit.int .i64 x).wf = true := by
  obtain ⟨n, h1, h2⟩ := h.int Tryd.underlying3
  exact ⟨n, h1, h2⟩

theorem overlayFixed_walk {Hd : Type} {enc : TypeId × Value → Hd} (W : World)  (hpin : ∀ v, pinV = some v → ∃ c ty fr, W.heap[0]? = some (.cells c ty fr) ∧ c[0]? = some v) 
     :
    Calls Tryd.prog 3 #[] W fun e w' => e = .returned (.bool true) ∧ Below W.heap.size W w' := by
  have hb3 : Tryd.prog.bytesOf 3 = 8 := by kernel_rfl
  have hr : reachBytes = 140737488351232 := by decide
  have E0 := Ent.nil W hpin
  have hw := c_viaductlaw11_OverlayFixed (H := AH.nil) E0.wf p_OverlayFixed
  have harg : ARel (fun _ => none) #[] #[] := ARel.toList.2 .nil
  exact calls_of_acalls (hw.mono fun v H' h => h.1) rfl E0.rel harg E0.ro

set_option maxRecDepth 100000 in
theorem overlayFixed_lifted (os : Os) (started : os.Started) (H : Type) (enc : TypeId × Value → H) :
    ReturnsInHanded {} Tryd.checked os 3 .any (fun w args => (Rows.overlayFixedSpec.pre enc Tryd.prog Tryd.f3 Rows.overlayFixedRow.domain false w args ∧ laidMetH Tryd.prog Rows.overlayFixedRow.laid w) ∧ sizedMet enc Tryd.prog Tryd.f3 (OpenSpec.ofChange Rows.overlayFixedSpec) false w args) (Rows.overlayFixedSpec.post enc Tryd.prog Tryd.f3 false true false false) := by
  refine returnsInHanded_of_change_and (C := Tryd.checked) (X := fun w _ => laidMetH Tryd.prog Rows.overlayFixedRow.laid w) (fun _ _ _ hh h => h.of_heap hh) own9 started (by kernel_rfl) Tryd.func3
    (ChangeSpec.witness_at (enc := enc) (C := Tryd.checked) (os := os) (X := fun w _ => laidMetH Tryd.prog Rows.overlayFixedRow.laid w) false (laidWorld os) #[] 8 rfl (by kernel_rfl) (by kernel_rfl) (by kernel_rfl) (by kernel_rfl) (by kernel_rfl) (laidWorld_met os _)) ?_
  intro W base args ds gs before hval0 hW hcnd hsz hL _
  have hval : ∀ (j : Nat) t v, Tryd.f3.params[j]? = some t → args[j]? = some v → Value.okWide Tryd.prog W .any base t v := hval0
  have hW' := hW
  obtain ⟨p, q, hA0, hV, rfl, hfz, hnd⟩ := hW
  have hA : DataW.TrodAll enc Tryd.prog W 0 (fun _ => true) true Tryd.f3.params.toList args.toList ds p := hA0
  have hsz' : (DataW.weightsEach Tryd.prog (Tryd.f3.params.toList ++ Rows.overlayFixedSpec.plain.varTypes Tryd.prog) (ds ++ gs)).all (· ≤ reachBytes) = true := hsz
  rw [Tryd.params3] at hA hval hsz'
  obtain ⟨hargs, rfl, rfl⟩ := trodAll_nil hA
  obtain rfl : args = #[] := by cases args; simp_all
  obtain ⟨rfl, rfl⟩ := trodVars_none hV
  refine (overlayFixed_walk (enc := enc) W  (pin_of_laid hL)  ).mono fun e W' ⟨he, bel⟩ => ?_
  subst he
  exact ⟨_, rfl, _, _, _, [], _, [], hW', trodAll_mk1 (shut_bool Tryd.underlying4 _), trodAll_mk0, rfl, bel.frame _, fun h => by cases h⟩

theorem overlayFixed_holds : Rows.OverlayFixedSaid :=
  OpenClaim.holds_of_wide 3 Tryd.f3 rfl rfl rfl rfl rfl rfl rfl ⟨rfl, rfl, rfl, rfl, rfl⟩ rfl rfl rfl rfl rfl (by kernel_rfl) Tryd.func3 (by kernel_rfl)
    (of_decide_eq_true (by kernel_rfl)) (by unfold Func.isWrapper; first | (rw [if_pos (by decide +kernel)]; kernel_rfl) | (rw [if_neg (by decide +kernel)]; exact ⟨rfl, rfl⟩))
    (fun os started H enc _ => overlayFixed_lifted os started H enc)

theorem overlayFixed_card_holds : Rows.OverlayFixedCardSaid :=
  Claim7.holds_tied_plain_at .later [] [.handle] true (true, "d9820f93c97d76965c7a8a0c34493217911c2b5b6cb9c0a239f037dc3a933e7f") true
    overlayFixed_holds (fun _ h => by cases h) (by kernel_rfl) (fun _ h => by cases h) overlayFixed_row_tie rfl ⟨rfl, rfl⟩ (by kernel_rfl) rfl
    (fun f fn hf hfn => by
      obtain rfl : f = 3 := Option.some.inj ((show Tryd.prog.funcNamed "viaduct/viaductlaw11.OverlayFixed" = some 3 by kernel_rfl).symm.trans hf) |>.symm
      obtain rfl : fn = Tryd.f3 := (Option.some.inj (Tryd.func3.symm.trans hfn)).symm
      exact ⟨by kernel_rfl, fun j t ht => by
        rw [Tryd.params3] at ht
        simp at ht⟩)
    (by kernel_rfl)
#print axioms overlayFixed_card_holds
end Go.Proofs.YtodoafhphhbaaaaDoor
