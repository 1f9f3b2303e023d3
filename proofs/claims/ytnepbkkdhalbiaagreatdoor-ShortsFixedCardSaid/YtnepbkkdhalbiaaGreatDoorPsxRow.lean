/-
 Whatever is handed in, ShortsFixed returns true, and what was handed in reads as it did; the conditions are the row's own, no other.
-/
import Derived.Test.YtnepbkkdhalbiaaGreatDoorPsx3
import Derived.Test.YtnepbkkdhalbiaaGreatDoorRows
import Derived.Test.YtnepbkkdhalbiaaGreatDoorPsxVeE
import Derived.WalkKit
import Derived.ProofKit
import Derived.OpenShut
import Derived.ChangeOld
import Derived.Below
import Derived.Test.YtnepbkkdhalbiaaGreatDoorTie
import Derived.Test.YtnepbkkdhalbiaaGreatDoorCards
import Derived.JoinedOf
import Derived.LaidHandle
import Derived.SevenTiedAt
set_option linter.unusedVariables false
set_option linter.unusedSimpArgs false
set_option linter.unusedSectionVars false
/-! (RowShortsFixed) -/

namespace Go.Proofs.YtnepbkkdhalbiaaGreatDoor
open Go.ChangeShapes Go.WideShapes Go.ChangeAt Go.RowKit Go.Vd
set_option linter.unusedVariables false
set_option linter.unusedSimpArgs false
theorem own9 : ownKnob Tryz.prog.godebug = none := by kernel_rfl
theorem laidOut9 : laidOutB Tryz.prog = true := by kernel_rfl
theorem et9 : Tryz.prog.globalNamed "errors.errorType" = some 0 := by kernel_rfl
theorem rt9 : (Tryz.prog.cutTypes.find? (·.1 == "internal/reflectlite.rtype")).map (·.2) = some 192 := by kernel_rfl
theorem oneRow9 : ((List.range 273).filter fun t => Tryz.prog.rowNamed t [101, 114, 114, 111, 114]) = [38] := by kernel_rfl
theorem size9 : Tryz.prog.types.size = 273 := by kernel_rfl
theorem handle_of_laid {W : World} (h : laidMetH Tryz.prog Rows.shortsFixedRow.laid W) : W.cell? ⟨0, 0, none⟩ = some (.iface 192 (.agg #[.pointer (some ⟨1, 38, none⟩)])) := by
 have h' : laidMet Tryz.prog [] W /\ handlesMet Tryz.prog Rows.shortsFixedRow.laid W := h
 obtain ⟨name, u, ty, e1, e2, e3, e4, e5⟩ := h'.2 _ (List.mem_singleton.2 rfl)
 have en : name = [101, 114, 114, 111, 114] := (Option.some.inj e1).symm
 subst en
 obtain rfl := Option.some.inj (rt9.symm.trans e2)
 have hm : ty ∈ (List.range 273).filter fun t => Tryz.prog.rowNamed t [101, 114, 114, 111, 114] := List.mem_filter.2 ⟨List.mem_range.2 (by rw [← size9]; exact e3), e4⟩
 rw [oneRow9] at hm
 obtain rfl := List.mem_singleton.1 hm
 have hh : typeHandle Tryz.prog 38 = .pointer (some ⟨1, 38, none⟩) := by kernel_rfl
 rw [hh] at e5
 simpa using World.var?_cell et9 e5 0
theorem pin_of_laid {W : World} (h : laidMetH Tryz.prog Rows.shortsFixedRow.laid W) : ∀ v, ZeU = some v -> ∃ c ty fr, W.heap[0]? = some (.cells c ty fr) /\ c[0]? = some v := by
 intro v hv
 obtain rfl := Option.some.inj hv
 exact (Zkz (handle_of_laid h)).2
noncomputable def laidWorld (os : Os) : World :=
 let w0 := World.holding Tryz.prog os ⟨#[], #[], []⟩
 { w0 with heap := w0.heap.modify 0 fun
   | .cells _ t frozen => .cells #[.iface 192 (.agg #[.pointer (some ⟨1, 38, none⟩)])] t frozen
   | o => o }
theorem laidWorld_met (os : Os) (args : Array Value) : laidMetH Tryz.prog Rows.shortsFixedRow.laid ((laidWorld os).forCall (fun _ _ => 0) ⟨#[], args, []⟩).memory :=
 laidMetH_of_parts (laidMet_nil _ _) (by kernel_rfl)
theorem shortsFixed_walk {Hd : Type} {enc : TypeId × Value -> Hd} (W : World)  (hpin : ∀ v, ZeU = some v -> ∃ c ty fr, W.heap[0]? = some (.cells c ty fr) /\ c[0]? = some v) 
   :
  Calls Tryz.prog 5 #[] W fun e w' => e = .returned (.bool true) /\ Below W.heap.size W w' := by
 have hb3 : Tryz.prog.bytesOf 3 = 8 := by kernel_rfl
 have hr : reachBytes = 140737488351232 := by decide
 have E0 := Ent.nil W hpin
 have hw := ZdP (H := AH.nil) E0.wf ZhU
 have harg : ARel (fun _ => none) #[] #[] := ARel.toList.2 .nil
 exact ZgM (hw.mono fun v H' h => h.1) rfl E0.rel harg E0.ro
set_option maxRecDepth 100000 in
theorem shortsFixed_lifted (os : Os) (started : os.Started) (H : Type) (enc : TypeId × Value -> H) :
  ReturnsInHanded {} Tryz.checked os 5 .any (fun w args => (Rows.shortsFixedSpec.pre enc Tryz.prog Tryz.f5 Rows.shortsFixedRow.domain false w args /\ laidMetH Tryz.prog Rows.shortsFixedRow.laid w) /\ sizedMet enc Tryz.prog Tryz.f5 (OpenSpec.ofChange Rows.shortsFixedSpec) false w args) (Rows.shortsFixedSpec.post enc Tryz.prog Tryz.f5 false true false false) := by
 refine returnsInHanded_of_change_and (C := Tryz.checked) (X := fun w _ => laidMetH Tryz.prog Rows.shortsFixedRow.laid w) (fun _ _ _ hh h => h.of_heap hh) own9 started (by kernel_rfl) Tryz.func5
  (ChangeSpec.witness_at (enc := enc) (C := Tryz.checked) (os := os) (X := fun w _ => laidMetH Tryz.prog Rows.shortsFixedRow.laid w) false (laidWorld os) #[] 8 rfl (by kernel_rfl) (by kernel_rfl) (by kernel_rfl) (by kernel_rfl) (by kernel_rfl) (laidWorld_met os _)) ?_
 intro W base args ds gs before hval0 hW hcnd hsz hL _
 have hval : ∀ (j : Nat) t v, Tryz.f5.params[j]? = some t -> args[j]? = some v -> Value.okWide Tryz.prog W .any base t v := hval0
 have hW' := hW
 obtain ⟨p, q, hA0, hV, rfl, hfz, hnd⟩ := hW
 have hA : DataW.TrodAll enc Tryz.prog W 0 (fun _ => true) true Tryz.f5.params.toList args.toList ds p := hA0
 have hsz' : (DataW.weightsEach Tryz.prog (Tryz.f5.params.toList ++ Rows.shortsFixedSpec.plain.varTypes Tryz.prog) (ds ++ gs)).all (· ≤ reachBytes) = true := hsz
 rw [Tryz.params5] at hA hval hsz'
 obtain ⟨hargs, rfl, rfl⟩ := trodAll_nil hA
 obtain rfl : args = #[] := by cases args; simp_all
 obtain ⟨rfl, rfl⟩ := trodVars_none hV
 refine (shortsFixed_walk (enc := enc) W  (pin_of_laid hL)  ).mono fun e W' ⟨he, bel⟩ => ?_
 subst he
 exact ⟨_, rfl, _, _, _, [], _, [], hW', trodAll_mk1 (shut_bool Tryz.underlying4 _), trodAll_mk0, rfl, bel.frame _, fun h => by cases h⟩
theorem shortsFixed_holds : Rows.ShortsFixedSaid :=
 OpenClaim.holds_of_wide 5 Tryz.f5 rfl rfl rfl rfl rfl rfl rfl ⟨rfl, rfl, rfl, rfl, rfl⟩ rfl rfl rfl rfl rfl (by kernel_rfl) Tryz.func5 (by kernel_rfl)
  (of_decide_eq_true (by kernel_rfl)) (by unfold Func.isWrapper; first | (rw [if_pos (by decide +kernel)]; kernel_rfl) | (rw [if_neg (by decide +kernel)]; exact ⟨rfl, rfl⟩))
  (fun os started H enc _ => shortsFixed_lifted os started H enc)
theorem shortsFixed_card_holds : Rows.ShortsFixedCardSaid :=
 Claim7.holds_tied_plain_at .later [] [.handle] true (true, "6f2e3addb409469ccc1e1b1943001ec49f89ba8db8f38a2bdad0e7491ca09ffd") true
  shortsFixed_holds (fun _ h => by cases h) (by kernel_rfl) (fun _ h => by cases h) shortsFixed_row_tie rfl ⟨rfl, rfl⟩ (by kernel_rfl) rfl
  (fun f fn hf hfn => by
   obtain rfl : f = 5 := Option.some.inj ((show Tryz.prog.funcNamed "viaduct/viaductlaw13.ShortsFixed" = some 5 by kernel_rfl).symm.trans hf) |>.symm
   obtain rfl : fn = Tryz.f5 := (Option.some.inj (Tryz.func5.symm.trans hfn)).symm
   exact ⟨by kernel_rfl, fun j t ht => by
    rw [Tryz.params5] at ht
    simp at ht⟩)
  (by kernel_rfl)
#print axioms shortsFixed_card_holds
end Go.Proofs.YtnepbkkdhalbiaaGreatDoor
