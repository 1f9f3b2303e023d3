/-
  Whatever is handed in, WalkLists returns true, and what was handed in reads as it did; the conditions are the row's own, no other.
-/
import Derived.Test.YtbjamignglibpaaDoorRows
import Derived.Test.YtbjamignglibpaaDoorKWi1
import Derived.Test.YtbjamignglibpaaDoorPrWalkLists
import Derived.Test.YtbjamignglibpaaDoorVeE
import Derived.WalkKit
import Derived.ProofKit
import Derived.OpenShut
import Derived.ChangeOld
import Derived.Below
import Derived.Test.YtbjamignglibpaaDoorTie
import Derived.Test.YtbjamignglibpaaDoorCards
import Derived.JoinedOf
import Derived.LaidHandle
import Derived.SevenTiedAt
namespace Go.Proofs.YtbjamignglibpaaDoor
open Go.ChangeShapes Go.WideShapes Go.ChangeAt Go.RowKit Go.Vd
set_option linter.unusedVariables false
set_option linter.unusedSimpArgs false

theorem own9 : ownKnob Tryd.prog.godebug = none := by kernel_rfl
theorem laidOut9 : laidOutB Tryd.prog = true := by kernel_rfl

theorem et9 : Tryd.prog.globalNamed "errors.errorType" = some 0 := by kernel_rfl
theorem rt9 : (Tryd.prog.cutTypes.find? (·.1 == "internal/reflectlite.rtype")).map (·.2) = some 173 := by kernel_rfl
theorem oneRow9 : ((List.range 232).filter fun t => Tryd.prog.rowNamed t [101, 114, 114, 111, 114]) = [25] := by kernel_rfl
theorem size9 : Tryd.prog.types.size = 232 := by kernel_rfl
theorem handle_of_laid {W : World} (h : laidMetH Tryd.prog Rows.walkListsRow.laid W) : W.cell? ⟨0, 0, none⟩ = some (.iface 173 (.agg #[.pointer (some ⟨1, 25, none⟩)])) := by
  have h' : laidMet Tryd.prog [] W ∧ handlesMet Tryd.prog Rows.walkListsRow.laid W := h
  obtain ⟨name, u, ty, e1, e2, e3, e4, e5⟩ := h'.2 _ (List.mem_singleton.2 rfl)
  have en : name = [101, 114, 114, 111, 114] := (Option.some.inj e1).symm
  subst en
  obtain rfl := Option.some.inj (rt9.symm.trans e2)
  have hm : ty ∈ (List.range 232).filter fun t => Tryd.prog.rowNamed t [101, 114, 114, 111, 114] := List.mem_filter.2 ⟨List.mem_range.2 (by rw [← size9]; exact e3), e4⟩
  rw [oneRow9] at hm
  obtain rfl := List.mem_singleton.1 hm
  have hh : typeHandle Tryd.prog 25 = .pointer (some ⟨1, 25, none⟩) := by kernel_rfl
  rw [hh] at e5
  simpa using World.var?_cell et9 e5 0
theorem pin_of_laid {W : World} (h : laidMetH Tryd.prog Rows.walkListsRow.laid W) : ∀ v, pinV = some v → ∃ c ty fr, W.heap[0]? = some (.cells c ty fr) ∧ c[0]? = some v := by
  intro v hv
  obtain rfl := Option.some.inj hv
  exact (cell_heap (handle_of_laid h)).2
noncomputable def laidWorld (os : Os) : World :=
  let w0 := World.holding Tryd.prog os ⟨#[], #[], []⟩
  { w0 with heap := w0.heap.modify 0 fun
      | .cells _ t frozen => .cells #[.iface 173 (.agg #[.pointer (some ⟨1, 25, none⟩)])] t frozen
      | o => o }
theorem laidWorld_met (os : Os) (args : Array Value) : laidMetH Tryd.prog Rows.walkListsRow.laid ((laidWorld os).forCall (fun _ _ => 0) ⟨#[], args, []⟩).memory :=
  laidMetH_of_parts (laidMet_nil _ _) (by kernel_rfl)

theorem int_rd {Hd : Type} {enc : TypeId × Value → Hd} {W : World} (cs : List Value) (h : Rd enc Tryd.prog W 3 cs) : ∃ x : Int, cs = encI .i64 x ∧ (Lit.int .i64 x).wf = true := by
  obtain ⟨n, h1, h2⟩ := h.int Tryd.underlying3
  exact ⟨n, h1, h2⟩

theorem walkLists_walk {Hd : Type} {enc : TypeId × Value → Hd} (W : World) (v0 v1 : Value) (hpin : ∀ v, pinV = some v → ∃ c ty fr, W.heap[0]? = some (.cells c ty fr) ∧ c[0]? = some v) (k0 : ∃ a l c, v0 = .slice a l c) (k1 : ∃ a l c, v1 = .slice a l c)
    (r0 : Rd enc Tryd.prog W 22 v0.cells.toList) (r1 : Rd enc Tryd.prog W 22 v1.cells.toList) :
    Calls Tryd.prog 3 #[v0, v1] W fun e w' => e = .returned (.bool true) ∧ Below W.heap.size W w' := by
  have hb3 : Tryd.prog.bytesOf 3 = 8 := by kernel_rfl
  have hr : reachBytes = 140737488351232 := by decide
  obtain ⟨d0, X0, e0, s0⟩ := r0.slice (en := encI .i64) (sz := 1) Tryd.underlying22 (by kernel_rfl) (fun _ => rfl) int_rd
  obtain ⟨aa0, ll0, cc0, rfl⟩ := k0
  obtain rfl : d0 = .slice aa0 ll0 cc0 := by
    have q : (Value.slice aa0 ll0 cc0).cells.toList = [.slice aa0 ll0 cc0] := rfl
    rw [q] at e0; cases e0; rfl
  obtain ⟨d1, X1, e1, s1⟩ := r1.slice (en := encI .i64) (sz := 1) Tryd.underlying22 (by kernel_rfl) (fun _ => rfl) int_rd
  obtain ⟨aa1, ll1, cc1, rfl⟩ := k1
  obtain rfl : d1 = .slice aa1 ll1 cc1 := by
    have q : (Value.slice aa1 ll1 cc1).cells.toList = [.slice aa1 ll1 cc1] := rfl
    rw [q] at e1; cases e1; rfl
  obtain ⟨μ0, H0, b0, f0, E0, x0, l0, va0, qa0⟩ := s0.ent (Ent.nil W hpin) (by decide) (fun _ => rfl) (fun _ => rfl) (fun x u hu => by simp [encI] at hu; subst hu; rfl)
  have n0x := s0.len
  rw [hb3, hr] at n0x
  obtain ⟨μ1, H1, b1, f1, E1, x1, l1, va1, qa1⟩ := s1.ent E0 (by decide) (fun _ => rfl) (fun _ => rfl) (fun x u hu => by simp [encI] at hu; subst hu; rfl)
  have n1x := s1.len
  rw [hb3, hr] at n1x
  have hp : z_viaductlaw09_WalkLists X0 X1 = some true := by
    apply p_WalkLists <;> first | omega | assumption
  have hw := c_viaductlaw09_WalkLists E1.wf (qa0.ext x1) qa1 hp
  have harg : ARel μ1 #[b0, b1] #[.slice aa0 ll0 cc0, .slice aa1 ll1 cc1] := ARel.toList.2 (.cons (va0.mono l1) (.cons va1 .nil))
  exact calls_of_acalls (hw.mono fun v H' h => h.1) rfl E1.rel harg E1.ro

set_option maxRecDepth 100000 in
theorem walkLists_lifted (os : Os) (started : os.Started) (H : Type) (enc : TypeId × Value → H) :
    ReturnsInHanded {} Tryd.checked os 3 .any (fun w args => (Rows.walkListsSpec.pre enc Tryd.prog Tryd.f3 Rows.walkListsRow.domain false w args ∧ laidMetH Tryd.prog Rows.walkListsRow.laid w) ∧ sizedMet enc Tryd.prog Tryd.f3 (OpenSpec.ofChange Rows.walkListsSpec) false w args) (Rows.walkListsSpec.post enc Tryd.prog Tryd.f3 false true false false) := by
  refine returnsInHanded_of_change_and (C := Tryd.checked) (X := fun w _ => laidMetH Tryd.prog Rows.walkListsRow.laid w) (fun _ _ _ hh h => h.of_heap hh) own9 started (by kernel_rfl) Tryd.func3
    (ChangeSpec.witness_at (enc := enc) (C := Tryd.checked) (os := os) (X := fun w _ => laidMetH Tryd.prog Rows.walkListsRow.laid w) false (laidWorld os) #[.slice none 0 0, .slice none 0 0] 8 rfl (by kernel_rfl) (by kernel_rfl) (by kernel_rfl) (by kernel_rfl) (by kernel_rfl) (laidWorld_met os _)) ?_
  intro W base args ds gs before hval0 hW hcnd hsz hL _
  have hval : ∀ (j : Nat) t v, Tryd.f3.params[j]? = some t → args[j]? = some v → Value.okWide Tryd.prog W .any base t v := hval0
  have hW' := hW
  obtain ⟨p, q, hA0, hV, rfl, hfz, hnd⟩ := hW
  have hA : DataW.TrodAll enc Tryd.prog W 0 (fun _ => true) true Tryd.f3.params.toList args.toList ds p := hA0
  have hsz' : (DataW.weightsEach Tryd.prog (Tryd.f3.params.toList ++ Rows.walkListsSpec.plain.varTypes Tryd.prog) (ds ++ gs)).all (· ≤ reachBytes) = true := hsz
  rw [Tryd.params3] at hA hval hsz'
  obtain ⟨v0, vs0, d0, ds0, p0, q0, hargs, rfl, rfl, h0, r0⟩ := trodAll_cons hA
  obtain ⟨v1, vs1, d1, ds1, p1, q1, rfl, rfl, rfl, h1, r1⟩ := trodAll_cons r0
  obtain ⟨rfl, rfl, rfl⟩ := trodAll_nil r1
  obtain rfl : args = #[v0, v1] := by cases args; simp_all
  obtain ⟨rfl, rfl⟩ := trodVars_none hV
  have wt : ∀ (j : Nat) t d, (#[22, 22] : Array TypeId).toList[j]? = some t → [d0, d1][j]? = some d → ∀ n ∈ d.weights Tryd.prog t, n ≤ reachBytes := fun j t d ht hd n hn => by
    have hlt := (List.getElem?_eq_some_iff.1 ht).1
    have hltd := (List.getElem?_eq_some_iff.1 hd).1
    have := List.all_eq_true.1 hsz' n (DataW.weights_mem_each (j := j) (t := t) (d := d) (by rw [List.getElem?_append_left hlt]; exact ht) (by rw [List.getElem?_append_left hltd]; exact hd) n hn)
    simpa using this
  have lt0 : ∀ x ∈ p0, x.block < W.heap.size := by obtain ⟨m, hm⟩ := h0; exact DataW.trod_lt m _ _ _ hm
  have lt1 : ∀ x ∈ p1, x.block < W.heap.size := by obtain ⟨m, hm⟩ := h1; exact DataW.trod_lt m _ _ _ hm
  refine (walkLists_walk (enc := enc) W v0 v1 (pin_of_laid hL) (okWide_slice Tryd.underlying22 (hval 0 22 v0 rfl rfl)) (okWide_slice Tryd.underlying22 (hval 1 22 v1 rfl rfl)) (Rd.of h0 (wt 0 22 d0 rfl rfl)) (Rd.of h1 (wt 1 22 d1 rfl rfl))).mono fun e W' ⟨he, bel⟩ => ?_
  subst he
  exact ⟨_, rfl, _, _, _, [], _, [], hW', trodAll_mk1 (shut_bool Tryd.underlying4 _), (trodAll_cons_mk (Below.trod laidOut9 (by kernel_rfl) (of_decide_eq_true (by kernel_rfl)) h0 bel lt0) (trodAll_cons_mk (Below.trod laidOut9 (by kernel_rfl) (of_decide_eq_true (by kernel_rfl)) h1 bel lt1) trodAll_mk0)), rfl, bel.frame _, fun h => by cases h⟩

theorem walkLists_holds : Rows.WalkListsSaid :=
  OpenClaim.holds_of_wide 3 Tryd.f3 rfl rfl rfl rfl rfl rfl rfl ⟨rfl, rfl, rfl, rfl, rfl⟩ rfl rfl rfl rfl rfl (by kernel_rfl) Tryd.func3 (by kernel_rfl)
    (of_decide_eq_true (by kernel_rfl)) (by unfold Func.isWrapper; first | (rw [if_pos (by decide +kernel)]; kernel_rfl) | (rw [if_neg (by decide +kernel)]; exact ⟨rfl, rfl⟩))
    (fun os started H enc _ => walkLists_lifted os started H enc)

theorem walkLists_card_holds : Rows.WalkListsCardSaid :=
  Claim7.holds_tied_plain_at .later [] [.handle] true (true, "dc61cebcb4560b5d79f108c8209b93f512810f37116c8fa55f8a0ffcce7d689c") true
    walkLists_holds (fun _ h => by cases h) (by kernel_rfl) (fun _ h => by cases h) walkLists_row_tie rfl ⟨rfl, rfl⟩ (by kernel_rfl) rfl
    (fun f fn hf hfn => by
      obtain rfl : f = 3 := Option.some.inj ((show Tryd.prog.funcNamed "viaduct/viaductlaw09.WalkLists" = some 3 by kernel_rfl).symm.trans hf) |>.symm
      obtain rfl : fn = Tryd.f3 := (Option.some.inj (Tryd.func3.symm.trans hfn)).symm
      exact ⟨by kernel_rfl, fun j t ht => by
        rw [Tryd.params3] at ht
        rcases j with _ | _ | j
        · obtain rfl : t = 22 := by simpa using ht.symm
          exact (show Tryd.prog.wantsStandIn 22 = false by kernel_rfl)
        · obtain rfl : t = 22 := by simpa using ht.symm
          exact (show Tryd.prog.wantsStandIn 22 = false by kernel_rfl)
        · simp at ht⟩)
    (by kernel_rfl)
#print axioms walkLists_card_holds
end Go.Proofs.YtbjamignglibpaaDoor
