/-
 Whatever is handed in, SearchTurned returns true, and what was handed in reads as it did; the conditions are the row's own, no other.
-/
import Derived.Test.YtlohhdkkhedejaaGreatDoorPst4
import Derived.Test.YtlohhdkkhedejaaGreatDoorRows
import Derived.Test.YtlohhdkkhedejaaGreatDoorPstVeE
import Derived.WalkKit
import Derived.ProofKit
import Derived.OpenShut
import Derived.ChangeOld
import Derived.Below
import Derived.Test.YtlohhdkkhedejaaGreatDoorTie
import Derived.Test.YtlohhdkkhedejaaGreatDoorCards
import Derived.JoinedOf
import Derived.LaidHandle
import Derived.SevenTiedAt
set_option linter.unusedVariables false
set_option linter.unusedSimpArgs false
set_option linter.unusedSectionVars false
/-! (RowSearchTurned) -/

namespace Go.Proofs.YtlohhdkkhedejaaGreatDoor
open Go.ChangeShapes Go.WideShapes Go.ChangeAt Go.RowKit Go.Vd
set_option linter.unusedVariables false
set_option linter.unusedSimpArgs false
theorem own9 : ownKnob Tryz.prog.godebug = none := by kernel_rfl
theorem laidOut9 : laidOutB Tryz.prog = true := by kernel_rfl
theorem et9 : Tryz.prog.globalNamed "errors.errorType" = some 0 := by kernel_rfl
theorem rt9 : (Tryz.prog.cutTypes.find? (·.1 == "internal/reflectlite.rtype")).map (·.2) = some 148 := by kernel_rfl
theorem oneRow9 : ((List.range 225).filter fun t => Tryz.prog.rowNamed t [101, 114, 114, 111, 114]) = [31] := by kernel_rfl
theorem size9 : Tryz.prog.types.size = 225 := by kernel_rfl
theorem handle_of_laid {W : World} (h : laidMetH Tryz.prog Rows.searchTurnedRow.laid W) : W.cell? ⟨0, 0, none⟩ = some (.iface 148 (.agg #[.pointer (some ⟨1, 31, none⟩)])) := by
 have h' : laidMet Tryz.prog [] W ∧ handlesMet Tryz.prog Rows.searchTurnedRow.laid W := h
 obtain ⟨name, u, ty, e1, e2, e3, e4, e5⟩ := h'.2 _ (List.mem_singleton.2 rfl)
 have en : name = [101, 114, 114, 111, 114] := (Option.some.inj e1).symm
 subst en
 obtain rfl := Option.some.inj (rt9.symm.trans e2)
 have hm : ty ∈ (List.range 225).filter fun t => Tryz.prog.rowNamed t [101, 114, 114, 111, 114] := List.mem_filter.2 ⟨List.mem_range.2 (by rw [← size9]; exact e3), e4⟩
 rw [oneRow9] at hm
 obtain rfl := List.mem_singleton.1 hm
 have hh : typeHandle Tryz.prog 31 = .pointer (some ⟨1, 31, none⟩) := by kernel_rfl
 rw [hh] at e5
 simpa using World.var?_cell et9 e5 0
theorem pin_of_laid {W : World} (h : laidMetH Tryz.prog Rows.searchTurnedRow.laid W) : ∀ v, pinV = some v → ∃ c ty fr, W.heap[0]? = some (.cells c ty fr) ∧ c[0]? = some v := by
 intro v hv
 obtain rfl := Option.some.inj hv
 exact (cell_heap (handle_of_laid h)).2
noncomputable def laidWorld (os : Os) : World :=
 let w0 := World.holding Tryz.prog os ⟨#[], #[], []⟩
 { w0 with heap := w0.heap.modify 0 fun
   | .cells _ t frozen => .cells #[.iface 148 (.agg #[.pointer (some ⟨1, 31, none⟩)])] t frozen
   | o => o }
theorem laidWorld_met (os : Os) (args : Array Value) : laidMetH Tryz.prog Rows.searchTurnedRow.laid ((laidWorld os).forCall (fun _ _ => 0) ⟨#[], args, []⟩).memory :=
 laidMetH_of_parts (laidMet_nil _ _) (by kernel_rfl)
theorem i64_rng {x : Int} (h : (Lit.int .i64 x).wf = true) : -9223372036854775808 ≤ x ∧ x ≤ 9223372036854775807 := by
 simp only [Lit.wf, IntKind.min, IntKind.max, IntKind.signed, IntKind.bits, Bool.and_eq_true, decide_eq_true_eq, if_true, Bool.false_eq_true, if_false] at h
 omega
theorem u64_rng {x : Int} (h : (Lit.int .u64 x).wf = true) : 0 ≤ x ∧ x ≤ 18446744073709551615 := by
 simp only [Lit.wf, IntKind.min, IntKind.max, IntKind.signed, IntKind.bits, Bool.and_eq_true, decide_eq_true_eq, if_true, Bool.false_eq_true, if_false] at h
 omega
theorem int_rd {Hd : Type} {enc : TypeId × Value → Hd} {W : World} (cs : List Value) (h : Rd enc Tryz.prog W 3 cs) : ∃ x : Int, cs = Go.Vd.encI .i64 x ∧ (Lit.int .i64 x).wf = true := by
 obtain ⟨n, h1, h2⟩ := h.int Tryz.underlying3
 exact ⟨n, h1, h2⟩
theorem parts3a {α : Type} {l : List α} {a0 a1 a2 : α} (h : l.length = 3) (h0 : (l.drop 0).take 1 = [a0]) (h1 : (l.drop 1).take 1 = [a1]) (h2 : (l.drop 2).take 1 = [a2]) : l = [a0, a1, a2] := by
 match l, h with
 | [x0, x1, x2], _ => simp at h0 h1 h2; simp [h0, h1, h2]
theorem arc_rd {Hd : Type} {enc : TypeId × Value → Hd} {W : World} (cs : List Value) (h : Rd enc Tryz.prog W 53 cs) : ∃ x : Int × Int × Int, cs = Go.Vd.enc_i64_i64_i64 x ∧ True := by
 obtain ⟨hl, hf⟩ := h.struct Tryz.underlying53
 have hc : Tryz.prog.cellsOf 53 = 3 := by kernel_rfl
 rw [hc] at hl
 have g0 : Rd enc Tryz.prog W 3 ((cs.drop 0).take (Tryz.prog.cellsOf 3)) := hf 0 _ rfl
 have g1 : Rd enc Tryz.prog W 3 ((cs.drop 1).take (Tryz.prog.cellsOf 3)) := hf 1 _ rfl
 have g2 : Rd enc Tryz.prog W 3 ((cs.drop 2).take (Tryz.prog.cellsOf 3)) := hf 2 _ rfl
 rw [show Tryz.prog.cellsOf 3 = 1 from by kernel_rfl] at g0 g1 g2
 obtain ⟨x0, e0, _⟩ := int_rd _ g0
 obtain ⟨x1, e1, _⟩ := int_rd _ g1
 obtain ⟨x2, e2, _⟩ := int_rd _ g2
 exact ⟨(x0, x1, x2), parts3a hl e0 e1 e2, trivial⟩
theorem parts2 {α : Type} {l : List α} {a0 a1 : α} (h : l.length = 2) (h0 : (l.drop 0).take 1 = [a0]) (h1 : (l.drop 1).take 1 = [a1]) : l = [a0, a1] := by
 match l, h with
 | [x0, x1], _ => simp at h0 h1; simp [h0, h1]
theorem searchTurned_walk {Hd : Type} {enc : TypeId × Value → Hd} (W : World) (v0 v1 v2 : Value) (hpin : ∀ v, pinV = some v → ∃ c ty fr, W.heap[0]? = some (.cells c ty fr) ∧ c[0]? = some v) (k0 : ∃ cs, v0 = .agg cs ∧ cs.size = Tryz.prog.cellsOf 51) (k1 : ∃ n, v1 = .int .i64 n) (k2 : ∃ n, v2 = .int .i64 n)
  (r0 : Rd enc Tryz.prog W 51 v0.cells.toList) (r1 : Rd enc Tryz.prog W 3 v1.cells.toList) (r2 : Rd enc Tryz.prog W 3 v2.cells.toList) :
  Calls Tryz.prog 4 #[v0, v1, v2] W fun e w' => e = .returned (.bool true) ∧ Below W.heap.size W w' := by
 have hb3 : Tryz.prog.bytesOf 3 = 8 := by kernel_rfl
 have hr : reachBytes = 140737488351232 := by decide
 have hbA : Tryz.prog.bytesOf 53 = 24 := by kernel_rfl
 obtain ⟨cs0, rfl, hcs0⟩ := k0
 obtain ⟨hl0, hf0⟩ := r0.struct Tryz.underlying51
 have hc0 : Tryz.prog.cellsOf 51 = 2 := by kernel_rfl
 have g0_0 : Rd enc Tryz.prog W 3 (((Value.agg cs0).cells.toList.drop 0).take (Tryz.prog.cellsOf 3)) := hf0 0 _ rfl
 rw [show Tryz.prog.cellsOf 3 = 1 from by kernel_rfl] at g0_0
 obtain ⟨X0_0, e0_0, q0_0⟩ := int_rd _ g0_0
 have w0_0 := i64_rng q0_0
 have g0_1 : Rd enc Tryz.prog W 49 (((Value.agg cs0).cells.toList.drop 1).take (Tryz.prog.cellsOf 49)) := hf0 1 _ rfl
 rw [show Tryz.prog.cellsOf 49 = 1 from by kernel_rfl] at g0_1
 obtain ⟨d0_1, X0_1, e0_1, s0_1⟩ := g0_1.slice (en := Go.Vd.enc_i64_i64_i64) (sz := 3) Tryz.underlying49 (by kernel_rfl) (fun _ => rfl) arc_rd
 rw [hc0] at hl0
 have hcs0' := parts2 (l := (Value.agg cs0).cells.toList) hl0 e0_0 e0_1
 obtain rfl : cs0 = #[.int .i64 X0_0, d0_1] := by
  have q : (Value.agg cs0).cells = cs0 := rfl
  rw [q] at hcs0'
  cases cs0; simp_all
 obtain ⟨X1, e1, q1⟩ := int_rd _ r1
 obtain ⟨n1, rfl⟩ := k1
 obtain rfl : n1 = X1 := by
  have q : (Value.int .i64 n1).cells.toList = [.int .i64 n1] := rfl
  rw [q] at e1; cases e1; rfl
 have w1 := i64_rng q1
 obtain ⟨X2, e2, q2⟩ := int_rd _ r2
 obtain ⟨n2, rfl⟩ := k2
 obtain rfl : n2 = X2 := by
  have q : (Value.int .i64 n2).cells.toList = [.int .i64 n2] := rfl
  rw [q] at e2; cases e2; rfl
 have w2 := i64_rng q2
 obtain ⟨μ0_1, H0_1, b0_1, f0_1, E0_1, x0_1, l0_1, va0_1, qa0_1⟩ := s0_1.ent (Ent.nil W hpin) (by decide) (fun _ => rfl) (fun _ => rfl) (fun x u hu => by simp only [Go.Vd.enc_i64_i64_i64, List.mem_cons, List.not_mem_nil, or_false] at hu; rcases hu with rfl | rfl | rfl <;> rfl)
 have n0_1x := s0_1.len
 rw [hbA, hr] at n0_1x
 have hp : z_viaductlaw08_SearchTurned X0_0 X0_1 n1 n2 = some true := by
  apply p_SearchTurned <;> first | omega | assumption
 have hw := c_viaductlaw08_SearchTurned E0_1.wf qa0_1 hp
 have ag0 : ARel μ0_1 #[.int .i64 X0_0, b0_1] #[.int .i64 X0_0, d0_1] := ARel.toList.2 (.cons (.int _ _) (.cons va0_1 .nil))
 have harg : ARel μ0_1 #[.agg #[.int .i64 X0_0, b0_1], .int .i64 n1, .int .i64 n2] #[.agg #[.int .i64 X0_0, d0_1], .int .i64 n1, .int .i64 n2] := ARel.toList.2 (.cons (.agg _ _ ag0.1 ag0.2) (.cons (.int _ _) (.cons (.int _ _) .nil)))
 exact calls_of_acalls (hw.mono fun v H' h => h.1) rfl E0_1.rel harg E0_1.ro
set_option maxRecDepth 100000 in
theorem searchTurned_lifted (os : Os) (started : os.Started) (H : Type) (enc : TypeId × Value → H) :
  ReturnsInHanded {} Tryz.checked os 4 .any (fun w args => (Rows.searchTurnedSpec.pre enc Tryz.prog Tryz.f4 Rows.searchTurnedRow.domain false w args ∧ laidMetH Tryz.prog Rows.searchTurnedRow.laid w) ∧ sizedMet enc Tryz.prog Tryz.f4 (OpenSpec.ofChange Rows.searchTurnedSpec) false w args) (Rows.searchTurnedSpec.post enc Tryz.prog Tryz.f4 false true false false) := by
 refine returnsInHanded_of_change_and (C := Tryz.checked) (X := fun w _ => laidMetH Tryz.prog Rows.searchTurnedRow.laid w) (fun _ _ _ hh h => h.of_heap hh) own9 started (by kernel_rfl) Tryz.func4
  (ChangeSpec.witness_at (enc := enc) (C := Tryz.checked) (os := os) (X := fun w _ => laidMetH Tryz.prog Rows.searchTurnedRow.laid w) false (laidWorld os) #[.agg #[.int .i64 0, .slice none 0 0], .int .i64 0, .int .i64 0] 8 rfl (by kernel_rfl) (by kernel_rfl) (by kernel_rfl) (by kernel_rfl) (by kernel_rfl) (laidWorld_met os _)) ?_
 intro W base args ds gs before hval0 hW hcnd hsz hL _
 have hval : ∀ (j : Nat) t v, Tryz.f4.params[j]? = some t → args[j]? = some v → Value.okWide Tryz.prog W .any base t v := hval0
 have hW' := hW
 obtain ⟨p, q, hA0, hV, rfl, hfz, hnd⟩ := hW
 have hA : DataW.TrodAll enc Tryz.prog W 0 (fun _ => true) true Tryz.f4.params.toList args.toList ds p := hA0
 have hsz' : (DataW.weightsEach Tryz.prog (Tryz.f4.params.toList ++ Rows.searchTurnedSpec.plain.varTypes Tryz.prog) (ds ++ gs)).all (· ≤ reachBytes) = true := hsz
 rw [Tryz.params4] at hA hval hsz'
 obtain ⟨v0, vs0, d0, ds0, p0, q0, hargs, rfl, rfl, h0, r0⟩ := trodAll_cons hA
 obtain ⟨v1, vs1, d1, ds1, p1, q1, rfl, rfl, rfl, h1, r1⟩ := trodAll_cons r0
 obtain ⟨v2, vs2, d2, ds2, p2, q2, rfl, rfl, rfl, h2, r2⟩ := trodAll_cons r1
 obtain ⟨rfl, rfl, rfl⟩ := trodAll_nil r2
 obtain rfl : args = #[v0, v1, v2] := by cases args; simp_all
 obtain ⟨rfl, rfl⟩ := trodVars_none hV
 have wt : ∀ (j : Nat) t d, (#[51, 3, 3] : Array TypeId).toList[j]? = some t → [d0, d1, d2][j]? = some d → ∀ n ∈ d.weights Tryz.prog t, n ≤ reachBytes := fun j t d ht hd n hn => by
  have hlt := (List.getElem?_eq_some_iff.1 ht).1
  have hltd := (List.getElem?_eq_some_iff.1 hd).1
  have := List.all_eq_true.1 hsz' n (DataW.weights_mem_each (j := j) (t := t) (d := d) (by rw [List.getElem?_append_left hlt]; exact ht) (by rw [List.getElem?_append_left hltd]; exact hd) n hn)
  simpa using this
 have lt0 : ∀ x ∈ p0, x.block < W.heap.size := by obtain ⟨m, hm⟩ := h0; exact DataW.trod_lt m _ _ _ hm
 have lt1 : ∀ x ∈ p1, x.block < W.heap.size := by obtain ⟨m, hm⟩ := h1; exact DataW.trod_lt m _ _ _ hm
 have lt2 : ∀ x ∈ p2, x.block < W.heap.size := by obtain ⟨m, hm⟩ := h2; exact DataW.trod_lt m _ _ _ hm
 refine (searchTurned_walk (enc := enc) W v0 v1 v2 (pin_of_laid hL) (okWide_struct Tryz.underlying51 (hval 0 51 v0 rfl rfl)) (okWide_int Tryz.underlying3 (hval 1 3 v1 rfl rfl)) (okWide_int Tryz.underlying3 (hval 2 3 v2 rfl rfl)) (Rd.of h0 (wt 0 51 d0 rfl rfl)) (Rd.of h1 (wt 1 3 d1 rfl rfl)) (Rd.of h2 (wt 2 3 d2 rfl rfl))).mono fun e W' ⟨he, bel⟩ => ?_
 subst he
 exact ⟨_, rfl, _, _, _, [], _, [], hW', trodAll_mk1 (shut_bool Tryz.underlying4 _), (trodAll_cons_mk (Below.trod laidOut9 (by kernel_rfl) (of_decide_eq_true (by kernel_rfl)) h0 bel lt0) (trodAll_cons_mk (Below.trod laidOut9 (by kernel_rfl) (of_decide_eq_true (by kernel_rfl)) h1 bel lt1) (trodAll_cons_mk (Below.trod laidOut9 (by kernel_rfl) (of_decide_eq_true (by kernel_rfl)) h2 bel lt2) trodAll_mk0))), rfl, bel.frame _, fun h => by cases h⟩
theorem searchTurned_holds : Rows.SearchTurnedSaid :=
 OpenClaim.holds_of_wide 4 Tryz.f4 rfl rfl rfl rfl rfl rfl rfl ⟨rfl, rfl, rfl, rfl, rfl⟩ rfl rfl rfl rfl rfl (by kernel_rfl) Tryz.func4 (by kernel_rfl)
  (of_decide_eq_true (by kernel_rfl)) (by unfold Func.isWrapper; first | (rw [if_pos (by decide +kernel)]; kernel_rfl) | (rw [if_neg (by decide +kernel)]; exact ⟨rfl, rfl⟩))
  (fun os started H enc _ => searchTurned_lifted os started H enc)
theorem searchTurned_card_holds : Rows.SearchTurnedCardSaid :=
 Claim7.holds_tied_plain_at .later [] [.handle] true (true, "3a2feeeef9da1254d3b524d6711779015742aadfaed9d16ef9734ac3d898b8a1") true
  searchTurned_holds (fun _ h => by cases h) (by kernel_rfl) (fun _ h => by cases h) searchTurned_row_tie rfl ⟨rfl, rfl⟩ (by kernel_rfl) rfl
  (fun f fn hf hfn => by
   obtain rfl : f = 4 := Option.some.inj ((show Tryz.prog.funcNamed "viaduct/viaductlaw08.SearchTurned" = some 4 by kernel_rfl).symm.trans hf) |>.symm
   obtain rfl : fn = Tryz.f4 := (Option.some.inj (Tryz.func4.symm.trans hfn)).symm
   exact ⟨by kernel_rfl, fun j t ht => by
    rw [Tryz.params4] at ht
    rcases j with _ | _ | _ | j
    ·obtain rfl : t = 51 := by simpa using ht.symm
     exact (show Tryz.prog.wantsStandIn 51 = false by kernel_rfl)
    ·obtain rfl : t = 3 := by simpa using ht.symm
     exact (show Tryz.prog.wantsStandIn 3 = false by kernel_rfl)
    ·obtain rfl : t = 3 := by simpa using ht.symm
     exact (show Tryz.prog.wantsStandIn 3 = false by kernel_rfl)
    ·simp at ht⟩)
  (by kernel_rfl)
#print axioms searchTurned_card_holds
end Go.Proofs.YtlohhdkkhedejaaGreatDoor
