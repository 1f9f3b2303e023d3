/-
  Whatever is handed in, CsrRows returns true, and what was handed in reads as it did; the conditions are the row's own, no other.
-/
import Derived.Test.YtjfplpkmbijfpaaDoorPcr3
import Derived.Test.YtjfplpkmbijfpaaDoorRows
import Derived.Test.YtjfplpkmbijfpaaDoorVeE
import Derived.WalkKit
import Derived.ProofKit
import Derived.OpenShut
import Derived.ChangeOld
import Derived.Below
import Derived.Test.YtjfplpkmbijfpaaDoorTie
import Derived.Test.YtjfplpkmbijfpaaDoorCards
import Derived.JoinedOf
import Derived.LaidHandle
import Derived.SevenTiedAt
set_option linter.unusedVariables false
set_option linter.unusedSimpArgs false
set_option linter.unusedSectionVars false
/-! (RowCsrRows) -/

namespace Go.Proofs.YtjfplpkmbijfpaaDoor
open Go.ChangeShapes Go.WideShapes Go.ChangeAt Go.RowKit Go.Vd
set_option linter.unusedVariables false
set_option linter.unusedSimpArgs false

theorem own9 : ownKnob Tryd.prog.godebug = none := by kernel_rfl
theorem laidOut9 : laidOutB Tryd.prog = true := by kernel_rfl

theorem et9 : Tryd.prog.globalNamed "errors.errorType" = some 0 := by kernel_rfl
theorem rt9 : (Tryd.prog.cutTypes.find? (·.1 == "internal/reflectlite.rtype")).map (·.2) = some 151 := by kernel_rfl
theorem oneRow9 : ((List.range 203).filter fun t => Tryd.prog.rowNamed t [101, 114, 114, 111, 114]) = [28] := by kernel_rfl
theorem size9 : Tryd.prog.types.size = 203 := by kernel_rfl
theorem handle_of_laid {W : World} (h : laidMetH Tryd.prog Rows.csrRowsRow.laid W) : W.cell? ⟨0, 0, none⟩ = some (.iface 151 (.agg #[.pointer (some ⟨1, 28, none⟩)])) := by
  have h' : laidMet Tryd.prog [] W ∧ handlesMet Tryd.prog Rows.csrRowsRow.laid W := h
  obtain ⟨name, u, ty, e1, e2, e3, e4, e5⟩ := h'.2 _ (List.mem_singleton.2 rfl)
  have en : name = [101, 114, 114, 111, 114] := (Option.some.inj e1).symm
  subst en
  obtain rfl := Option.some.inj (rt9.symm.trans e2)
  have hm : ty ∈ (List.range 203).filter fun t => Tryd.prog.rowNamed t [101, 114, 114, 111, 114] := List.mem_filter.2 ⟨List.mem_range.2 (by rw [← size9]; exact e3), e4⟩
  rw [oneRow9] at hm
  obtain rfl := List.mem_singleton.1 hm
  have hh : typeHandle Tryd.prog 28 = .pointer (some ⟨1, 28, none⟩) := by kernel_rfl
  rw [hh] at e5
  simpa using World.var?_cell et9 e5 0
theorem pin_of_laid {W : World} (h : laidMetH Tryd.prog Rows.csrRowsRow.laid W) : ∀ v, pinV = some v → ∃ c ty fr, W.heap[0]? = some (.cells c ty fr) ∧ c[0]? = some v := by
  intro v hv
  obtain rfl := Option.some.inj hv
  exact (cell_heap (handle_of_laid h)).2
noncomputable def laidWorld (os : Os) : World :=
  let w0 := World.holding Tryd.prog os ⟨#[], #[], []⟩
  { w0 with heap := w0.heap.modify 0 fun
      | .cells _ t frozen => .cells #[.iface 151 (.agg #[.pointer (some ⟨1, 28, none⟩)])] t frozen
      | o => o }
theorem laidWorld_met (os : Os) (args : Array Value) : laidMetH Tryd.prog Rows.csrRowsRow.laid ((laidWorld os).forCall (fun _ _ => 0) ⟨#[], args, []⟩).memory :=
  laidMetH_of_parts (laidMet_nil _ _) (by kernel_rfl)

theorem i64_rng {x : Int} (h : (Lit.int .i64 x).wf = true) : -9223372036854775808 ≤ x ∧ x ≤ 9223372036854775807 := by
  simp only [Lit.wf, IntKind.min, IntKind.max, IntKind.signed, IntKind.bits, Bool.and_eq_true, decide_eq_true_eq, if_true, Bool.false_eq_true, if_false] at h
  omega
theorem u64_rng {x : Int} (h : (Lit.int .u64 x).wf = true) : 0 ≤ x ∧ x ≤ 18446744073709551615 := by
  simp only [Lit.wf, IntKind.min, IntKind.max, IntKind.signed, IntKind.bits, Bool.and_eq_true, decide_eq_true_eq, if_true, Bool.false_eq_true, if_false] at h
  omega
theorem int_rd {Hd : Type} {enc : TypeId × Value → Hd} {W : World} (cs : List Value) (h : Rd enc Tryd.prog W 3 cs) : ∃ x : Int, cs = Go.Vd.encI .i64 x ∧ (Lit.int .i64 x).wf = true := by
  obtain ⟨n, h1, h2⟩ := h.int Tryd.underlying3
  exact ⟨n, h1, h2⟩

theorem parts3a {α : Type} {l : List α} {a0 a1 a2 : α} (h : l.length = 3) (h0 : (l.drop 0).take 1 = [a0]) (h1 : (l.drop 1).take 1 = [a1]) (h2 : (l.drop 2).take 1 = [a2]) : l = [a0, a1, a2] := by
  match l, h with
  | [x0, x1, x2], _ => simp at h0 h1 h2; simp [h0, h1, h2]
theorem arc_rd {Hd : Type} {enc : TypeId × Value → Hd} {W : World} (cs : List Value) (h : Rd enc Tryd.prog W 51 cs) : ∃ x : Int × Int × Int, cs = Go.Vd.enc_i64_i64_i64 x ∧ True := by
  obtain ⟨hl, hf⟩ := h.struct Tryd.underlying51
  have hc : Tryd.prog.cellsOf 51 = 3 := by kernel_rfl
  rw [hc] at hl
  have g0 : Rd enc Tryd.prog W 3 ((cs.drop 0).take (Tryd.prog.cellsOf 3)) := hf 0 _ rfl
  have g1 : Rd enc Tryd.prog W 3 ((cs.drop 1).take (Tryd.prog.cellsOf 3)) := hf 1 _ rfl
  have g2 : Rd enc Tryd.prog W 3 ((cs.drop 2).take (Tryd.prog.cellsOf 3)) := hf 2 _ rfl
  rw [show Tryd.prog.cellsOf 3 = 1 from by kernel_rfl] at g0 g1 g2
  obtain ⟨x0, e0, _⟩ := int_rd _ g0
  obtain ⟨x1, e1, _⟩ := int_rd _ g1
  obtain ⟨x2, e2, _⟩ := int_rd _ g2
  exact ⟨(x0, x1, x2), parts3a hl e0 e1 e2, trivial⟩

theorem parts2 {α : Type} {l : List α} {a0 a1 : α} (h : l.length = 2) (h0 : (l.drop 0).take 1 = [a0]) (h1 : (l.drop 1).take 1 = [a1]) : l = [a0, a1] := by
  match l, h with
  | [x0, x1], _ => simp at h0 h1; simp [h0, h1]

theorem csrRows_walk {Hd : Type} {enc : TypeId × Value → Hd} (W : World) (v0 : Value) (hpin : ∀ v, pinV = some v → ∃ c ty fr, W.heap[0]? = some (.cells c ty fr) ∧ c[0]? = some v) (k0 : ∃ cs, v0 = .agg cs ∧ cs.size = Tryd.prog.cellsOf 24)
    (r0 : Rd enc Tryd.prog W 24 v0.cells.toList) :
    Calls Tryd.prog 8 #[v0] W fun e w' => e = .returned (.bool true) ∧ Below W.heap.size W w' := by
  have hb3 : Tryd.prog.bytesOf 3 = 8 := by kernel_rfl
  have hr : reachBytes = 140737488351232 := by decide
  have hbA : Tryd.prog.bytesOf 51 = 24 := by kernel_rfl
  obtain ⟨cs0, rfl, hcs0⟩ := k0
  obtain ⟨hl0, hf0⟩ := r0.struct Tryd.underlying24
  have hc0 : Tryd.prog.cellsOf 24 = 2 := by kernel_rfl
  have g0_0 : Rd enc Tryd.prog W 3 (((Value.agg cs0).cells.toList.drop 0).take (Tryd.prog.cellsOf 3)) := hf0 0 _ rfl
  rw [show Tryd.prog.cellsOf 3 = 1 from by kernel_rfl] at g0_0
  obtain ⟨X0_0, e0_0, q0_0⟩ := int_rd _ g0_0
  have w0_0 := i64_rng q0_0
  have g0_1 : Rd enc Tryd.prog W 22 (((Value.agg cs0).cells.toList.drop 1).take (Tryd.prog.cellsOf 22)) := hf0 1 _ rfl
  rw [show Tryd.prog.cellsOf 22 = 1 from by kernel_rfl] at g0_1
  obtain ⟨d0_1, X0_1, e0_1, s0_1⟩ := g0_1.slice (en := Go.Vd.enc_i64_i64_i64) (sz := 3) Tryd.underlying22 (by kernel_rfl) (fun _ => rfl) arc_rd
  rw [hc0] at hl0
  have hcs0' := parts2 (l := (Value.agg cs0).cells.toList) hl0 e0_0 e0_1
  obtain rfl : cs0 = #[.int .i64 X0_0, d0_1] := by
    have q : (Value.agg cs0).cells = cs0 := rfl
    rw [q] at hcs0'
    cases cs0; simp_all
  obtain ⟨μ0_1, H0_1, b0_1, f0_1, E0_1, x0_1, l0_1, va0_1, qa0_1⟩ := s0_1.ent (Ent.nil W hpin) (by decide) (fun _ => rfl) (fun _ => rfl) (fun x u hu => by simp only [Go.Vd.enc_i64_i64_i64, List.mem_cons, List.not_mem_nil, or_false] at hu; rcases hu with rfl | rfl | rfl <;> rfl)
  have n0_1x := s0_1.len
  rw [hbA, hr] at n0_1x
  have hp : z_viaductlaw05_CsrRows X0_0 X0_1 = some true := by
    apply p_CsrRows <;> first | omega | assumption
  have hw := c_viaductlaw05_CsrRows E0_1.wf qa0_1 hp
  have ag0 : ARel μ0_1 #[.int .i64 X0_0, b0_1] #[.int .i64 X0_0, d0_1] := ARel.toList.2 (.cons (.int _ _) (.cons va0_1 .nil))
  have harg : ARel μ0_1 #[.agg #[.int .i64 X0_0, b0_1]] #[.agg #[.int .i64 X0_0, d0_1]] := ARel.toList.2 (.cons (.agg _ _ ag0.1 ag0.2) .nil)
  exact calls_of_acalls (hw.mono fun v H' h => h.1) rfl E0_1.rel harg E0_1.ro

set_option maxRecDepth 100000 in
theorem csrRows_lifted (os : Os) (started : os.Started) (H : Type) (enc : TypeId × Value → H) :
    ReturnsInHanded {} Tryd.checked os 8 .any (fun w args => (Rows.csrRowsSpec.pre enc Tryd.prog Tryd.f8 Rows.csrRowsRow.domain false w args ∧ laidMetH Tryd.prog Rows.csrRowsRow.laid w) ∧ sizedMet enc Tryd.prog Tryd.f8 (OpenSpec.ofChange Rows.csrRowsSpec) false w args) (Rows.csrRowsSpec.post enc Tryd.prog Tryd.f8 false true false false) := by
  refine returnsInHanded_of_change_and (C := Tryd.checked) (X := fun w _ => laidMetH Tryd.prog Rows.csrRowsRow.laid w) (fun _ _ _ hh h => h.of_heap hh) own9 started (by kernel_rfl) Tryd.func8
    (ChangeSpec.witness_at (enc := enc) (C := Tryd.checked) (os := os) (X := fun w _ => laidMetH Tryd.prog Rows.csrRowsRow.laid w) false (laidWorld os) #[.agg #[.int .i64 0, .slice none 0 0]] 8 rfl (by kernel_rfl) (by kernel_rfl) (by kernel_rfl) (by kernel_rfl) (by kernel_rfl) (laidWorld_met os _)) ?_
  intro W base args ds gs before hval0 hW hcnd hsz hL _
  have hval : ∀ (j : Nat) t v, Tryd.f8.params[j]? = some t → args[j]? = some v → Value.okWide Tryd.prog W .any base t v := hval0
  have hW' := hW
  obtain ⟨p, q, hA0, hV, rfl, hfz, hnd⟩ := hW
  have hA : DataW.TrodAll enc Tryd.prog W 0 (fun _ => true) true Tryd.f8.params.toList args.toList ds p := hA0
  have hsz' : (DataW.weightsEach Tryd.prog (Tryd.f8.params.toList ++ Rows.csrRowsSpec.plain.varTypes Tryd.prog) (ds ++ gs)).all (· ≤ reachBytes) = true := hsz
  rw [Tryd.params8] at hA hval hsz'
  obtain ⟨v0, vs0, d0, ds0, p0, q0, hargs, rfl, rfl, h0, r0⟩ := trodAll_cons hA
  obtain ⟨rfl, rfl, rfl⟩ := trodAll_nil r0
  obtain rfl : args = #[v0] := by cases args; simp_all
  obtain ⟨rfl, rfl⟩ := trodVars_none hV
  have wt : ∀ (j : Nat) t d, (#[24] : Array TypeId).toList[j]? = some t → [d0][j]? = some d → ∀ n ∈ d.weights Tryd.prog t, n ≤ reachBytes := fun j t d ht hd n hn => by
    have hlt := (List.getElem?_eq_some_iff.1 ht).1
    have hltd := (List.getElem?_eq_some_iff.1 hd).1
    have := List.all_eq_true.1 hsz' n (DataW.weights_mem_each (j := j) (t := t) (d := d) (by rw [List.getElem?_append_left hlt]; exact ht) (by rw [List.getElem?_append_left hltd]; exact hd) n hn)
    simpa using this
  have lt0 : ∀ x ∈ p0, x.block < W.heap.size := by obtain ⟨m, hm⟩ := h0; exact DataW.trod_lt m _ _ _ hm
  refine (csrRows_walk (enc := enc) W v0 (pin_of_laid hL) (okWide_struct Tryd.underlying24 (hval 0 24 v0 rfl rfl)) (Rd.of h0 (wt 0 24 d0 rfl rfl))).mono fun e W' ⟨he, bel⟩ => ?_
  subst he
  exact ⟨_, rfl, _, _, _, [], _, [], hW', trodAll_mk1 (shut_bool Tryd.underlying4 _), (trodAll_cons_mk (Below.trod laidOut9 (by kernel_rfl) (of_decide_eq_true (by kernel_rfl)) h0 bel lt0) trodAll_mk0), rfl, bel.frame _, fun h => by cases h⟩

theorem csrRows_holds : Rows.CsrRowsSaid :=
  OpenClaim.holds_of_wide 8 Tryd.f8 rfl rfl rfl rfl rfl rfl rfl ⟨rfl, rfl, rfl, rfl, rfl⟩ rfl rfl rfl rfl rfl (by kernel_rfl) Tryd.func8 (by kernel_rfl)
    (of_decide_eq_true (by kernel_rfl)) (by unfold Func.isWrapper; first | (rw [if_pos (by decide +kernel)]; kernel_rfl) | (rw [if_neg (by decide +kernel)]; exact ⟨rfl, rfl⟩))
    (fun os started H enc _ => csrRows_lifted os started H enc)

theorem csrRows_card_holds : Rows.CsrRowsCardSaid :=
  Claim7.holds_tied_plain_at .later [] [.handle] true (true, "a70b7daa8b1aea143e61d6389c9eb7ae353e73fc0aed1a65257e82803b623a99") true
    csrRows_holds (fun _ h => by cases h) (by kernel_rfl) (fun _ h => by cases h) csrRows_row_tie rfl ⟨rfl, rfl⟩ (by kernel_rfl) rfl
    (fun f fn hf hfn => by
      obtain rfl : f = 8 := Option.some.inj ((show Tryd.prog.funcNamed "viaduct/viaductlaw05.CsrRows" = some 8 by kernel_rfl).symm.trans hf) |>.symm
      obtain rfl : fn = Tryd.f8 := (Option.some.inj (Tryd.func8.symm.trans hfn)).symm
      exact ⟨by kernel_rfl, fun j t ht => by
        rw [Tryd.params8] at ht
        rcases j with _ | j
        · obtain rfl : t = 24 := by simpa using ht.symm
          exact (show Tryd.prog.wantsStandIn 24 = false by kernel_rfl)
        · simp at ht⟩)
    (by kernel_rfl)
#print axioms csrRows_card_holds
end Go.Proofs.YtjfplpkmbijfpaaDoor
