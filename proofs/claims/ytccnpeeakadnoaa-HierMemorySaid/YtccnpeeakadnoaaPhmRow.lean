/-
 Whatever is handed in, HierMemory returns true, and what was handed in reads as it did; the conditions are the row's own, no other.
-/
import Derived.Test.YtccnpeeakadnoaaPhm5
import Derived.Test.YtccnpeeakadnoaaRows
import Derived.Test.YtccnpeeakadnoaaPhmVeE
import Derived.WalkKit
import Derived.ProofKit
import Derived.OpenShut
import Derived.ChangeOld
import Derived.Below
set_option linter.unusedVariables false
set_option linter.unusedSimpArgs false
set_option linter.unusedSectionVars false
/-! (RowHierMemory) -/

namespace Go.Proofs.Ytccnpeeakadnoaa
open Go.ChangeShapes Go.WideShapes Go.ChangeAt Go.RowKit Go.Vd
set_option linter.unusedVariables false
set_option linter.unusedSimpArgs false
theorem own9 : ownKnob Try.prog.godebug = none := by kernel_rfl
theorem laidOut9 : laidOutB Try.prog = true := by kernel_rfl
theorem i64_rng {x : Int} (h : (Lit.int .i64 x).wf = true) : -9223372036854775808 ≤ x ∧ x ≤ 9223372036854775807 := by
 simp only [Lit.wf, IntKind.min, IntKind.max, IntKind.signed, IntKind.bits, Bool.and_eq_true, decide_eq_true_eq, if_true, Bool.false_eq_true, if_false] at h
 omega
theorem u64_rng {x : Int} (h : (Lit.int .u64 x).wf = true) : 0 ≤ x ∧ x ≤ 18446744073709551615 := by
 simp only [Lit.wf, IntKind.min, IntKind.max, IntKind.signed, IntKind.bits, Bool.and_eq_true, decide_eq_true_eq, if_true, Bool.false_eq_true, if_false] at h
 omega
theorem int_rd {Hd : Type} {enc : TypeId × Value → Hd} {W : World} (cs : List Value) (h : Rd enc Try.prog W 3 cs) : ∃ x : Int, cs = Go.Vd.encI .i64 x ∧ (Lit.int .i64 x).wf = true := by
 obtain ⟨n, h1, h2⟩ := h.int Try.underlying3
 exact ⟨n, h1, h2⟩
theorem u32_rng {x : Int} (h : (Lit.int .u32 x).wf = true) : 0 ≤ x ∧ x ≤ 4294967295 := by
 simp only [Lit.wf, IntKind.min, IntKind.max, IntKind.signed, IntKind.bits, Bool.and_eq_true, decide_eq_true_eq, if_true, Bool.false_eq_true, if_false] at h
 omega
theorem k90_rd {Hd : Type} {enc : TypeId × Value → Hd} {W : World} (cs : List Value) (h : Rd enc Try.prog W 90 cs) : ∃ x : Int, cs = Go.Vd.encI .u32 x ∧ (0 ≤ x ∧ x ≤ 4294967295) := by
 obtain ⟨n, h1, h2⟩ := h.int Try.underlying90
 exact ⟨n, h1, u32_rng h2⟩
theorem k42_rd {Hd : Type} {enc : TypeId × Value → Hd} {W : World} (cs : List Value) (h : Rd enc Try.prog W 42 cs) : ∃ x : Int, cs = Go.Vd.encI .u64 x ∧ (0 ≤ x ∧ x ≤ 18446744073709551615) := by
 obtain ⟨n, h1, h2⟩ := h.int Try.underlying42
 exact ⟨n, h1, u64_rng h2⟩
theorem parts4g {α : Type} {l : List α} {a0 a1 a2 a3 : α} (h : l.length = 4) (h0 : (l.drop 0).take 1 = [a0]) (h1 : (l.drop 1).take 1 = [a1]) (h2 : (l.drop 2).take 1 = [a2]) (h3 : (l.drop 3).take 1 = [a3]) : l = [a0, a1, a2, a3] := by
 match l, h with
 | [x0, x1, x2, x3], _ => simp at h0 h1 h2 h3; simp [h0, h1, h2, h3]
theorem g93_rd {Hd : Type} {enc : TypeId × Value → Hd} {W : World} (cs : List Value) (h : Rd enc Try.prog W 93 cs) : ∃ x : Int × Int × Int × Int, cs = Go.Vd.enc_u32_u64_u32_u32 x ∧ ((0 ≤ x.1 ∧ x.1 ≤ 4294967295) ∧ (0 ≤ x.2.1 ∧ x.2.1 ≤ 18446744073709551615) ∧ (0 ≤ x.2.2.1 ∧ x.2.2.1 ≤ 4294967295) ∧ (0 ≤ x.2.2.2 ∧ x.2.2.2 ≤ 4294967295)) := by
 obtain ⟨hl, hf⟩ := h.struct Try.underlying93
 have hc : Try.prog.cellsOf 93 = 4 := by kernel_rfl
 rw [hc] at hl
 have g0 : Rd enc Try.prog W 90 ((cs.drop 0).take (Try.prog.cellsOf 90)) := hf 0 _ rfl
 rw [show Try.prog.cellsOf 90 = 1 from by kernel_rfl] at g0
 obtain ⟨x0, e0, q0⟩ := k90_rd _ g0
 have g1 : Rd enc Try.prog W 42 ((cs.drop 1).take (Try.prog.cellsOf 42)) := hf 1 _ rfl
 rw [show Try.prog.cellsOf 42 = 1 from by kernel_rfl] at g1
 obtain ⟨x1, e1, q1⟩ := k42_rd _ g1
 have g2 : Rd enc Try.prog W 90 ((cs.drop 2).take (Try.prog.cellsOf 90)) := hf 2 _ rfl
 rw [show Try.prog.cellsOf 90 = 1 from by kernel_rfl] at g2
 obtain ⟨x2, e2, q2⟩ := k90_rd _ g2
 have g3 : Rd enc Try.prog W 90 ((cs.drop 3).take (Try.prog.cellsOf 90)) := hf 3 _ rfl
 rw [show Try.prog.cellsOf 90 = 1 from by kernel_rfl] at g3
 obtain ⟨x3, e3, q3⟩ := k90_rd _ g3
 exact ⟨(x0, x1, x2, x3), parts4g hl e0 e1 e2 e3, q0, q1, q2, q3⟩
theorem parts5 {α : Type} {l : List α} {a0 a1 a2 a3 a4 : α} (h : l.length = 5) (h0 : (l.drop 0).take 1 = [a0]) (h1 : (l.drop 1).take 1 = [a1]) (h2 : (l.drop 2).take 1 = [a2]) (h3 : (l.drop 3).take 1 = [a3]) (h4 : (l.drop 4).take 1 = [a4]) : l = [a0, a1, a2, a3, a4] := by
 match l, h with
 | [x0, x1, x2, x3, x4], _ => simp at h0 h1 h2 h3 h4; simp [h0, h1, h2, h3, h4]
theorem hierMemory_walk {Hd : Type} {enc : TypeId × Value → Hd} (W : World) (v0 : Value) (k0 : ∃ cs, v0 = .agg cs ∧ cs.size = Try.prog.cellsOf 81)
  (r0 : Rd enc Try.prog W 81 v0.cells.toList) :
  Calls Try.prog 5 #[v0] W fun e w' => e = .returned (.bool true) ∧ Below W.heap.size W w' := by
 have hb3 : Try.prog.bytesOf 3 = 8 := by kernel_rfl
 have hr : reachBytes = 140737488351232 := by decide
 have hbG90 : Try.prog.bytesOf 90 = 4 := by kernel_rfl
 have hbG93 : Try.prog.bytesOf 93 = 24 := by kernel_rfl
 obtain ⟨cs0, rfl, hcs0⟩ := k0
 obtain ⟨hl0, hf0⟩ := r0.struct Try.underlying81
 have hc0 : Try.prog.cellsOf 81 = 5 := by kernel_rfl
 have g0_0 : Rd enc Try.prog W 78 (((Value.agg cs0).cells.toList.drop 0).take (Try.prog.cellsOf 78)) := hf0 0 _ rfl
 rw [show Try.prog.cellsOf 78 = 1 from by kernel_rfl] at g0_0
 obtain ⟨d0_0, X0_0, e0_0, s0_0⟩ := g0_0.slice (en := Go.Vd.encI .u32) (sz := 1) Try.underlying78 (by kernel_rfl) (fun _ => rfl) k90_rd
 have al0_0 : ∀ x ∈ X0_0, (0 ≤ x ∧ x ≤ 4294967295) := s0_0.all
 have g0_1 : Rd enc Try.prog W 78 (((Value.agg cs0).cells.toList.drop 1).take (Try.prog.cellsOf 78)) := hf0 1 _ rfl
 rw [show Try.prog.cellsOf 78 = 1 from by kernel_rfl] at g0_1
 obtain ⟨d0_1, X0_1, e0_1, s0_1⟩ := g0_1.slice (en := Go.Vd.encI .u32) (sz := 1) Try.underlying78 (by kernel_rfl) (fun _ => rfl) k90_rd
 have al0_1 : ∀ x ∈ X0_1, (0 ≤ x ∧ x ≤ 4294967295) := s0_1.all
 have g0_2 : Rd enc Try.prog W 79 (((Value.agg cs0).cells.toList.drop 2).take (Try.prog.cellsOf 79)) := hf0 2 _ rfl
 rw [show Try.prog.cellsOf 79 = 1 from by kernel_rfl] at g0_2
 obtain ⟨d0_2, X0_2, e0_2, s0_2⟩ := g0_2.slice (en := Go.Vd.enc_u32_u64_u32_u32) (sz := 4) Try.underlying79 (by kernel_rfl) (fun _ => rfl) g93_rd
 have al0_2 : ∀ x ∈ X0_2, (0 ≤ x.1 ∧ x.1 ≤ 4294967295) ∧ (0 ≤ x.2.1 ∧ x.2.1 ≤ 18446744073709551615) ∧ (0 ≤ x.2.2.1 ∧ x.2.2.1 ≤ 4294967295) ∧ (0 ≤ x.2.2.2 ∧ x.2.2.2 ≤ 4294967295) := s0_2.all
 have g0_3 : Rd enc Try.prog W 78 (((Value.agg cs0).cells.toList.drop 3).take (Try.prog.cellsOf 78)) := hf0 3 _ rfl
 rw [show Try.prog.cellsOf 78 = 1 from by kernel_rfl] at g0_3
 obtain ⟨d0_3, X0_3, e0_3, s0_3⟩ := g0_3.slice (en := Go.Vd.encI .u32) (sz := 1) Try.underlying78 (by kernel_rfl) (fun _ => rfl) k90_rd
 have al0_3 : ∀ x ∈ X0_3, (0 ≤ x ∧ x ≤ 4294967295) := s0_3.all
 have g0_4 : Rd enc Try.prog W 79 (((Value.agg cs0).cells.toList.drop 4).take (Try.prog.cellsOf 79)) := hf0 4 _ rfl
 rw [show Try.prog.cellsOf 79 = 1 from by kernel_rfl] at g0_4
 obtain ⟨d0_4, X0_4, e0_4, s0_4⟩ := g0_4.slice (en := Go.Vd.enc_u32_u64_u32_u32) (sz := 4) Try.underlying79 (by kernel_rfl) (fun _ => rfl) g93_rd
 have al0_4 : ∀ x ∈ X0_4, (0 ≤ x.1 ∧ x.1 ≤ 4294967295) ∧ (0 ≤ x.2.1 ∧ x.2.1 ≤ 18446744073709551615) ∧ (0 ≤ x.2.2.1 ∧ x.2.2.1 ≤ 4294967295) ∧ (0 ≤ x.2.2.2 ∧ x.2.2.2 ≤ 4294967295) := s0_4.all
 rw [hc0] at hl0
 have hcs0' := parts5 (l := (Value.agg cs0).cells.toList) hl0 e0_0 e0_1 e0_2 e0_3 e0_4
 obtain rfl : cs0 = #[d0_0, d0_1, d0_2, d0_3, d0_4] := by
  have q : (Value.agg cs0).cells = cs0 := rfl
  rw [q] at hcs0'
  cases cs0; simp_all
 obtain ⟨μ0_0, H0_0, b0_0, f0_0, E0_0, x0_0, l0_0, va0_0, qa0_0⟩ := s0_0.ent (Ent.nil W (fun v h => by cases h)) (by decide) (fun _ => rfl) (fun _ => rfl) (fun x u hu => by simp [Go.Vd.encI] at hu; subst hu; rfl)
 have n0_0x := s0_0.len
 rw [hbG90, hr] at n0_0x
 obtain ⟨μ0_1, H0_1, b0_1, f0_1, E0_1, x0_1, l0_1, va0_1, qa0_1⟩ := s0_1.ent E0_0 (by decide) (fun _ => rfl) (fun _ => rfl) (fun x u hu => by simp [Go.Vd.encI] at hu; subst hu; rfl)
 have n0_1x := s0_1.len
 rw [hbG90, hr] at n0_1x
 obtain ⟨μ0_2, H0_2, b0_2, f0_2, E0_2, x0_2, l0_2, va0_2, qa0_2⟩ := s0_2.ent E0_1 (by decide) (fun _ => rfl) (fun _ => rfl) (fun x u hu => by simp only [Go.Vd.enc_u32_u64_u32_u32, List.mem_cons, List.not_mem_nil, or_false] at hu; rcases hu with rfl | rfl | rfl | rfl <;> rfl)
 have n0_2x := s0_2.len
 rw [hbG93, hr] at n0_2x
 obtain ⟨μ0_3, H0_3, b0_3, f0_3, E0_3, x0_3, l0_3, va0_3, qa0_3⟩ := s0_3.ent E0_2 (by decide) (fun _ => rfl) (fun _ => rfl) (fun x u hu => by simp [Go.Vd.encI] at hu; subst hu; rfl)
 have n0_3x := s0_3.len
 rw [hbG90, hr] at n0_3x
 obtain ⟨μ0_4, H0_4, b0_4, f0_4, E0_4, x0_4, l0_4, va0_4, qa0_4⟩ := s0_4.ent E0_3 (by decide) (fun _ => rfl) (fun _ => rfl) (fun x u hu => by simp only [Go.Vd.enc_u32_u64_u32_u32, List.mem_cons, List.not_mem_nil, or_false] at hu; rcases hu with rfl | rfl | rfl | rfl <;> rfl)
 have n0_4x := s0_4.len
 rw [hbG93, hr] at n0_4x
 have hp : z_viaductlaw10_HierMemory X0_0 X0_1 X0_2 X0_3 X0_4 = some true := by
  apply p_HierMemory <;> first | omega | assumption
 have hw := c_viaductlaw10_HierMemory E0_4.wf ((((qa0_0.ext x0_1).ext x0_2).ext x0_3).ext x0_4) (((qa0_1.ext x0_2).ext x0_3).ext x0_4) ((qa0_2.ext x0_3).ext x0_4) (qa0_3.ext x0_4) qa0_4 hp
 have ag0 : ARel μ0_4 #[b0_0, b0_1, b0_2, b0_3, b0_4] #[d0_0, d0_1, d0_2, d0_3, d0_4] := ARel.toList.2 (.cons (va0_0.mono (l0_1.trans (l0_2.trans (l0_3.trans l0_4)))) (.cons (va0_1.mono (l0_2.trans (l0_3.trans l0_4))) (.cons (va0_2.mono (l0_3.trans l0_4)) (.cons (va0_3.mono l0_4) (.cons va0_4 .nil)))))
 have harg : ARel μ0_4 #[.agg #[b0_0, b0_1, b0_2, b0_3, b0_4]] #[.agg #[d0_0, d0_1, d0_2, d0_3, d0_4]] := ARel.toList.2 (.cons (.agg _ _ ag0.1 ag0.2) .nil)
 exact calls_of_acalls (hw.mono fun v H' h => h.1) rfl E0_4.rel harg E0_4.ro
set_option maxRecDepth 100000 in
theorem hierMemory_lifted (os : Os) (started : os.Started) (H : Type) (enc : TypeId × Value → H) :
  ReturnsInHanded {} Try.checked os 5 .any (Rows.hierMemorySpec.pre6 enc Try.prog Try.f5 Rows.hierMemoryRow.domain false) (Rows.hierMemorySpec.post enc Try.prog Try.f5 false true false false) := by
 refine returnsInHanded_of_change_sized (C := Try.checked) own9 started (by kernel_rfl) Try.func5
  (ChangeSpec.witness6 (enc := enc) (C := Try.checked) false ⟨#[], #[.agg #[.slice none 0 0, .slice none 0 0, .slice none 0 0, .slice none 0 0, .slice none 0 0]], []⟩ 8 (by kernel_rfl) (by kernel_rfl) (by kernel_rfl) (by kernel_rfl)) ?_
 intro W base args ds gs before hval0 hW hcnd hsz _
 have hval : ∀ (j : Nat) t v, Try.f5.params[j]? = some t → args[j]? = some v → Value.okWide Try.prog W .any base t v := hval0
 have hW' := hW
 obtain ⟨p, q, hA0, hV, rfl, hfz, hnd⟩ := hW
 have hA : DataW.TrodAll enc Try.prog W 0 (fun _ => true) true Try.f5.params.toList args.toList ds p := hA0
 have hsz' : (DataW.weightsEach Try.prog (Try.f5.params.toList ++ Rows.hierMemorySpec.plain.varTypes Try.prog) (ds ++ gs)).all (· ≤ reachBytes) = true := hsz
 rw [Try.params5] at hA hval hsz'
 obtain ⟨v0, vs0, d0, ds0, p0, q0, hargs, rfl, rfl, h0, r0⟩ := trodAll_cons hA
 obtain ⟨rfl, rfl, rfl⟩ := trodAll_nil r0
 obtain rfl : args = #[v0] := by cases args; simp_all
 obtain ⟨rfl, rfl⟩ := trodVars_none hV
 have wt : ∀ (j : Nat) t d, (#[81] : Array TypeId).toList[j]? = some t → [d0][j]? = some d → ∀ n ∈ d.weights Try.prog t, n ≤ reachBytes := fun j t d ht hd n hn => by
  have hlt := (List.getElem?_eq_some_iff.1 ht).1
  have hltd := (List.getElem?_eq_some_iff.1 hd).1
  have := List.all_eq_true.1 hsz' n (DataW.weights_mem_each (j := j) (t := t) (d := d) (by rw [List.getElem?_append_left hlt]; exact ht) (by rw [List.getElem?_append_left hltd]; exact hd) n hn)
  simpa using this
 have lt0 : ∀ x ∈ p0, x.block < W.heap.size := by obtain ⟨m, hm⟩ := h0; exact DataW.trod_lt m _ _ _ hm
 refine (hierMemory_walk (enc := enc) W v0 (okWide_struct Try.underlying81 (hval 0 81 v0 rfl rfl)) (Rd.of h0 (wt 0 81 d0 rfl rfl))).mono fun e W' ⟨he, bel⟩ => ?_
 subst he
 exact ⟨_, rfl, _, _, _, [], _, [], hW', trodAll_mk1 (shut_bool Try.underlying4 _), (trodAll_cons_mk (Below.trod laidOut9 (by kernel_rfl) (of_decide_eq_true (by kernel_rfl)) h0 bel lt0) trodAll_mk0), rfl, bel.frame _, fun h => by cases h⟩
theorem hierMemory_holds : Rows.HierMemorySaid :=
 OpenClaim.holds_of_wide 5 Try.f5 rfl rfl rfl rfl rfl rfl rfl ⟨rfl, rfl, rfl, rfl, rfl⟩ rfl rfl rfl rfl rfl (by kernel_rfl) Try.func5 (by kernel_rfl)
  (of_decide_eq_true (by kernel_rfl)) (by unfold Func.isWrapper; first | (rw [if_pos (by decide +kernel)]; kernel_rfl) | (rw [if_neg (by decide +kernel)]; exact ⟨rfl, rfl⟩))
  (fun os started H enc _ => hierMemory_lifted os started H enc)
#print axioms hierMemory_holds
end Go.Proofs.Ytccnpeeakadnoaa
