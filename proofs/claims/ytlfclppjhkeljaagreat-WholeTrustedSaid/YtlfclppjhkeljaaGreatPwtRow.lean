/-
 Whatever is handed in, WholeTrusted returns true, and what was handed in reads as it did; the conditions are the row's own, no other.
-/
import Derived.Test.YtlfclppjhkeljaaGreatPwt5
import Derived.Test.YtlfclppjhkeljaaGreatRows
import Derived.Test.YtlfclppjhkeljaaGreatPwtVeE
import Derived.WalkKit
import Derived.ProofKit
import Derived.OpenShut
import Derived.ChangeOld
import Derived.Below
set_option linter.unusedVariables false
set_option linter.unusedSimpArgs false
set_option linter.unusedSectionVars false
/-! (RowWholeTrusted) -/

namespace Go.Proofs.YtlfclppjhkeljaaGreat
open Go.ChangeShapes Go.WideShapes Go.ChangeAt Go.RowKit Go.Vd
set_option linter.unusedVariables false
set_option linter.unusedSimpArgs false
theorem own9 : ownKnob Tryz.prog.godebug = none := by kernel_rfl
theorem laidOut9 : laidOutB Tryz.prog = true := by kernel_rfl
theorem i64_rng {x : Int} (h : (Lit.int .i64 x).wf = true) : -9223372036854775808 ≤ x /\ x ≤ 9223372036854775807 := by
 simp only [Lit.wf, IntKind.min, IntKind.max, IntKind.signed, IntKind.bits, Bool.and_eq_true, decide_eq_true_eq, if_true, Bool.false_eq_true, if_false] at h
 omega
theorem u64_rng {x : Int} (h : (Lit.int .u64 x).wf = true) : 0 ≤ x /\ x ≤ 18446744073709551615 := by
 simp only [Lit.wf, IntKind.min, IntKind.max, IntKind.signed, IntKind.bits, Bool.and_eq_true, decide_eq_true_eq, if_true, Bool.false_eq_true, if_false] at h
 omega
theorem int_rd {Hd : Type} {enc : TypeId × Value -> Hd} {W : World} (cs : List Value) (h : Rd enc Tryz.prog W 3 cs) : ∃ x : Int, cs = Go.Vd.Zh .i64 x /\ (Lit.int .i64 x).wf = true := by
 obtain ⟨n, h1, h2⟩ := h.int Tryz.underlying3
 exact ⟨n, h1, h2⟩
theorem u32_rng {x : Int} (h : (Lit.int .u32 x).wf = true) : 0 ≤ x /\ x ≤ 4294967295 := by
 simp only [Lit.wf, IntKind.min, IntKind.max, IntKind.signed, IntKind.bits, Bool.and_eq_true, decide_eq_true_eq, if_true, Bool.false_eq_true, if_false] at h
 omega
theorem k60_rd {Hd : Type} {enc : TypeId × Value -> Hd} {W : World} (cs : List Value) (h : Rd enc Tryz.prog W 60 cs) : ∃ x : Int, cs = Go.Vd.Zh .u32 x /\ (0 ≤ x /\ x ≤ 4294967295) := by
 obtain ⟨n, h1, h2⟩ := h.int Tryz.underlying60
 exact ⟨n, h1, u32_rng h2⟩
theorem k35_rd {Hd : Type} {enc : TypeId × Value -> Hd} {W : World} (cs : List Value) (h : Rd enc Tryz.prog W 35 cs) : ∃ x : Int, cs = Go.Vd.Zh .u64 x /\ (0 ≤ x /\ x ≤ 18446744073709551615) := by
 obtain ⟨n, h1, h2⟩ := h.int Tryz.underlying35
 exact ⟨n, h1, u64_rng h2⟩
theorem parts4g {α : Type} {l : List α} {a0 a1 a2 a3 : α} (h : l.length = 4) (h0 : (l.drop 0).take 1 = [a0]) (h1 : (l.drop 1).take 1 = [a1]) (h2 : (l.drop 2).take 1 = [a2]) (h3 : (l.drop 3).take 1 = [a3]) : l = [a0, a1, a2, a3] := by
 match l, h with
 | [x0, x1, x2, x3], _ => simp at h0 h1 h2 h3; simp [h0, h1, h2, h3]
theorem g62_rd {Hd : Type} {enc : TypeId × Value -> Hd} {W : World} (cs : List Value) (h : Rd enc Tryz.prog W 62 cs) : ∃ x : Int × Int × Int × Int, cs = Go.Vd.Ze x /\ ((0 ≤ x.1 /\ x.1 ≤ 4294967295) /\ (0 ≤ x.2.1 /\ x.2.1 ≤ 18446744073709551615) /\ (0 ≤ x.2.2.1 /\ x.2.2.1 ≤ 4294967295) /\ (0 ≤ x.2.2.2 /\ x.2.2.2 ≤ 4294967295)) := by
 obtain ⟨hl, hf⟩ := h.struct Tryz.underlying62
 have hc : Tryz.prog.cellsOf 62 = 4 := by kernel_rfl
 rw [hc] at hl
 have g0 : Rd enc Tryz.prog W 60 ((cs.drop 0).take (Tryz.prog.cellsOf 60)) := hf 0 _ rfl
 rw [show Tryz.prog.cellsOf 60 = 1 from by kernel_rfl] at g0
 obtain ⟨x0, e0, q0⟩ := k60_rd _ g0
 have g1 : Rd enc Tryz.prog W 35 ((cs.drop 1).take (Tryz.prog.cellsOf 35)) := hf 1 _ rfl
 rw [show Tryz.prog.cellsOf 35 = 1 from by kernel_rfl] at g1
 obtain ⟨x1, e1, q1⟩ := k35_rd _ g1
 have g2 : Rd enc Tryz.prog W 60 ((cs.drop 2).take (Tryz.prog.cellsOf 60)) := hf 2 _ rfl
 rw [show Tryz.prog.cellsOf 60 = 1 from by kernel_rfl] at g2
 obtain ⟨x2, e2, q2⟩ := k60_rd _ g2
 have g3 : Rd enc Tryz.prog W 60 ((cs.drop 3).take (Tryz.prog.cellsOf 60)) := hf 3 _ rfl
 rw [show Tryz.prog.cellsOf 60 = 1 from by kernel_rfl] at g3
 obtain ⟨x3, e3, q3⟩ := k60_rd _ g3
 exact ⟨(x0, x1, x2, x3), parts4g hl e0 e1 e2 e3, q0, q1, q2, q3⟩
theorem parts5 {α : Type} {l : List α} {a0 a1 a2 a3 a4 : α} (h : l.length = 5) (h0 : (l.drop 0).take 1 = [a0]) (h1 : (l.drop 1).take 1 = [a1]) (h2 : (l.drop 2).take 1 = [a2]) (h3 : (l.drop 3).take 1 = [a3]) (h4 : (l.drop 4).take 1 = [a4]) : l = [a0, a1, a2, a3, a4] := by
 match l, h with
 | [x0, x1, x2, x3, x4], _ => simp at h0 h1 h2 h3 h4; simp [h0, h1, h2, h3, h4]
theorem wholeTrusted_walk {Hd : Type} {enc : TypeId × Value -> Hd} (W : World) (v0 v1 v2 : Value) (k0 : ∃ cs, v0 = .agg cs /\ cs.size = Tryz.prog.cellsOf 25) (k1 : ∃ n, v1 = .int .i64 n) (k2 : ∃ n, v2 = .int .i64 n)
  (r0 : Rd enc Tryz.prog W 25 v0.cells.toList) (r1 : Rd enc Tryz.prog W 3 v1.cells.toList) (r2 : Rd enc Tryz.prog W 3 v2.cells.toList) :
  Calls Tryz.prog 3 #[v0, v1, v2] W fun e w' => e = .returned (.bool true) /\ Below W.heap.size W w' := by
 have hb3 : Tryz.prog.bytesOf 3 = 8 := by kernel_rfl
 have hr : reachBytes = 140737488351232 := by decide
 have hbG60 : Tryz.prog.bytesOf 60 = 4 := by kernel_rfl
 have hbG62 : Tryz.prog.bytesOf 62 = 24 := by kernel_rfl
 obtain ⟨cs0, rfl, hcs0⟩ := k0
 obtain ⟨hl0, hf0⟩ := r0.struct Tryz.underlying25
 have hc0 : Tryz.prog.cellsOf 25 = 5 := by kernel_rfl
 have g0_0 : Rd enc Tryz.prog W 22 (((Value.agg cs0).cells.toList.drop 0).take (Tryz.prog.cellsOf 22)) := hf0 0 _ rfl
 rw [show Tryz.prog.cellsOf 22 = 1 from by kernel_rfl] at g0_0
 obtain ⟨d0_0, X0_0, e0_0, s0_0⟩ := g0_0.slice (en := Go.Vd.Zh .u32) (sz := 1) Tryz.underlying22 (by kernel_rfl) (fun _ => rfl) k60_rd
 have al0_0 : ∀ x ∈ X0_0, (0 ≤ x /\ x ≤ 4294967295) := s0_0.all
 have g0_1 : Rd enc Tryz.prog W 22 (((Value.agg cs0).cells.toList.drop 1).take (Tryz.prog.cellsOf 22)) := hf0 1 _ rfl
 rw [show Tryz.prog.cellsOf 22 = 1 from by kernel_rfl] at g0_1
 obtain ⟨d0_1, X0_1, e0_1, s0_1⟩ := g0_1.slice (en := Go.Vd.Zh .u32) (sz := 1) Tryz.underlying22 (by kernel_rfl) (fun _ => rfl) k60_rd
 have al0_1 : ∀ x ∈ X0_1, (0 ≤ x /\ x ≤ 4294967295) := s0_1.all
 have g0_2 : Rd enc Tryz.prog W 23 (((Value.agg cs0).cells.toList.drop 2).take (Tryz.prog.cellsOf 23)) := hf0 2 _ rfl
 rw [show Tryz.prog.cellsOf 23 = 1 from by kernel_rfl] at g0_2
 obtain ⟨d0_2, X0_2, e0_2, s0_2⟩ := g0_2.slice (en := Go.Vd.Ze) (sz := 4) Tryz.underlying23 (by kernel_rfl) (fun _ => rfl) g62_rd
 have al0_2 : ∀ x ∈ X0_2, (0 ≤ x.1 /\ x.1 ≤ 4294967295) /\ (0 ≤ x.2.1 /\ x.2.1 ≤ 18446744073709551615) /\ (0 ≤ x.2.2.1 /\ x.2.2.1 ≤ 4294967295) /\ (0 ≤ x.2.2.2 /\ x.2.2.2 ≤ 4294967295) := s0_2.all
 have g0_3 : Rd enc Tryz.prog W 22 (((Value.agg cs0).cells.toList.drop 3).take (Tryz.prog.cellsOf 22)) := hf0 3 _ rfl
 rw [show Tryz.prog.cellsOf 22 = 1 from by kernel_rfl] at g0_3
 obtain ⟨d0_3, X0_3, e0_3, s0_3⟩ := g0_3.slice (en := Go.Vd.Zh .u32) (sz := 1) Tryz.underlying22 (by kernel_rfl) (fun _ => rfl) k60_rd
 have al0_3 : ∀ x ∈ X0_3, (0 ≤ x /\ x ≤ 4294967295) := s0_3.all
 have g0_4 : Rd enc Tryz.prog W 23 (((Value.agg cs0).cells.toList.drop 4).take (Tryz.prog.cellsOf 23)) := hf0 4 _ rfl
 rw [show Tryz.prog.cellsOf 23 = 1 from by kernel_rfl] at g0_4
 obtain ⟨d0_4, X0_4, e0_4, s0_4⟩ := g0_4.slice (en := Go.Vd.Ze) (sz := 4) Tryz.underlying23 (by kernel_rfl) (fun _ => rfl) g62_rd
 have al0_4 : ∀ x ∈ X0_4, (0 ≤ x.1 /\ x.1 ≤ 4294967295) /\ (0 ≤ x.2.1 /\ x.2.1 ≤ 18446744073709551615) /\ (0 ≤ x.2.2.1 /\ x.2.2.1 ≤ 4294967295) /\ (0 ≤ x.2.2.2 /\ x.2.2.2 ≤ 4294967295) := s0_4.all
 rw [hc0] at hl0
 have hcs0' := parts5 (l := (Value.agg cs0).cells.toList) hl0 e0_0 e0_1 e0_2 e0_3 e0_4
 obtain rfl : cs0 = #[d0_0, d0_1, d0_2, d0_3, d0_4] := by
  have q : (Value.agg cs0).cells = cs0 := rfl
  rw [q] at hcs0'
  cases cs0; simp_all
 obtain ⟨X1, e1, q1⟩ := int_rd _ r1
 obtain ⟨n1, rfl⟩ := k1
 obtain rfl : n1 = X1 := by
  have q : (Value.int .i64 n1).cells.toList = [.int .i64 n1] := rfl
  rw [q] at e1; cases e1; rfl
 have w1 := i64_rng q1
 obtain ⟨X2, e2, q2⟩ := int_rd _ r2
 obtain ⟨n2, rfl⟩ := k2
 obtain rfl : n2 = X2 := by
  have q : (Value.int .i64 n2).cells.toList = [.int .i64 n2] := rfl
  rw [q] at e2; cases e2; rfl
 have w2 := i64_rng q2
 obtain ⟨μ0_0, H0_0, b0_0, f0_0, E0_0, x0_0, l0_0, va0_0, qa0_0⟩ := s0_0.ent (Ent.nil W (fun v h => by cases h)) (by decide) (fun _ => rfl) (fun _ => rfl) (fun x u hu => by simp [Go.Vd.Zh] at hu; subst hu; rfl)
 have n0_0x := s0_0.len
 rw [hbG60, hr] at n0_0x
 obtain ⟨μ0_1, H0_1, b0_1, f0_1, E0_1, x0_1, l0_1, va0_1, qa0_1⟩ := s0_1.ent E0_0 (by decide) (fun _ => rfl) (fun _ => rfl) (fun x u hu => by simp [Go.Vd.Zh] at hu; subst hu; rfl)
 have n0_1x := s0_1.len
 rw [hbG60, hr] at n0_1x
 obtain ⟨μ0_2, H0_2, b0_2, f0_2, E0_2, x0_2, l0_2, va0_2, qa0_2⟩ := s0_2.ent E0_1 (by decide) (fun _ => rfl) (fun _ => rfl) (fun x u hu => by simp only [Go.Vd.Ze, List.mem_cons, List.not_mem_nil, or_false] at hu; rcases hu with rfl | rfl | rfl | rfl <;> rfl)
 have n0_2x := s0_2.len
 rw [hbG62, hr] at n0_2x
 obtain ⟨μ0_3, H0_3, b0_3, f0_3, E0_3, x0_3, l0_3, va0_3, qa0_3⟩ := s0_3.ent E0_2 (by decide) (fun _ => rfl) (fun _ => rfl) (fun x u hu => by simp [Go.Vd.Zh] at hu; subst hu; rfl)
 have n0_3x := s0_3.len
 rw [hbG60, hr] at n0_3x
 obtain ⟨μ0_4, H0_4, b0_4, f0_4, E0_4, x0_4, l0_4, va0_4, qa0_4⟩ := s0_4.ent E0_3 (by decide) (fun _ => rfl) (fun _ => rfl) (fun x u hu => by simp only [Go.Vd.Ze, List.mem_cons, List.not_mem_nil, or_false] at hu; rcases hu with rfl | rfl | rfl | rfl <;> rfl)
 have n0_4x := s0_4.len
 rw [hbG62, hr] at n0_4x
 have hp : Zaz X0_0 X0_1 X0_2 X0_3 X0_4 n1 n2 = some true := by
  apply Zhb <;> first | omega | assumption
 have hw := Zen E0_4.wf ((((qa0_0.ext x0_1).ext x0_2).ext x0_3).ext x0_4) (((qa0_1.ext x0_2).ext x0_3).ext x0_4) ((qa0_2.ext x0_3).ext x0_4) (qa0_3.ext x0_4) qa0_4 hp
 have ag0 : ARel μ0_4 #[b0_0, b0_1, b0_2, b0_3, b0_4] #[d0_0, d0_1, d0_2, d0_3, d0_4] := ARel.toList.2 (.cons (va0_0.mono (l0_1.trans (l0_2.trans (l0_3.trans l0_4)))) (.cons (va0_1.mono (l0_2.trans (l0_3.trans l0_4))) (.cons (va0_2.mono (l0_3.trans l0_4)) (.cons (va0_3.mono l0_4) (.cons va0_4 .nil)))))
 have harg : ARel μ0_4 #[.agg #[b0_0, b0_1, b0_2, b0_3, b0_4], .int .i64 n1, .int .i64 n2] #[.agg #[d0_0, d0_1, d0_2, d0_3, d0_4], .int .i64 n1, .int .i64 n2] := ARel.toList.2 (.cons (.agg _ _ ag0.1 ag0.2) (.cons (.int _ _) (.cons (.int _ _) .nil)))
 exact ZgJ (hw.mono fun v H' h => h.1) rfl E0_4.rel harg E0_4.ro
set_option maxRecDepth 100000 in
theorem wholeTrusted_lifted (os : Os) (started : os.Started) (H : Type) (enc : TypeId × Value -> H) :
  ReturnsInHanded {} Tryz.checked os 3 .any (Rows.wholeTrustedSpec.pre6 enc Tryz.prog Tryz.f3 Rows.wholeTrustedRow.domain false) (Rows.wholeTrustedSpec.post enc Tryz.prog Tryz.f3 false true false false) := by
 refine returnsInHanded_of_change_sized (C := Tryz.checked) own9 started (by kernel_rfl) Tryz.func3
  (ChangeSpec.witness6 (enc := enc) (C := Tryz.checked) false ⟨#[], #[.agg #[.slice none 0 0, .slice none 0 0, .slice none 0 0, .slice none 0 0, .slice none 0 0], .int .i64 0, .int .i64 0], []⟩ 8 (by kernel_rfl) (by kernel_rfl) (by kernel_rfl) (by kernel_rfl)) ?_
 intro W base args ds gs before hval0 hW hcnd hsz _
 have hval : ∀ (j : Nat) t v, Tryz.f3.params[j]? = some t -> args[j]? = some v -> Value.okWide Tryz.prog W .any base t v := hval0
 have hW' := hW
 obtain ⟨p, q, hA0, hV, rfl, hfz, hnd⟩ := hW
 have hA : DataW.TrodAll enc Tryz.prog W 0 (fun _ => true) true Tryz.f3.params.toList args.toList ds p := hA0
 have hsz' : (DataW.weightsEach Tryz.prog (Tryz.f3.params.toList ++ Rows.wholeTrustedSpec.plain.varTypes Tryz.prog) (ds ++ gs)).all (· ≤ reachBytes) = true := hsz
 rw [Tryz.params3] at hA hval hsz'
 obtain ⟨v0, vs0, d0, ds0, p0, q0, hargs, rfl, rfl, h0, r0⟩ := trodAll_cons hA
 obtain ⟨v1, vs1, d1, ds1, p1, q1, rfl, rfl, rfl, h1, r1⟩ := trodAll_cons r0
 obtain ⟨v2, vs2, d2, ds2, p2, q2, rfl, rfl, rfl, h2, r2⟩ := trodAll_cons r1
 obtain ⟨rfl, rfl, rfl⟩ := trodAll_nil r2
 obtain rfl : args = #[v0, v1, v2] := by cases args; simp_all
 obtain ⟨rfl, rfl⟩ := trodVars_none hV
 have wt : ∀ (j : Nat) t d, (#[25, 3, 3] : Array TypeId).toList[j]? = some t -> [d0, d1, d2][j]? = some d -> ∀ n ∈ d.weights Tryz.prog t, n ≤ reachBytes := fun j t d ht hd n hn => by
  have hlt := (List.getElem?_eq_some_iff.1 ht).1
  have hltd := (List.getElem?_eq_some_iff.1 hd).1
  have := List.all_eq_true.1 hsz' n (DataW.weights_mem_each (j := j) (t := t) (d := d) (by rw [List.getElem?_append_left hlt]; exact ht) (by rw [List.getElem?_append_left hltd]; exact hd) n hn)
  simpa using this
 have lt0 : ∀ x ∈ p0, x.block < W.heap.size := by obtain ⟨m, hm⟩ := h0; exact DataW.trod_lt m _ _ _ hm
 have lt1 : ∀ x ∈ p1, x.block < W.heap.size := by obtain ⟨m, hm⟩ := h1; exact DataW.trod_lt m _ _ _ hm
 have lt2 : ∀ x ∈ p2, x.block < W.heap.size := by obtain ⟨m, hm⟩ := h2; exact DataW.trod_lt m _ _ _ hm
 refine (wholeTrusted_walk (enc := enc) W v0 v1 v2 (okWide_struct Tryz.underlying25 (hval 0 25 v0 rfl rfl)) (okWide_int Tryz.underlying3 (hval 1 3 v1 rfl rfl)) (okWide_int Tryz.underlying3 (hval 2 3 v2 rfl rfl)) (Rd.of h0 (wt 0 25 d0 rfl rfl)) (Rd.of h1 (wt 1 3 d1 rfl rfl)) (Rd.of h2 (wt 2 3 d2 rfl rfl))).mono fun e W' ⟨he, bel⟩ => ?_
 subst he
 exact ⟨_, rfl, _, _, _, [], _, [], hW', trodAll_mk1 (shut_bool Tryz.underlying4 _), (trodAll_cons_mk (Below.trod laidOut9 (by kernel_rfl) (of_decide_eq_true (by kernel_rfl)) h0 bel lt0) (trodAll_cons_mk (Below.trod laidOut9 (by kernel_rfl) (of_decide_eq_true (by kernel_rfl)) h1 bel lt1) (trodAll_cons_mk (Below.trod laidOut9 (by kernel_rfl) (of_decide_eq_true (by kernel_rfl)) h2 bel lt2) trodAll_mk0))), rfl, bel.frame _, fun h => by cases h⟩
theorem wholeTrusted_holds : Rows.WholeTrustedSaid :=
 OpenClaim.holds_of_wide 3 Tryz.f3 rfl rfl rfl rfl rfl rfl rfl ⟨rfl, rfl, rfl, rfl, rfl⟩ rfl rfl rfl rfl rfl (by kernel_rfl) Tryz.func3 (by kernel_rfl)
  (of_decide_eq_true (by kernel_rfl)) (by unfold Func.isWrapper; first | (rw [if_pos (by decide +kernel)]; kernel_rfl) | (rw [if_neg (by decide +kernel)]; exact ⟨rfl, rfl⟩))
  (fun os started H enc _ => wholeTrusted_lifted os started H enc)
#print axioms wholeTrusted_holds
end Go.Proofs.YtlfclppjhkeljaaGreat
