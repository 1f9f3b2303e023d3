/-
 Whatever is handed in, ShortsBounds returns true, and what was handed in reads as it did; the conditions are the row's own, no other.
-/
import Derived.Test.YtnepbkkdhalbiaaPsb4
import Derived.Test.YtnepbkkdhalbiaaRows
import Derived.Test.YtnepbkkdhalbiaaPsbVeE
import Derived.WalkKit
import Derived.ProofKit
import Derived.OpenShut
import Derived.ChangeOld
import Derived.Below
set_option linter.unusedVariables false
set_option linter.unusedSimpArgs false
set_option linter.unusedSectionVars false
/-! (RowShortsBounds) -/

namespace Go.Proofs.Ytnepbkkdhalbiaa
open Go.ChangeShapes Go.WideShapes Go.ChangeAt Go.RowKit Go.Vd
set_option linter.unusedVariables false
set_option linter.unusedSimpArgs false
theorem own9 : ownKnob Try.prog.godebug = none := by kernel_rfl
theorem laidOut9 : laidOutB Try.prog = true := by kernel_rfl
theorem i64_rng {x : Int} (h : (Lit.int .i64 x).wf = true) : -9223372036854775808 ≤ x /\ x ≤ 9223372036854775807 := by
 simp only [Lit.wf, IntKind.min, IntKind.max, IntKind.signed, IntKind.bits, Bool.and_eq_true, decide_eq_true_eq, if_true, Bool.false_eq_true, if_false] at h
 omega
theorem u64_rng {x : Int} (h : (Lit.int .u64 x).wf = true) : 0 ≤ x /\ x ≤ 18446744073709551615 := by
 simp only [Lit.wf, IntKind.min, IntKind.max, IntKind.signed, IntKind.bits, Bool.and_eq_true, decide_eq_true_eq, if_true, Bool.false_eq_true, if_false] at h
 omega
theorem int_rd {Hd : Type} {enc : TypeId × Value -> Hd} {W : World} (cs : List Value) (h : Rd enc Try.prog W 3 cs) : ∃ x : Int, cs = Go.Vd.Zal .i64 x /\ (Lit.int .i64 x).wf = true := by
 obtain ⟨n, h1, h2⟩ := h.int Try.underlying3
 exact ⟨n, h1, h2⟩
theorem parts3a {α : Type} {l : List α} {a0 a1 a2 : α} (h : l.length = 3) (h0 : (l.drop 0).take 1 = [a0]) (h1 : (l.drop 1).take 1 = [a1]) (h2 : (l.drop 2).take 1 = [a2]) : l = [a0, a1, a2] := by
 match l, h with
 | [x0, x1, x2], _ => simp at h0 h1 h2; simp [h0, h1, h2]
theorem arc_rd {Hd : Type} {enc : TypeId × Value -> Hd} {W : World} (cs : List Value) (h : Rd enc Try.prog W 118 cs) : ∃ x : Int × Int × Int, cs = Go.Vd.Zq x /\ True := by
 obtain ⟨hl, hf⟩ := h.struct Try.underlying118
 have hc : Try.prog.cellsOf 118 = 3 := by kernel_rfl
 rw [hc] at hl
 have g0 : Rd enc Try.prog W 3 ((cs.drop 0).take (Try.prog.cellsOf 3)) := hf 0 _ rfl
 have g1 : Rd enc Try.prog W 3 ((cs.drop 1).take (Try.prog.cellsOf 3)) := hf 1 _ rfl
 have g2 : Rd enc Try.prog W 3 ((cs.drop 2).take (Try.prog.cellsOf 3)) := hf 2 _ rfl
 rw [show Try.prog.cellsOf 3 = 1 from by kernel_rfl] at g0 g1 g2
 obtain ⟨x0, e0, _⟩ := int_rd _ g0
 obtain ⟨x1, e1, _⟩ := int_rd _ g1
 obtain ⟨x2, e2, _⟩ := int_rd _ g2
 exact ⟨(x0, x1, x2), parts3a hl e0 e1 e2, trivial⟩
theorem u8_rng {x : Int} (h : (Lit.int .u8 x).wf = true) : 0 ≤ x /\ x ≤ 255 := by
 simp only [Lit.wf, IntKind.min, IntKind.max, IntKind.signed, IntKind.bits, Bool.and_eq_true, decide_eq_true_eq, if_true, Bool.false_eq_true, if_false] at h
 omega
theorem k3_rd {Hd : Type} {enc : TypeId × Value -> Hd} {W : World} (cs : List Value) (h : Rd enc Try.prog W 3 cs) : ∃ x : Int, cs = Go.Vd.Zal .i64 x /\ (-9223372036854775808 ≤ x /\ x ≤ 9223372036854775807) := by
 obtain ⟨n, h1, h2⟩ := h.int Try.underlying3
 exact ⟨n, h1, i64_rng h2⟩
theorem k27_rd {Hd : Type} {enc : TypeId × Value -> Hd} {W : World} (cs : List Value) (h : Rd enc Try.prog W 27 cs) : ∃ x : Int, cs = Go.Vd.Zal .u64 x /\ (0 ≤ x /\ x ≤ 18446744073709551615) := by
 obtain ⟨n, h1, h2⟩ := h.int Try.underlying27
 exact ⟨n, h1, u64_rng h2⟩
theorem k5_rd {Hd : Type} {enc : TypeId × Value -> Hd} {W : World} (cs : List Value) (h : Rd enc Try.prog W 5 cs) : ∃ x : Int, cs = Go.Vd.Zal .u8 x /\ (0 ≤ x /\ x ≤ 255) := by
 obtain ⟨n, h1, h2⟩ := h.int Try.underlying5
 exact ⟨n, h1, u8_rng h2⟩
theorem parts5g {α : Type} {l : List α} {a0 a1 a2 a3 a4 : α} (h : l.length = 5) (h0 : (l.drop 0).take 1 = [a0]) (h1 : (l.drop 1).take 1 = [a1]) (h2 : (l.drop 2).take 1 = [a2]) (h3 : (l.drop 3).take 1 = [a3]) (h4 : (l.drop 4).take 1 = [a4]) : l = [a0, a1, a2, a3, a4] := by
 match l, h with
 | [x0, x1, x2, x3, x4], _ => simp at h0 h1 h2 h3 h4; simp [h0, h1, h2, h3, h4]
theorem g83_rd {Hd : Type} {enc : TypeId × Value -> Hd} {W : World} (cs : List Value) (h : Rd enc Try.prog W 83 cs) : ∃ x : Int × Int × Int × Int × Int, cs = Go.Vd.Za5 x /\ ((0 ≤ x.1 /\ x.1 ≤ 255) /\ (-9223372036854775808 ≤ x.2.1 /\ x.2.1 ≤ 9223372036854775807) /\ (-9223372036854775808 ≤ x.2.2.1 /\ x.2.2.1 ≤ 9223372036854775807) /\ (0 ≤ x.2.2.2.1 /\ x.2.2.2.1 ≤ 18446744073709551615) /\ (-9223372036854775808 ≤ x.2.2.2.2 /\ x.2.2.2.2 ≤ 9223372036854775807)) := by
 obtain ⟨hl, hf⟩ := h.struct Try.underlying83
 have hc : Try.prog.cellsOf 83 = 5 := by kernel_rfl
 rw [hc] at hl
 have g0 : Rd enc Try.prog W 5 ((cs.drop 0).take (Try.prog.cellsOf 5)) := hf 0 _ rfl
 rw [show Try.prog.cellsOf 5 = 1 from by kernel_rfl] at g0
 obtain ⟨x0, e0, q0⟩ := k5_rd _ g0
 have g1 : Rd enc Try.prog W 3 ((cs.drop 1).take (Try.prog.cellsOf 3)) := hf 1 _ rfl
 rw [show Try.prog.cellsOf 3 = 1 from by kernel_rfl] at g1
 obtain ⟨x1, e1, q1⟩ := k3_rd _ g1
 have g2 : Rd enc Try.prog W 3 ((cs.drop 2).take (Try.prog.cellsOf 3)) := hf 2 _ rfl
 rw [show Try.prog.cellsOf 3 = 1 from by kernel_rfl] at g2
 obtain ⟨x2, e2, q2⟩ := k3_rd _ g2
 have g3 : Rd enc Try.prog W 27 ((cs.drop 3).take (Try.prog.cellsOf 27)) := hf 3 _ rfl
 rw [show Try.prog.cellsOf 27 = 1 from by kernel_rfl] at g3
 obtain ⟨x3, e3, q3⟩ := k27_rd _ g3
 have g4 : Rd enc Try.prog W 3 ((cs.drop 4).take (Try.prog.cellsOf 3)) := hf 4 _ rfl
 rw [show Try.prog.cellsOf 3 = 1 from by kernel_rfl] at g4
 obtain ⟨x4, e4, q4⟩ := k3_rd _ g4
 exact ⟨(x0, x1, x2, x3, x4), parts5g hl e0 e1 e2 e3 e4, q0, q1, q2, q3, q4⟩
theorem parts2 {α : Type} {l : List α} {a0 a1 : α} (h : l.length = 2) (h0 : (l.drop 0).take 1 = [a0]) (h1 : (l.drop 1).take 1 = [a1]) : l = [a0, a1] := by
 match l, h with
 | [x0, x1], _ => simp at h0 h1; simp [h0, h1]
theorem parts5 {α : Type} {l : List α} {a0 a1 a2 a3 a4 : α} (h : l.length = 5) (h0 : (l.drop 0).take 1 = [a0]) (h1 : (l.drop 1).take 1 = [a1]) (h2 : (l.drop 2).take 1 = [a2]) (h3 : (l.drop 3).take 1 = [a3]) (h4 : (l.drop 4).take 1 = [a4]) : l = [a0, a1, a2, a3, a4] := by
 match l, h with
 | [x0, x1, x2, x3, x4], _ => simp at h0 h1 h2 h3 h4; simp [h0, h1, h2, h3, h4]
theorem shortsBounds_walk {Hd : Type} {enc : TypeId × Value -> Hd} (W : World) (v0 v1 v2 v3 : Value) (k0 : ∃ cs, v0 = .agg cs /\ cs.size = Try.prog.cellsOf 24) (k1 : ∃ a l c, v1 = .slice a l c) (k2 : ∃ n, v2 = .int .i64 n) (k3 : ∃ cs, v3 = .agg cs /\ cs.size = Try.prog.cellsOf 44)
  (r0 : Rd enc Try.prog W 24 v0.cells.toList) (r1 : Rd enc Try.prog W 25 v1.cells.toList) (r2 : Rd enc Try.prog W 3 v2.cells.toList) (r3 : Rd enc Try.prog W 44 v3.cells.toList) :
  Calls Try.prog 4 #[v0, v1, v2, v3] W fun e w' => e = .returned (.bool true) /\ Below W.heap.size W w' := by
 have hb3 : Try.prog.bytesOf 3 = 8 := by kernel_rfl
 have hr : reachBytes = 140737488351232 := by decide
 have hbA : Try.prog.bytesOf 118 = 24 := by kernel_rfl
 have hbG83 : Try.prog.bytesOf 83 = 40 := by kernel_rfl
 obtain ⟨cs0, rfl, hcs0⟩ := k0
 obtain ⟨hl0, hf0⟩ := r0.struct Try.underlying24
 have hc0 : Try.prog.cellsOf 24 = 2 := by kernel_rfl
 have g0_0 : Rd enc Try.prog W 3 (((Value.agg cs0).cells.toList.drop 0).take (Try.prog.cellsOf 3)) := hf0 0 _ rfl
 rw [show Try.prog.cellsOf 3 = 1 from by kernel_rfl] at g0_0
 obtain ⟨X0_0, e0_0, q0_0⟩ := int_rd _ g0_0
 have w0_0 := i64_rng q0_0
 have g0_1 : Rd enc Try.prog W 22 (((Value.agg cs0).cells.toList.drop 1).take (Try.prog.cellsOf 22)) := hf0 1 _ rfl
 rw [show Try.prog.cellsOf 22 = 1 from by kernel_rfl] at g0_1
 obtain ⟨d0_1, X0_1, e0_1, s0_1⟩ := g0_1.slice (en := Go.Vd.Zq) (sz := 3) Try.underlying22 (by kernel_rfl) (fun _ => rfl) arc_rd
 rw [hc0] at hl0
 have hcs0' := parts2 (l := (Value.agg cs0).cells.toList) hl0 e0_0 e0_1
 obtain rfl : cs0 = #[.int .i64 X0_0, d0_1] := by
  have q : (Value.agg cs0).cells = cs0 := rfl
  rw [q] at hcs0'
  cases cs0; simp_all
 obtain ⟨d1, X1, e1, s1⟩ := r1.slice (en := Go.Vd.Za5) (sz := 5) Try.underlying25 (by kernel_rfl) (fun _ => rfl) g83_rd
 have al1 : ∀ x ∈ X1, (0 ≤ x.1 /\ x.1 ≤ 255) /\ (-9223372036854775808 ≤ x.2.1 /\ x.2.1 ≤ 9223372036854775807) /\ (-9223372036854775808 ≤ x.2.2.1 /\ x.2.2.1 ≤ 9223372036854775807) /\ (0 ≤ x.2.2.2.1 /\ x.2.2.2.1 ≤ 18446744073709551615) /\ (-9223372036854775808 ≤ x.2.2.2.2 /\ x.2.2.2.2 ≤ 9223372036854775807) := s1.all
 obtain ⟨aa1, ll1, cc1, rfl⟩ := k1
 obtain rfl : d1 = .slice aa1 ll1 cc1 := by
  have q : (Value.slice aa1 ll1 cc1).cells.toList = [.slice aa1 ll1 cc1] := rfl
  rw [q] at e1; cases e1; rfl
 obtain ⟨X2, e2, q2⟩ := int_rd _ r2
 obtain ⟨n2, rfl⟩ := k2
 obtain rfl : n2 = X2 := by
  have q : (Value.int .i64 n2).cells.toList = [.int .i64 n2] := rfl
  rw [q] at e2; cases e2; rfl
 have w2 := i64_rng q2
 obtain ⟨cs3, rfl, hcs3⟩ := k3
 obtain ⟨hl3, hf3⟩ := r3.struct Try.underlying44
 have hc3 : Try.prog.cellsOf 44 = 5 := by kernel_rfl
 have g3_0 : Rd enc Try.prog W 3 (((Value.agg cs3).cells.toList.drop 0).take (Try.prog.cellsOf 3)) := hf3 0 _ rfl
 rw [show Try.prog.cellsOf 3 = 1 from by kernel_rfl] at g3_0
 obtain ⟨X3_0, e3_0, q3_0⟩ := int_rd _ g3_0
 have w3_0 := i64_rng q3_0
 have g3_1 : Rd enc Try.prog W 3 (((Value.agg cs3).cells.toList.drop 1).take (Try.prog.cellsOf 3)) := hf3 1 _ rfl
 rw [show Try.prog.cellsOf 3 = 1 from by kernel_rfl] at g3_1
 obtain ⟨X3_1, e3_1, q3_1⟩ := int_rd _ g3_1
 have w3_1 := i64_rng q3_1
 have g3_2 : Rd enc Try.prog W 3 (((Value.agg cs3).cells.toList.drop 2).take (Try.prog.cellsOf 3)) := hf3 2 _ rfl
 rw [show Try.prog.cellsOf 3 = 1 from by kernel_rfl] at g3_2
 obtain ⟨X3_2, e3_2, q3_2⟩ := int_rd _ g3_2
 have w3_2 := i64_rng q3_2
 have g3_3 : Rd enc Try.prog W 3 (((Value.agg cs3).cells.toList.drop 3).take (Try.prog.cellsOf 3)) := hf3 3 _ rfl
 rw [show Try.prog.cellsOf 3 = 1 from by kernel_rfl] at g3_3
 obtain ⟨X3_3, e3_3, q3_3⟩ := int_rd _ g3_3
 have w3_3 := i64_rng q3_3
 have g3_4 : Rd enc Try.prog W 3 (((Value.agg cs3).cells.toList.drop 4).take (Try.prog.cellsOf 3)) := hf3 4 _ rfl
 rw [show Try.prog.cellsOf 3 = 1 from by kernel_rfl] at g3_4
 obtain ⟨X3_4, e3_4, q3_4⟩ := int_rd _ g3_4
 have w3_4 := i64_rng q3_4
 rw [hc3] at hl3
 have hcs3' := parts5 (l := (Value.agg cs3).cells.toList) hl3 e3_0 e3_1 e3_2 e3_3 e3_4
 obtain rfl : cs3 = #[.int .i64 X3_0, .int .i64 X3_1, .int .i64 X3_2, .int .i64 X3_3, .int .i64 X3_4] := by
  have q : (Value.agg cs3).cells = cs3 := rfl
  rw [q] at hcs3'
  cases cs3; simp_all
 obtain ⟨μ0_1, H0_1, b0_1, f0_1, E0_1, x0_1, l0_1, va0_1, qa0_1⟩ := s0_1.ent (Ent.nil W (fun v h => by cases h)) (by decide) (fun _ => rfl) (fun _ => rfl) (fun x u hu => by simp only [Go.Vd.Zq, List.mem_cons, List.not_mem_nil, or_false] at hu; rcases hu with rfl | rfl | rfl <;> rfl)
 have n0_1x := s0_1.len
 rw [hbA, hr] at n0_1x
 obtain ⟨μ1, H1, b1, f1, E1, x1, l1, va1, qa1⟩ := s1.ent E0_1 (by decide) (fun _ => rfl) (fun _ => rfl) (fun x u hu => by simp only [Go.Vd.Za5, List.mem_cons, List.not_mem_nil, or_false] at hu; rcases hu with rfl | rfl | rfl | rfl | rfl <;> rfl)
 have n1x := s1.len
 rw [hbG83, hr] at n1x
 have hp : Zaw X0_0 X0_1 X1 n2 X3_0 X3_1 X3_2 X3_3 X3_4 = some true := by
  apply ZhL <;> first | omega | assumption
 have hw := Zem E1.wf (qa0_1.ext x1) qa1 hp
 have ag0 : ARel μ1 #[.int .i64 X0_0, b0_1] #[.int .i64 X0_0, d0_1] := ARel.toList.2 (.cons (.int _ _) (.cons (va0_1.mono l1) .nil))
 have ag3 : ARel μ1 #[.int .i64 X3_0, .int .i64 X3_1, .int .i64 X3_2, .int .i64 X3_3, .int .i64 X3_4] #[.int .i64 X3_0, .int .i64 X3_1, .int .i64 X3_2, .int .i64 X3_3, .int .i64 X3_4] := ARel.toList.2 (.cons (.int _ _) (.cons (.int _ _) (.cons (.int _ _) (.cons (.int _ _) (.cons (.int _ _) .nil)))))
 have harg : ARel μ1 #[.agg #[.int .i64 X0_0, b0_1], b1, .int .i64 n2, .agg #[.int .i64 X3_0, .int .i64 X3_1, .int .i64 X3_2, .int .i64 X3_3, .int .i64 X3_4]] #[.agg #[.int .i64 X0_0, d0_1], .slice aa1 ll1 cc1, .int .i64 n2, .agg #[.int .i64 X3_0, .int .i64 X3_1, .int .i64 X3_2, .int .i64 X3_3, .int .i64 X3_4]] := ARel.toList.2 (.cons (.agg _ _ ag0.1 ag0.2) (.cons va1 (.cons (.int _ _) (.cons (.agg _ _ ag3.1 ag3.2) .nil))))
 exact Zhz (hw.mono fun v H' h => h.1) rfl E1.rel harg E1.ro
set_option maxRecDepth 100000 in
theorem shortsBounds_lifted (os : Os) (started : os.Started) (H : Type) (enc : TypeId × Value -> H) :
  ReturnsInHanded {} Try.checked os 4 .any (Rows.shortsBoundsSpec.pre6 enc Try.prog Try.f4 Rows.shortsBoundsRow.domain false) (Rows.shortsBoundsSpec.post enc Try.prog Try.f4 false true false false) := by
 refine returnsInHanded_of_change_sized (C := Try.checked) own9 started (by kernel_rfl) Try.func4
  (ChangeSpec.witness6 (enc := enc) (C := Try.checked) false ⟨#[], #[.agg #[.int .i64 0, .slice none 0 0], .slice none 0 0, .int .i64 0, .agg #[.int .i64 0, .int .i64 0, .int .i64 0, .int .i64 0, .int .i64 0]], []⟩ 8 (by kernel_rfl) (by kernel_rfl) (by kernel_rfl) (by kernel_rfl)) ?_
 intro W base args ds gs before hval0 hW hcnd hsz _
 have hval : ∀ (j : Nat) t v, Try.f4.params[j]? = some t -> args[j]? = some v -> Value.okWide Try.prog W .any base t v := hval0
 have hW' := hW
 obtain ⟨p, q, hA0, hV, rfl, hfz, hnd⟩ := hW
 have hA : DataW.TrodAll enc Try.prog W 0 (fun _ => true) true Try.f4.params.toList args.toList ds p := hA0
 have hsz' : (DataW.weightsEach Try.prog (Try.f4.params.toList ++ Rows.shortsBoundsSpec.plain.varTypes Try.prog) (ds ++ gs)).all (· ≤ reachBytes) = true := hsz
 rw [Try.params4] at hA hval hsz'
 obtain ⟨v0, vs0, d0, ds0, p0, q0, hargs, rfl, rfl, h0, r0⟩ := trodAll_cons hA
 obtain ⟨v1, vs1, d1, ds1, p1, q1, rfl, rfl, rfl, h1, r1⟩ := trodAll_cons r0
 obtain ⟨v2, vs2, d2, ds2, p2, q2, rfl, rfl, rfl, h2, r2⟩ := trodAll_cons r1
 obtain ⟨v3, vs3, d3, ds3, p3, q3, rfl, rfl, rfl, h3, r3⟩ := trodAll_cons r2
 obtain ⟨rfl, rfl, rfl⟩ := trodAll_nil r3
 obtain rfl : args = #[v0, v1, v2, v3] := by cases args; simp_all
 obtain ⟨rfl, rfl⟩ := trodVars_none hV
 have wt : ∀ (j : Nat) t d, (#[24, 25, 3, 44] : Array TypeId).toList[j]? = some t -> [d0, d1, d2, d3][j]? = some d -> ∀ n ∈ d.weights Try.prog t, n ≤ reachBytes := fun j t d ht hd n hn => by
  have hlt := (List.getElem?_eq_some_iff.1 ht).1
  have hltd := (List.getElem?_eq_some_iff.1 hd).1
  have := List.all_eq_true.1 hsz' n (DataW.weights_mem_each (j := j) (t := t) (d := d) (by rw [List.getElem?_append_left hlt]; exact ht) (by rw [List.getElem?_append_left hltd]; exact hd) n hn)
  simpa using this
 have lt0 : ∀ x ∈ p0, x.block < W.heap.size := by obtain ⟨m, hm⟩ := h0; exact DataW.trod_lt m _ _ _ hm
 have lt1 : ∀ x ∈ p1, x.block < W.heap.size := by obtain ⟨m, hm⟩ := h1; exact DataW.trod_lt m _ _ _ hm
 have lt2 : ∀ x ∈ p2, x.block < W.heap.size := by obtain ⟨m, hm⟩ := h2; exact DataW.trod_lt m _ _ _ hm
 have lt3 : ∀ x ∈ p3, x.block < W.heap.size := by obtain ⟨m, hm⟩ := h3; exact DataW.trod_lt m _ _ _ hm
 refine (shortsBounds_walk (enc := enc) W v0 v1 v2 v3 (okWide_struct Try.underlying24 (hval 0 24 v0 rfl rfl)) (okWide_slice Try.underlying25 (hval 1 25 v1 rfl rfl)) (okWide_int Try.underlying3 (hval 2 3 v2 rfl rfl)) (okWide_struct Try.underlying44 (hval 3 44 v3 rfl rfl)) (Rd.of h0 (wt 0 24 d0 rfl rfl)) (Rd.of h1 (wt 1 25 d1 rfl rfl)) (Rd.of h2 (wt 2 3 d2 rfl rfl)) (Rd.of h3 (wt 3 44 d3 rfl rfl))).mono fun e W' ⟨he, bel⟩ => ?_
 subst he
 exact ⟨_, rfl, _, _, _, [], _, [], hW', trodAll_mk1 (shut_bool Try.underlying4 _), (trodAll_cons_mk (Below.trod laidOut9 (by kernel_rfl) (of_decide_eq_true (by kernel_rfl)) h0 bel lt0) (trodAll_cons_mk (Below.trod laidOut9 (by kernel_rfl) (of_decide_eq_true (by kernel_rfl)) h1 bel lt1) (trodAll_cons_mk (Below.trod laidOut9 (by kernel_rfl) (of_decide_eq_true (by kernel_rfl)) h2 bel lt2) (trodAll_cons_mk (Below.trod laidOut9 (by kernel_rfl) (of_decide_eq_true (by kernel_rfl)) h3 bel lt3) trodAll_mk0)))), rfl, bel.frame _, fun h => by cases h⟩
theorem shortsBounds_holds : Rows.ShortsBoundsSaid :=
 OpenClaim.holds_of_wide 4 Try.f4 rfl rfl rfl rfl rfl rfl rfl ⟨rfl, rfl, rfl, rfl, rfl⟩ rfl rfl rfl rfl rfl (by kernel_rfl) Try.func4 (by kernel_rfl)
  (of_decide_eq_true (by kernel_rfl)) (by unfold Func.isWrapper; first | (rw [if_pos (by decide +kernel)]; kernel_rfl) | (rw [if_neg (by decide +kernel)]; exact ⟨rfl, rfl⟩))
  (fun os started H enc _ => shortsBounds_lifted os started H enc)
#print axioms shortsBounds_holds
end Go.Proofs.Ytnepbkkdhalbiaa
