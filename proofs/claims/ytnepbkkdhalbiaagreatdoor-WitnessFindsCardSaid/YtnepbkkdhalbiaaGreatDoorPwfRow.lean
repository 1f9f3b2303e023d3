/-
 Whatever is handed in, WitnessFinds returns true, and what was handed in reads as it did; the conditions are the row's own, no other.
-/
import Derived.Test.YtnepbkkdhalbiaaGreatDoorPwf4
import Derived.Test.YtnepbkkdhalbiaaGreatDoorRows
import Derived.Test.YtnepbkkdhalbiaaGreatDoorPwfVeE
import Derived.WalkKit
import Derived.ProofKit
import Derived.OpenShut
import Derived.ChangeOld
import Derived.Below
import Derived.Test.YtnepbkkdhalbiaaGreatDoorTie
import Derived.Test.YtnepbkkdhalbiaaGreatDoorCards
import Derived.JoinedOf
import Derived.LaidHandle
import Derived.SevenTiedAt
set_option linter.unusedVariables false
set_option linter.unusedSimpArgs false
set_option linter.unusedSectionVars false
/-! (RowWitnessFinds) -/

namespace Go.Proofs.YtnepbkkdhalbiaaGreatDoor
open Go.ChangeShapes Go.WideShapes Go.ChangeAt Go.RowKit Go.Vd
set_option linter.unusedVariables false
set_option linter.unusedSimpArgs false
theorem own9 : ownKnob Tryz.prog.godebug = none := by kernel_rfl
theorem laidOut9 : laidOutB Tryz.prog = true := by kernel_rfl
theorem et9 : Tryz.prog.globalNamed "errors.errorType" = some 0 := by kernel_rfl
theorem rt9 : (Tryz.prog.cutTypes.find? (·.1 == "internal/reflectlite.rtype")).map (·.2) = some 192 := by kernel_rfl
theorem oneRow9 : ((List.range 273).filter fun t => Tryz.prog.rowNamed t [101, 114, 114, 111, 114]) = [38] := by kernel_rfl
theorem size9 : Tryz.prog.types.size = 273 := by kernel_rfl
theorem handle_of_laid {W : World} (h : laidMetH Tryz.prog Rows.witnessFindsRow.laid W) : W.cell? ⟨0, 0, none⟩ = some (.iface 192 (.agg #[.pointer (some ⟨1, 38, none⟩)])) := by
 have h' : laidMet Tryz.prog [] W /\ handlesMet Tryz.prog Rows.witnessFindsRow.laid W := h
 obtain ⟨name, u, ty, e1, e2, e3, e4, e5⟩ := h'.2 _ (List.mem_singleton.2 rfl)
 have en : name = [101, 114, 114, 111, 114] := (Option.some.inj e1).symm
 subst en
 obtain rfl := Option.some.inj (rt9.symm.trans e2)
 have hm : ty ∈ (List.range 273).filter fun t => Tryz.prog.rowNamed t [101, 114, 114, 111, 114] := List.mem_filter.2 ⟨List.mem_range.2 (by rw [← size9]; exact e3), e4⟩
 rw [oneRow9] at hm
 obtain rfl := List.mem_singleton.1 hm
 have hh : typeHandle Tryz.prog 38 = .pointer (some ⟨1, 38, none⟩) := by kernel_rfl
 rw [hh] at e5
 simpa using World.var?_cell et9 e5 0
theorem pin_of_laid {W : World} (h : laidMetH Tryz.prog Rows.witnessFindsRow.laid W) : ∀ v, pinV = some v -> ∃ c ty fr, W.heap[0]? = some (.cells c ty fr) /\ c[0]? = some v := by
 intro v hv
 obtain rfl := Option.some.inj hv
 exact (cell_heap (handle_of_laid h)).2
noncomputable def laidWorld (os : Os) : World :=
 let w0 := World.holding Tryz.prog os ⟨#[], #[], []⟩
 { w0 with heap := w0.heap.modify 0 fun
   | .cells _ t frozen => .cells #[.iface 192 (.agg #[.pointer (some ⟨1, 38, none⟩)])] t frozen
   | o => o }
theorem laidWorld_met (os : Os) (args : Array Value) : laidMetH Tryz.prog Rows.witnessFindsRow.laid ((laidWorld os).forCall (fun _ _ => 0) ⟨#[], args, []⟩).memory :=
 laidMetH_of_parts (laidMet_nil _ _) (by kernel_rfl)
theorem i64_rng {x : Int} (h : (Lit.int .i64 x).wf = true) : -9223372036854775808 ≤ x /\ x ≤ 9223372036854775807 := by
 simp only [Lit.wf, IntKind.min, IntKind.max, IntKind.signed, IntKind.bits, Bool.and_eq_true, decide_eq_true_eq, if_true, Bool.false_eq_true, if_false] at h
 omega
theorem u64_rng {x : Int} (h : (Lit.int .u64 x).wf = true) : 0 ≤ x /\ x ≤ 18446744073709551615 := by
 simp only [Lit.wf, IntKind.min, IntKind.max, IntKind.signed, IntKind.bits, Bool.and_eq_true, decide_eq_true_eq, if_true, Bool.false_eq_true, if_false] at h
 omega
theorem int_rd {Hd : Type} {enc : TypeId × Value -> Hd} {W : World} (cs : List Value) (h : Rd enc Tryz.prog W 3 cs) : ∃ x : Int, cs = Go.Vd.encI .i64 x /\ (Lit.int .i64 x).wf = true := by
 obtain ⟨n, h1, h2⟩ := h.int Tryz.underlying3
 exact ⟨n, h1, h2⟩
theorem u64_rd {Hd : Type} {enc : TypeId × Value -> Hd} {W : World} (cs : List Value) (h : Rd enc Tryz.prog W 27 cs) : ∃ x : Int, cs = Go.Vd.encI .u64 x /\ (Lit.int .u64 x).wf = true := by
 obtain ⟨n, h1, h2⟩ := h.int Tryz.underlying27
 exact ⟨n, h1, h2⟩
theorem parts3a {α : Type} {l : List α} {a0 a1 a2 : α} (h : l.length = 3) (h0 : (l.drop 0).take 1 = [a0]) (h1 : (l.drop 1).take 1 = [a1]) (h2 : (l.drop 2).take 1 = [a2]) : l = [a0, a1, a2] := by
 match l, h with
 | [x0, x1, x2], _ => simp at h0 h1 h2; simp [h0, h1, h2]
theorem arc_rd {Hd : Type} {enc : TypeId × Value -> Hd} {W : World} (cs : List Value) (h : Rd enc Tryz.prog W 74 cs) : ∃ x : Int × Int × Int, cs = Go.Vd.enc_i64_i64_i64 x /\ True := by
 obtain ⟨hl, hf⟩ := h.struct Tryz.underlying74
 have hc : Tryz.prog.cellsOf 74 = 3 := by kernel_rfl
 rw [hc] at hl
 have g0 : Rd enc Tryz.prog W 3 ((cs.drop 0).take (Tryz.prog.cellsOf 3)) := hf 0 _ rfl
 have g1 : Rd enc Tryz.prog W 3 ((cs.drop 1).take (Tryz.prog.cellsOf 3)) := hf 1 _ rfl
 have g2 : Rd enc Tryz.prog W 3 ((cs.drop 2).take (Tryz.prog.cellsOf 3)) := hf 2 _ rfl
 rw [show Tryz.prog.cellsOf 3 = 1 from by kernel_rfl] at g0 g1 g2
 obtain ⟨x0, e0, _⟩ := int_rd _ g0
 obtain ⟨x1, e1, _⟩ := int_rd _ g1
 obtain ⟨x2, e2, _⟩ := int_rd _ g2
 exact ⟨(x0, x1, x2), parts3a hl e0 e1 e2, trivial⟩
theorem u8_rng {x : Int} (h : (Lit.int .u8 x).wf = true) : 0 ≤ x /\ x ≤ 255 := by
 simp only [Lit.wf, IntKind.min, IntKind.max, IntKind.signed, IntKind.bits, Bool.and_eq_true, decide_eq_true_eq, if_true, Bool.false_eq_true, if_false] at h
 omega
theorem k3_rd {Hd : Type} {enc : TypeId × Value -> Hd} {W : World} (cs : List Value) (h : Rd enc Tryz.prog W 3 cs) : ∃ x : Int, cs = Go.Vd.encI .i64 x /\ (-9223372036854775808 ≤ x /\ x ≤ 9223372036854775807) := by
 obtain ⟨n, h1, h2⟩ := h.int Tryz.underlying3
 exact ⟨n, h1, i64_rng h2⟩
theorem k27_rd {Hd : Type} {enc : TypeId × Value -> Hd} {W : World} (cs : List Value) (h : Rd enc Tryz.prog W 27 cs) : ∃ x : Int, cs = Go.Vd.encI .u64 x /\ (0 ≤ x /\ x ≤ 18446744073709551615) := by
 obtain ⟨n, h1, h2⟩ := h.int Tryz.underlying27
 exact ⟨n, h1, u64_rng h2⟩
theorem k5_rd {Hd : Type} {enc : TypeId × Value -> Hd} {W : World} (cs : List Value) (h : Rd enc Tryz.prog W 5 cs) : ∃ x : Int, cs = Go.Vd.encI .u8 x /\ (0 ≤ x /\ x ≤ 255) := by
 obtain ⟨n, h1, h2⟩ := h.int Tryz.underlying5
 exact ⟨n, h1, u8_rng h2⟩
theorem parts5g {α : Type} {l : List α} {a0 a1 a2 a3 a4 : α} (h : l.length = 5) (h0 : (l.drop 0).take 1 = [a0]) (h1 : (l.drop 1).take 1 = [a1]) (h2 : (l.drop 2).take 1 = [a2]) (h3 : (l.drop 3).take 1 = [a3]) (h4 : (l.drop 4).take 1 = [a4]) : l = [a0, a1, a2, a3, a4] := by
 match l, h with
 | [x0, x1, x2, x3, x4], _ => simp at h0 h1 h2 h3 h4; simp [h0, h1, h2, h3, h4]
theorem g89_rd {Hd : Type} {enc : TypeId × Value -> Hd} {W : World} (cs : List Value) (h : Rd enc Tryz.prog W 89 cs) : ∃ x : Int × Int × Int × Int × Int, cs = Go.Vd.enc_u8_i64_i64_u64_i64 x /\ ((0 ≤ x.1 /\ x.1 ≤ 255) /\ (-9223372036854775808 ≤ x.2.1 /\ x.2.1 ≤ 9223372036854775807) /\ (-9223372036854775808 ≤ x.2.2.1 /\ x.2.2.1 ≤ 9223372036854775807) /\ (0 ≤ x.2.2.2.1 /\ x.2.2.2.1 ≤ 18446744073709551615) /\ (-9223372036854775808 ≤ x.2.2.2.2 /\ x.2.2.2.2 ≤ 9223372036854775807)) := by
 obtain ⟨hl, hf⟩ := h.struct Tryz.underlying89
 have hc : Tryz.prog.cellsOf 89 = 5 := by kernel_rfl
 rw [hc] at hl
 have g0 : Rd enc Tryz.prog W 5 ((cs.drop 0).take (Tryz.prog.cellsOf 5)) := hf 0 _ rfl
 rw [show Tryz.prog.cellsOf 5 = 1 from by kernel_rfl] at g0
 obtain ⟨x0, e0, q0⟩ := k5_rd _ g0
 have g1 : Rd enc Tryz.prog W 3 ((cs.drop 1).take (Tryz.prog.cellsOf 3)) := hf 1 _ rfl
 rw [show Tryz.prog.cellsOf 3 = 1 from by kernel_rfl] at g1
 obtain ⟨x1, e1, q1⟩ := k3_rd _ g1
 have g2 : Rd enc Tryz.prog W 3 ((cs.drop 2).take (Tryz.prog.cellsOf 3)) := hf 2 _ rfl
 rw [show Tryz.prog.cellsOf 3 = 1 from by kernel_rfl] at g2
 obtain ⟨x2, e2, q2⟩ := k3_rd _ g2
 have g3 : Rd enc Tryz.prog W 27 ((cs.drop 3).take (Tryz.prog.cellsOf 27)) := hf 3 _ rfl
 rw [show Tryz.prog.cellsOf 27 = 1 from by kernel_rfl] at g3
 obtain ⟨x3, e3, q3⟩ := k27_rd _ g3
 have g4 : Rd enc Tryz.prog W 3 ((cs.drop 4).take (Tryz.prog.cellsOf 3)) := hf 4 _ rfl
 rw [show Tryz.prog.cellsOf 3 = 1 from by kernel_rfl] at g4
 obtain ⟨x4, e4, q4⟩ := k3_rd _ g4
 exact ⟨(x0, x1, x2, x3, x4), parts5g hl e0 e1 e2 e3 e4, q0, q1, q2, q3, q4⟩
theorem parts2 {α : Type} {l : List α} {a0 a1 : α} (h : l.length = 2) (h0 : (l.drop 0).take 1 = [a0]) (h1 : (l.drop 1).take 1 = [a1]) : l = [a0, a1] := by
 match l, h with
 | [x0, x1], _ => simp at h0 h1; simp [h0, h1]
theorem witnessFinds_walk {Hd : Type} {enc : TypeId × Value -> Hd} (W : World) (v0 v1 v2 v3 v4 v5 v6 v7 : Value) (hpin : ∀ v, pinV = some v -> ∃ c ty fr, W.heap[0]? = some (.cells c ty fr) /\ c[0]? = some v) (k0 : ∃ cs, v0 = .agg cs /\ cs.size = Tryz.prog.cellsOf 24) (k1 : ∃ a l c, v1 = .slice a l c) (k2 : ∃ n, v2 = .int .i64 n) (k3 : ∃ n, v3 = .int .i64 n) (k4 : ∃ a l c, v4 = .slice a l c) (k5 : ∃ n, v5 = .int .u64 n) (k6 : ∃ n, v6 = .int .i64 n) (k7 : ∃ n, v7 = .int .i64 n)
  (r0 : Rd enc Tryz.prog W 24 v0.cells.toList) (r1 : Rd enc Tryz.prog W 25 v1.cells.toList) (r2 : Rd enc Tryz.prog W 3 v2.cells.toList) (r3 : Rd enc Tryz.prog W 3 v3.cells.toList) (r4 : Rd enc Tryz.prog W 26 v4.cells.toList) (r5 : Rd enc Tryz.prog W 27 v5.cells.toList) (r6 : Rd enc Tryz.prog W 3 v6.cells.toList) (r7 : Rd enc Tryz.prog W 3 v7.cells.toList) :
  Calls Tryz.prog 3 #[v0, v1, v2, v3, v4, v5, v6, v7] W fun e w' => e = .returned (.bool true) /\ Below W.heap.size W w' := by
 have hb3 : Tryz.prog.bytesOf 3 = 8 := by kernel_rfl
 have hr : reachBytes = 140737488351232 := by decide
 have hbA : Tryz.prog.bytesOf 74 = 24 := by kernel_rfl
 have hbG89 : Tryz.prog.bytesOf 89 = 40 := by kernel_rfl
 obtain ⟨cs0, rfl, hcs0⟩ := k0
 obtain ⟨hl0, hf0⟩ := r0.struct Tryz.underlying24
 have hc0 : Tryz.prog.cellsOf 24 = 2 := by kernel_rfl
 have g0_0 : Rd enc Tryz.prog W 3 (((Value.agg cs0).cells.toList.drop 0).take (Tryz.prog.cellsOf 3)) := hf0 0 _ rfl
 rw [show Tryz.prog.cellsOf 3 = 1 from by kernel_rfl] at g0_0
 obtain ⟨X0_0, e0_0, q0_0⟩ := int_rd _ g0_0
 have w0_0 := i64_rng q0_0
 have g0_1 : Rd enc Tryz.prog W 22 (((Value.agg cs0).cells.toList.drop 1).take (Tryz.prog.cellsOf 22)) := hf0 1 _ rfl
 rw [show Tryz.prog.cellsOf 22 = 1 from by kernel_rfl] at g0_1
 obtain ⟨d0_1, X0_1, e0_1, s0_1⟩ := g0_1.slice (en := Go.Vd.enc_i64_i64_i64) (sz := 3) Tryz.underlying22 (by kernel_rfl) (fun _ => rfl) arc_rd
 rw [hc0] at hl0
 have hcs0' := parts2 (l := (Value.agg cs0).cells.toList) hl0 e0_0 e0_1
 obtain rfl : cs0 = #[.int .i64 X0_0, d0_1] := by
  have q : (Value.agg cs0).cells = cs0 := rfl
  rw [q] at hcs0'
  cases cs0; simp_all
 obtain ⟨d1, X1, e1, s1⟩ := r1.slice (en := Go.Vd.enc_u8_i64_i64_u64_i64) (sz := 5) Tryz.underlying25 (by kernel_rfl) (fun _ => rfl) g89_rd
 have al1 : ∀ x ∈ X1, (0 ≤ x.1 /\ x.1 ≤ 255) /\ (-9223372036854775808 ≤ x.2.1 /\ x.2.1 ≤ 9223372036854775807) /\ (-9223372036854775808 ≤ x.2.2.1 /\ x.2.2.1 ≤ 9223372036854775807) /\ (0 ≤ x.2.2.2.1 /\ x.2.2.2.1 ≤ 18446744073709551615) /\ (-9223372036854775808 ≤ x.2.2.2.2 /\ x.2.2.2.2 ≤ 9223372036854775807) := s1.all
 obtain ⟨aa1, ll1, cc1, rfl⟩ := k1
 obtain rfl : d1 = .slice aa1 ll1 cc1 := by
  have q : (Value.slice aa1 ll1 cc1).cells.toList = [.slice aa1 ll1 cc1] := rfl
  rw [q] at e1; cases e1; rfl
 obtain ⟨X2, e2, q2⟩ := int_rd _ r2
 obtain ⟨n2, rfl⟩ := k2
 obtain rfl : n2 = X2 := by
  have q : (Value.int .i64 n2).cells.toList = [.int .i64 n2] := rfl
  rw [q] at e2; cases e2; rfl
 have w2 := i64_rng q2
 obtain ⟨X3, e3, q3⟩ := int_rd _ r3
 obtain ⟨n3, rfl⟩ := k3
 obtain rfl : n3 = X3 := by
  have q : (Value.int .i64 n3).cells.toList = [.int .i64 n3] := rfl
  rw [q] at e3; cases e3; rfl
 have w3 := i64_rng q3
 obtain ⟨d4, X4, e4, s4⟩ := r4.slice (en := Go.Vd.encI .i64) (sz := 1) Tryz.underlying26 (by kernel_rfl) (fun _ => rfl) int_rd
 obtain ⟨aa4, ll4, cc4, rfl⟩ := k4
 obtain rfl : d4 = .slice aa4 ll4 cc4 := by
  have q : (Value.slice aa4 ll4 cc4).cells.toList = [.slice aa4 ll4 cc4] := rfl
  rw [q] at e4; cases e4; rfl
 obtain ⟨X5, e5, q5⟩ := u64_rd _ r5
 obtain ⟨n5, rfl⟩ := k5
 obtain rfl : n5 = X5 := by
  have q : (Value.int .u64 n5).cells.toList = [.int .u64 n5] := rfl
  rw [q] at e5; cases e5; rfl
 have w5 := u64_rng q5
 obtain ⟨X6, e6, q6⟩ := int_rd _ r6
 obtain ⟨n6, rfl⟩ := k6
 obtain rfl : n6 = X6 := by
  have q : (Value.int .i64 n6).cells.toList = [.int .i64 n6] := rfl
  rw [q] at e6; cases e6; rfl
 have w6 := i64_rng q6
 obtain ⟨X7, e7, q7⟩ := int_rd _ r7
 obtain ⟨n7, rfl⟩ := k7
 obtain rfl : n7 = X7 := by
  have q : (Value.int .i64 n7).cells.toList = [.int .i64 n7] := rfl
  rw [q] at e7; cases e7; rfl
 have w7 := i64_rng q7
 obtain ⟨μ0_1, H0_1, b0_1, f0_1, E0_1, x0_1, l0_1, va0_1, qa0_1⟩ := s0_1.ent (Ent.nil W hpin) (by decide) (fun _ => rfl) (fun _ => rfl) (fun x u hu => by simp only [Go.Vd.enc_i64_i64_i64, List.mem_cons, List.not_mem_nil, or_false] at hu; rcases hu with rfl | rfl | rfl <;> rfl)
 have n0_1x := s0_1.len
 rw [hbA, hr] at n0_1x
 obtain ⟨μ1, H1, b1, f1, E1, x1, l1, va1, qa1⟩ := s1.ent E0_1 (by decide) (fun _ => rfl) (fun _ => rfl) (fun x u hu => by simp only [Go.Vd.enc_u8_i64_i64_u64_i64, List.mem_cons, List.not_mem_nil, or_false] at hu; rcases hu with rfl | rfl | rfl | rfl | rfl <;> rfl)
 have n1x := s1.len
 rw [hbG89, hr] at n1x
 obtain ⟨μ4, H4, b4, f4, E4, x4, l4, va4, qa4⟩ := s4.ent E1 (by decide) (fun _ => rfl) (fun _ => rfl) (fun x u hu => by simp [Go.Vd.encI] at hu; subst hu; rfl)
 have n4x := s4.len
 rw [hb3, hr] at n4x
 have hp : z_viaductlaw12_WitnessFinds X0_0 X0_1 X1 n2 n3 X4 n5 n6 n7 = some true := by
  apply p_WitnessFinds <;> first | omega | assumption
 have hw := c_viaductlaw12_WitnessFinds E4.wf ((qa0_1.ext x1).ext x4) (qa1.ext x4) qa4 hp
 have ag0 : ARel μ4 #[.int .i64 X0_0, b0_1] #[.int .i64 X0_0, d0_1] := ARel.toList.2 (.cons (.int _ _) (.cons (va0_1.mono (l1.trans l4)) .nil))
 have harg : ARel μ4 #[.agg #[.int .i64 X0_0, b0_1], b1, .int .i64 n2, .int .i64 n3, b4, .int .u64 n5, .int .i64 n6, .int .i64 n7] #[.agg #[.int .i64 X0_0, d0_1], .slice aa1 ll1 cc1, .int .i64 n2, .int .i64 n3, .slice aa4 ll4 cc4, .int .u64 n5, .int .i64 n6, .int .i64 n7] := ARel.toList.2 (.cons (.agg _ _ ag0.1 ag0.2) (.cons (va1.mono l4) (.cons (.int _ _) (.cons (.int _ _) (.cons va4 (.cons (.int _ _) (.cons (.int _ _) (.cons (.int _ _) .nil))))))))
 exact calls_of_acalls (hw.mono fun v H' h => h.1) rfl E4.rel harg E4.ro
set_option maxRecDepth 100000 in
theorem witnessFinds_lifted (os : Os) (started : os.Started) (H : Type) (enc : TypeId × Value -> H) :
  ReturnsInHanded {} Tryz.checked os 3 .any (fun w args => (Rows.witnessFindsSpec.pre enc Tryz.prog Tryz.f3 Rows.witnessFindsRow.domain false w args /\ laidMetH Tryz.prog Rows.witnessFindsRow.laid w) /\ sizedMet enc Tryz.prog Tryz.f3 (OpenSpec.ofChange Rows.witnessFindsSpec) false w args) (Rows.witnessFindsSpec.post enc Tryz.prog Tryz.f3 false true false false) := by
 refine returnsInHanded_of_change_and (C := Tryz.checked) (X := fun w _ => laidMetH Tryz.prog Rows.witnessFindsRow.laid w) (fun _ _ _ hh h => h.of_heap hh) own9 started (by kernel_rfl) Tryz.func3
  (ChangeSpec.witness_at (enc := enc) (C := Tryz.checked) (os := os) (X := fun w _ => laidMetH Tryz.prog Rows.witnessFindsRow.laid w) false (laidWorld os) #[.agg #[.int .i64 0, .slice none 0 0], .slice none 0 0, .int .i64 0, .int .i64 0, .slice none 0 0, .int .u64 0, .int .i64 0, .int .i64 0] 8 rfl (by kernel_rfl) (by kernel_rfl) (by kernel_rfl) (by kernel_rfl) (by kernel_rfl) (laidWorld_met os _)) ?_
 intro W base args ds gs before hval0 hW hcnd hsz hL _
 have hval : ∀ (j : Nat) t v, Tryz.f3.params[j]? = some t -> args[j]? = some v -> Value.okWide Tryz.prog W .any base t v := hval0
 have hW' := hW
 obtain ⟨p, q, hA0, hV, rfl, hfz, hnd⟩ := hW
 have hA : DataW.TrodAll enc Tryz.prog W 0 (fun _ => true) true Tryz.f3.params.toList args.toList ds p := hA0
 have hsz' : (DataW.weightsEach Tryz.prog (Tryz.f3.params.toList ++ Rows.witnessFindsSpec.plain.varTypes Tryz.prog) (ds ++ gs)).all (· ≤ reachBytes) = true := hsz
 rw [Tryz.params3] at hA hval hsz'
 obtain ⟨v0, vs0, d0, ds0, p0, q0, hargs, rfl, rfl, h0, r0⟩ := trodAll_cons hA
 obtain ⟨v1, vs1, d1, ds1, p1, q1, rfl, rfl, rfl, h1, r1⟩ := trodAll_cons r0
 obtain ⟨v2, vs2, d2, ds2, p2, q2, rfl, rfl, rfl, h2, r2⟩ := trodAll_cons r1
 obtain ⟨v3, vs3, d3, ds3, p3, q3, rfl, rfl, rfl, h3, r3⟩ := trodAll_cons r2
 obtain ⟨v4, vs4, d4, ds4, p4, q4, rfl, rfl, rfl, h4, r4⟩ := trodAll_cons r3
 obtain ⟨v5, vs5, d5, ds5, p5, q5, rfl, rfl, rfl, h5, r5⟩ := trodAll_cons r4
 obtain ⟨v6, vs6, d6, ds6, p6, q6, rfl, rfl, rfl, h6, r6⟩ := trodAll_cons r5
 obtain ⟨v7, vs7, d7, ds7, p7, q7, rfl, rfl, rfl, h7, r7⟩ := trodAll_cons r6
 obtain ⟨rfl, rfl, rfl⟩ := trodAll_nil r7
 obtain rfl : args = #[v0, v1, v2, v3, v4, v5, v6, v7] := by cases args; simp_all
 obtain ⟨rfl, rfl⟩ := trodVars_none hV
 have wt : ∀ (j : Nat) t d, (#[24, 25, 3, 3, 26, 27, 3, 3] : Array TypeId).toList[j]? = some t -> [d0, d1, d2, d3, d4, d5, d6, d7][j]? = some d -> ∀ n ∈ d.weights Tryz.prog t, n ≤ reachBytes := fun j t d ht hd n hn => by
  have hlt := (List.getElem?_eq_some_iff.1 ht).1
  have hltd := (List.getElem?_eq_some_iff.1 hd).1
  have := List.all_eq_true.1 hsz' n (DataW.weights_mem_each (j := j) (t := t) (d := d) (by rw [List.getElem?_append_left hlt]; exact ht) (by rw [List.getElem?_append_left hltd]; exact hd) n hn)
  simpa using this
 have lt0 : ∀ x ∈ p0, x.block < W.heap.size := by obtain ⟨m, hm⟩ := h0; exact DataW.trod_lt m _ _ _ hm
 have lt1 : ∀ x ∈ p1, x.block < W.heap.size := by obtain ⟨m, hm⟩ := h1; exact DataW.trod_lt m _ _ _ hm
 have lt2 : ∀ x ∈ p2, x.block < W.heap.size := by obtain ⟨m, hm⟩ := h2; exact DataW.trod_lt m _ _ _ hm
 have lt3 : ∀ x ∈ p3, x.block < W.heap.size := by obtain ⟨m, hm⟩ := h3; exact DataW.trod_lt m _ _ _ hm
 have lt4 : ∀ x ∈ p4, x.block < W.heap.size := by obtain ⟨m, hm⟩ := h4; exact DataW.trod_lt m _ _ _ hm
 have lt5 : ∀ x ∈ p5, x.block < W.heap.size := by obtain ⟨m, hm⟩ := h5; exact DataW.trod_lt m _ _ _ hm
 have lt6 : ∀ x ∈ p6, x.block < W.heap.size := by obtain ⟨m, hm⟩ := h6; exact DataW.trod_lt m _ _ _ hm
 have lt7 : ∀ x ∈ p7, x.block < W.heap.size := by obtain ⟨m, hm⟩ := h7; exact DataW.trod_lt m _ _ _ hm
 refine (witnessFinds_walk (enc := enc) W v0 v1 v2 v3 v4 v5 v6 v7 (pin_of_laid hL) (okWide_struct Tryz.underlying24 (hval 0 24 v0 rfl rfl)) (okWide_slice Tryz.underlying25 (hval 1 25 v1 rfl rfl)) (okWide_int Tryz.underlying3 (hval 2 3 v2 rfl rfl)) (okWide_int Tryz.underlying3 (hval 3 3 v3 rfl rfl)) (okWide_slice Tryz.underlying26 (hval 4 26 v4 rfl rfl)) (okWide_int Tryz.underlying27 (hval 5 27 v5 rfl rfl)) (okWide_int Tryz.underlying3 (hval 6 3 v6 rfl rfl)) (okWide_int Tryz.underlying3 (hval 7 3 v7 rfl rfl)) (Rd.of h0 (wt 0 24 d0 rfl rfl)) (Rd.of h1 (wt 1 25 d1 rfl rfl)) (Rd.of h2 (wt 2 3 d2 rfl rfl)) (Rd.of h3 (wt 3 3 d3 rfl rfl)) (Rd.of h4 (wt 4 26 d4 rfl rfl)) (Rd.of h5 (wt 5 27 d5 rfl rfl)) (Rd.of h6 (wt 6 3 d6 rfl rfl)) (Rd.of h7 (wt 7 3 d7 rfl rfl))).mono fun e W' ⟨he, bel⟩ => ?_
 subst he
 exact ⟨_, rfl, _, _, _, [], _, [], hW', trodAll_mk1 (shut_bool Tryz.underlying4 _), (trodAll_cons_mk (Below.trod laidOut9 (by kernel_rfl) (of_decide_eq_true (by kernel_rfl)) h0 bel lt0) (trodAll_cons_mk (Below.trod laidOut9 (by kernel_rfl) (of_decide_eq_true (by kernel_rfl)) h1 bel lt1) (trodAll_cons_mk (Below.trod laidOut9 (by kernel_rfl) (of_decide_eq_true (by kernel_rfl)) h2 bel lt2) (trodAll_cons_mk (Below.trod laidOut9 (by kernel_rfl) (of_decide_eq_true (by kernel_rfl)) h3 bel lt3) (trodAll_cons_mk (Below.trod laidOut9 (by kernel_rfl) (of_decide_eq_true (by kernel_rfl)) h4 bel lt4) (trodAll_cons_mk (Below.trod laidOut9 (by kernel_rfl) (of_decide_eq_true (by kernel_rfl)) h5 bel lt5) (trodAll_cons_mk (Below.trod laidOut9 (by kernel_rfl) (of_decide_eq_true (by kernel_rfl)) h6 bel lt6) (trodAll_cons_mk (Below.trod laidOut9 (by kernel_rfl) (of_decide_eq_true (by kernel_rfl)) h7 bel lt7) trodAll_mk0)))))))), rfl, bel.frame _, fun h => by cases h⟩
theorem witnessFinds_holds : Rows.WitnessFindsSaid :=
 OpenClaim.holds_of_wide 3 Tryz.f3 rfl rfl rfl rfl rfl rfl rfl ⟨rfl, rfl, rfl, rfl, rfl⟩ rfl rfl rfl rfl rfl (by kernel_rfl) Tryz.func3 (by kernel_rfl)
  (of_decide_eq_true (by kernel_rfl)) (by unfold Func.isWrapper; first | (rw [if_pos (by decide +kernel)]; kernel_rfl) | (rw [if_neg (by decide +kernel)]; exact ⟨rfl, rfl⟩))
  (fun os started H enc _ => witnessFinds_lifted os started H enc)
theorem witnessFinds_card_holds : Rows.WitnessFindsCardSaid :=
 Claim7.holds_tied_plain_at .later [] [.handle] true (true, "6f2e3addb409469ccc1e1b1943001ec49f89ba8db8f38a2bdad0e7491ca09ffd") true
  witnessFinds_holds (fun _ h => by cases h) (by kernel_rfl) (fun _ h => by cases h) witnessFinds_row_tie rfl ⟨rfl, rfl⟩ (by kernel_rfl) rfl
  (fun f fn hf hfn => by
   obtain rfl : f = 3 := Option.some.inj ((show Tryz.prog.funcNamed "viaduct/viaductlaw12.WitnessFinds" = some 3 by kernel_rfl).symm.trans hf) |>.symm
   obtain rfl : fn = Tryz.f3 := (Option.some.inj (Tryz.func3.symm.trans hfn)).symm
   exact ⟨by kernel_rfl, fun j t ht => by
    rw [Tryz.params3] at ht
    rcases j with _ | _ | _ | _ | _ | _ | _ | _ | j
    ·obtain rfl : t = 24 := by simpa using ht.symm
     exact (show Tryz.prog.wantsStandIn 24 = false by kernel_rfl)
    ·obtain rfl : t = 25 := by simpa using ht.symm
     exact (show Tryz.prog.wantsStandIn 25 = false by kernel_rfl)
    ·obtain rfl : t = 3 := by simpa using ht.symm
     exact (show Tryz.prog.wantsStandIn 3 = false by kernel_rfl)
    ·obtain rfl : t = 3 := by simpa using ht.symm
     exact (show Tryz.prog.wantsStandIn 3 = false by kernel_rfl)
    ·obtain rfl : t = 26 := by simpa using ht.symm
     exact (show Tryz.prog.wantsStandIn 26 = false by kernel_rfl)
    ·obtain rfl : t = 27 := by simpa using ht.symm
     exact (show Tryz.prog.wantsStandIn 27 = false by kernel_rfl)
    ·obtain rfl : t = 3 := by simpa using ht.symm
     exact (show Tryz.prog.wantsStandIn 3 = false by kernel_rfl)
    ·obtain rfl : t = 3 := by simpa using ht.symm
     exact (show Tryz.prog.wantsStandIn 3 = false by kernel_rfl)
    ·simp at ht⟩)
  (by kernel_rfl)
#print axioms witnessFinds_card_holds
end Go.Proofs.YtnepbkkdhalbiaaGreatDoor
