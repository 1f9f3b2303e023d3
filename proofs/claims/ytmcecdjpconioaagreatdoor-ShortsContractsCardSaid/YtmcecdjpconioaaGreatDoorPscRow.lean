/-
 Whatever is handed in, ShortsContracts returns true, and what was handed in reads as it did; the conditions are the row's own, no other.
-/
import Derived.Test.YtmcecdjpconioaaGreatDoorPsc5
import Derived.Test.YtmcecdjpconioaaGreatDoorRows
import Derived.Test.YtmcecdjpconioaaGreatDoorPscVeE
import Derived.WalkKit
import Derived.ProofKit
import Derived.OpenShut
import Derived.ChangeOld
import Derived.Below
import Derived.Test.YtmcecdjpconioaaGreatDoorTie
import Derived.Test.YtmcecdjpconioaaGreatDoorCards
import Derived.JoinedOf
import Derived.LaidHandle
import Derived.SevenTiedAt
set_option linter.unusedVariables false
set_option linter.unusedSimpArgs false
set_option linter.unusedSectionVars false
/-! (RowShortsContracts) -/

namespace Go.Proofs.YtmcecdjpconioaaGreatDoor
open Go.ChangeShapes Go.WideShapes Go.ChangeAt Go.RowKit Go.Vd
set_option linter.unusedVariables false
set_option linter.unusedSimpArgs false
theorem own9 : ownKnob Tryz.prog.godebug = none := by kernel_rfl
theorem laidOut9 : laidOutB Tryz.prog = true := by kernel_rfl
theorem et9 : Tryz.prog.globalNamed "errors.errorType" = some 0 := by kernel_rfl
theorem rt9 : (Tryz.prog.cutTypes.find? (·.1 == "internal/reflectlite.rtype")).map (·.2) = some 155 := by kernel_rfl
theorem oneRow9 : ((List.range 263).filter fun t => Tryz.prog.rowNamed t [101, 114, 114, 111, 114]) = [39] := by kernel_rfl
theorem size9 : Tryz.prog.types.size = 263 := by kernel_rfl
theorem handle_of_laid {W : World} (h : laidMetH Tryz.prog Rows.shortsContractsRow.laid W) : W.cell? ⟨0, 0, none⟩ = some (.iface 155 (.agg #[.pointer (some ⟨1, 39, none⟩)])) := by
 have h' : laidMet Tryz.prog [] W /\ handlesMet Tryz.prog Rows.shortsContractsRow.laid W := h
 obtain ⟨name, u, ty, e1, e2, e3, e4, e5⟩ := h'.2 _ (List.mem_singleton.2 rfl)
 have en : name = [101, 114, 114, 111, 114] := (Option.some.inj e1).symm
 subst en
 obtain rfl := Option.some.inj (rt9.symm.trans e2)
 have hm : ty ∈ (List.range 263).filter fun t => Tryz.prog.rowNamed t [101, 114, 114, 111, 114] := List.mem_filter.2 ⟨List.mem_range.2 (by rw [← size9]; exact e3), e4⟩
 rw [oneRow9] at hm
 obtain rfl := List.mem_singleton.1 hm
 have hh : typeHandle Tryz.prog 39 = .pointer (some ⟨1, 39, none⟩) := by kernel_rfl
 rw [hh] at e5
 simpa using World.var?_cell et9 e5 0
theorem pin_of_laid {W : World} (h : laidMetH Tryz.prog Rows.shortsContractsRow.laid W) : ∀ v, Zf5 = some v -> ∃ c ty fr, W.heap[0]? = some (.cells c ty fr) /\ c[0]? = some v := by
 intro v hv
 obtain rfl := Option.some.inj hv
 exact (Zfo (handle_of_laid h)).2
noncomputable def laidWorld (os : Os) : World :=
 let w0 := World.holding Tryz.prog os ⟨#[], #[], []⟩
 { w0 with heap := w0.heap.modify 0 fun
   | .cells _ t frozen => .cells #[.iface 155 (.agg #[.pointer (some ⟨1, 39, none⟩)])] t frozen
   | o => o }
theorem laidWorld_met (os : Os) (args : Array Value) : laidMetH Tryz.prog Rows.shortsContractsRow.laid ((laidWorld os).forCall (fun _ _ => 0) ⟨#[], args, []⟩).memory :=
 laidMetH_of_parts (laidMet_nil _ _) (by kernel_rfl)
theorem i64_rng {x : Int} (h : (Lit.int .i64 x).wf = true) : -9223372036854775808 ≤ x /\ x ≤ 9223372036854775807 := by
 simp only [Lit.wf, IntKind.min, IntKind.max, IntKind.signed, IntKind.bits, Bool.and_eq_true, decide_eq_true_eq, if_true, Bool.false_eq_true, if_false] at h
 omega
theorem u64_rng {x : Int} (h : (Lit.int .u64 x).wf = true) : 0 ≤ x /\ x ≤ 18446744073709551615 := by
 simp only [Lit.wf, IntKind.min, IntKind.max, IntKind.signed, IntKind.bits, Bool.and_eq_true, decide_eq_true_eq, if_true, Bool.false_eq_true, if_false] at h
 omega
theorem int_rd {Hd : Type} {enc : TypeId × Value -> Hd} {W : World} (cs : List Value) (h : Rd enc Tryz.prog W 3 cs) : ∃ x : Int, cs = Go.Vd.Zai .i64 x /\ (Lit.int .i64 x).wf = true := by
 obtain ⟨n, h1, h2⟩ := h.int Tryz.underlying3
 exact ⟨n, h1, h2⟩
theorem parts3a {α : Type} {l : List α} {a0 a1 a2 : α} (h : l.length = 3) (h0 : (l.drop 0).take 1 = [a0]) (h1 : (l.drop 1).take 1 = [a1]) (h2 : (l.drop 2).take 1 = [a2]) : l = [a0, a1, a2] := by
 match l, h with
 | [x0, x1, x2], _ => simp at h0 h1 h2; simp [h0, h1, h2]
theorem arc_rd {Hd : Type} {enc : TypeId × Value -> Hd} {W : World} (cs : List Value) (h : Rd enc Tryz.prog W 106 cs) : ∃ x : Int × Int × Int, cs = Go.Vd.Zr x /\ True := by
 obtain ⟨hl, hf⟩ := h.struct Tryz.underlying106
 have hc : Tryz.prog.cellsOf 106 = 3 := by kernel_rfl
 rw [hc] at hl
 have g0 : Rd enc Tryz.prog W 3 ((cs.drop 0).take (Tryz.prog.cellsOf 3)) := hf 0 _ rfl
 have g1 : Rd enc Tryz.prog W 3 ((cs.drop 1).take (Tryz.prog.cellsOf 3)) := hf 1 _ rfl
 have g2 : Rd enc Tryz.prog W 3 ((cs.drop 2).take (Tryz.prog.cellsOf 3)) := hf 2 _ rfl
 rw [show Tryz.prog.cellsOf 3 = 1 from by kernel_rfl] at g0 g1 g2
 obtain ⟨x0, e0, _⟩ := int_rd _ g0
 obtain ⟨x1, e1, _⟩ := int_rd _ g1
 obtain ⟨x2, e2, _⟩ := int_rd _ g2
 exact ⟨(x0, x1, x2), parts3a hl e0 e1 e2, trivial⟩
theorem u8_rng {x : Int} (h : (Lit.int .u8 x).wf = true) : 0 ≤ x /\ x ≤ 255 := by
 simp only [Lit.wf, IntKind.min, IntKind.max, IntKind.signed, IntKind.bits, Bool.and_eq_true, decide_eq_true_eq, if_true, Bool.false_eq_true, if_false] at h
 omega
theorem k3_rd {Hd : Type} {enc : TypeId × Value -> Hd} {W : World} (cs : List Value) (h : Rd enc Tryz.prog W 3 cs) : ∃ x : Int, cs = Go.Vd.Zai .i64 x /\ (-9223372036854775808 ≤ x /\ x ≤ 9223372036854775807) := by
 obtain ⟨n, h1, h2⟩ := h.int Tryz.underlying3
 exact ⟨n, h1, i64_rng h2⟩
theorem k61_rd {Hd : Type} {enc : TypeId × Value -> Hd} {W : World} (cs : List Value) (h : Rd enc Tryz.prog W 61 cs) : ∃ x : Int, cs = Go.Vd.Zai .u64 x /\ (0 ≤ x /\ x ≤ 18446744073709551615) := by
 obtain ⟨n, h1, h2⟩ := h.int Tryz.underlying61
 exact ⟨n, h1, u64_rng h2⟩
theorem k5_rd {Hd : Type} {enc : TypeId × Value -> Hd} {W : World} (cs : List Value) (h : Rd enc Tryz.prog W 5 cs) : ∃ x : Int, cs = Go.Vd.Zai .u8 x /\ (0 ≤ x /\ x ≤ 255) := by
 obtain ⟨n, h1, h2⟩ := h.int Tryz.underlying5
 exact ⟨n, h1, u8_rng h2⟩
theorem parts5g {α : Type} {l : List α} {a0 a1 a2 a3 a4 : α} (h : l.length = 5) (h0 : (l.drop 0).take 1 = [a0]) (h1 : (l.drop 1).take 1 = [a1]) (h2 : (l.drop 2).take 1 = [a2]) (h3 : (l.drop 3).take 1 = [a3]) (h4 : (l.drop 4).take 1 = [a4]) : l = [a0, a1, a2, a3, a4] := by
 match l, h with
 | [x0, x1, x2, x3, x4], _ => simp at h0 h1 h2 h3 h4; simp [h0, h1, h2, h3, h4]
theorem g68_rd {Hd : Type} {enc : TypeId × Value -> Hd} {W : World} (cs : List Value) (h : Rd enc Tryz.prog W 68 cs) : ∃ x : Int × Int × Int × Int × Int, cs = Go.Vd.Zbf x /\ ((0 ≤ x.1 /\ x.1 ≤ 255) /\ (-9223372036854775808 ≤ x.2.1 /\ x.2.1 ≤ 9223372036854775807) /\ (-9223372036854775808 ≤ x.2.2.1 /\ x.2.2.1 ≤ 9223372036854775807) /\ (0 ≤ x.2.2.2.1 /\ x.2.2.2.1 ≤ 18446744073709551615) /\ (-9223372036854775808 ≤ x.2.2.2.2 /\ x.2.2.2.2 ≤ 9223372036854775807)) := by
 obtain ⟨hl, hf⟩ := h.struct Tryz.underlying68
 have hc : Tryz.prog.cellsOf 68 = 5 := by kernel_rfl
 rw [hc] at hl
 have g0 : Rd enc Tryz.prog W 5 ((cs.drop 0).take (Tryz.prog.cellsOf 5)) := hf 0 _ rfl
 rw [show Tryz.prog.cellsOf 5 = 1 from by kernel_rfl] at g0
 obtain ⟨x0, e0, q0⟩ := k5_rd _ g0
 have g1 : Rd enc Tryz.prog W 3 ((cs.drop 1).take (Tryz.prog.cellsOf 3)) := hf 1 _ rfl
 rw [show Tryz.prog.cellsOf 3 = 1 from by kernel_rfl] at g1
 obtain ⟨x1, e1, q1⟩ := k3_rd _ g1
 have g2 : Rd enc Tryz.prog W 3 ((cs.drop 2).take (Tryz.prog.cellsOf 3)) := hf 2 _ rfl
 rw [show Tryz.prog.cellsOf 3 = 1 from by kernel_rfl] at g2
 obtain ⟨x2, e2, q2⟩ := k3_rd _ g2
 have g3 : Rd enc Tryz.prog W 61 ((cs.drop 3).take (Tryz.prog.cellsOf 61)) := hf 3 _ rfl
 rw [show Tryz.prog.cellsOf 61 = 1 from by kernel_rfl] at g3
 obtain ⟨x3, e3, q3⟩ := k61_rd _ g3
 have g4 : Rd enc Tryz.prog W 3 ((cs.drop 4).take (Tryz.prog.cellsOf 3)) := hf 4 _ rfl
 rw [show Tryz.prog.cellsOf 3 = 1 from by kernel_rfl] at g4
 obtain ⟨x4, e4, q4⟩ := k3_rd _ g4
 exact ⟨(x0, x1, x2, x3, x4), parts5g hl e0 e1 e2 e3 e4, q0, q1, q2, q3, q4⟩
theorem parts2 {α : Type} {l : List α} {a0 a1 : α} (h : l.length = 2) (h0 : (l.drop 0).take 1 = [a0]) (h1 : (l.drop 1).take 1 = [a1]) : l = [a0, a1] := by
 match l, h with
 | [x0, x1], _ => simp at h0 h1; simp [h0, h1]
theorem parts5 {α : Type} {l : List α} {a0 a1 a2 a3 a4 : α} (h : l.length = 5) (h0 : (l.drop 0).take 1 = [a0]) (h1 : (l.drop 1).take 1 = [a1]) (h2 : (l.drop 2).take 1 = [a2]) (h3 : (l.drop 3).take 1 = [a3]) (h4 : (l.drop 4).take 1 = [a4]) : l = [a0, a1, a2, a3, a4] := by
 match l, h with
 | [x0, x1, x2, x3, x4], _ => simp at h0 h1 h2 h3 h4; simp [h0, h1, h2, h3, h4]
theorem shortsContracts_walk {Hd : Type} {enc : TypeId × Value -> Hd} (W : World) (v0 v1 v2 v3 : Value) (hpin : ∀ v, Zf5 = some v -> ∃ c ty fr, W.heap[0]? = some (.cells c ty fr) /\ c[0]? = some v) (k0 : ∃ cs, v0 = .agg cs /\ cs.size = Tryz.prog.cellsOf 24) (k1 : ∃ a l c, v1 = .slice a l c) (k2 : ∃ a l c, v2 = .slice a l c) (k3 : ∃ cs, v3 = .agg cs /\ cs.size = Tryz.prog.cellsOf 28)
  (r0 : Rd enc Tryz.prog W 24 v0.cells.toList) (r1 : Rd enc Tryz.prog W 25 v1.cells.toList) (r2 : Rd enc Tryz.prog W 26 v2.cells.toList) (r3 : Rd enc Tryz.prog W 28 v3.cells.toList) :
  Calls Tryz.prog 3 #[v0, v1, v2, v3] W fun e w' => e = .returned (.bool true) /\ Below W.heap.size W w' := by
 have hb3 : Tryz.prog.bytesOf 3 = 8 := by kernel_rfl
 have hr : reachBytes = 140737488351232 := by decide
 have hbA : Tryz.prog.bytesOf 106 = 24 := by kernel_rfl
 have hbG68 : Tryz.prog.bytesOf 68 = 40 := by kernel_rfl
 obtain ⟨cs0, rfl, hcs0⟩ := k0
 obtain ⟨hl0, hf0⟩ := r0.struct Tryz.underlying24
 have hc0 : Tryz.prog.cellsOf 24 = 2 := by kernel_rfl
 have g0_0 : Rd enc Tryz.prog W 3 (((Value.agg cs0).cells.toList.drop 0).take (Tryz.prog.cellsOf 3)) := hf0 0 _ rfl
 rw [show Tryz.prog.cellsOf 3 = 1 from by kernel_rfl] at g0_0
 obtain ⟨X0_0, e0_0, q0_0⟩ := int_rd _ g0_0
 have w0_0 := i64_rng q0_0
 have g0_1 : Rd enc Tryz.prog W 22 (((Value.agg cs0).cells.toList.drop 1).take (Tryz.prog.cellsOf 22)) := hf0 1 _ rfl
 rw [show Tryz.prog.cellsOf 22 = 1 from by kernel_rfl] at g0_1
 obtain ⟨d0_1, X0_1, e0_1, s0_1⟩ := g0_1.slice (en := Go.Vd.Zr) (sz := 3) Tryz.underlying22 (by kernel_rfl) (fun _ => rfl) arc_rd
 rw [hc0] at hl0
 have hcs0' := parts2 (l := (Value.agg cs0).cells.toList) hl0 e0_0 e0_1
 obtain rfl : cs0 = #[.int .i64 X0_0, d0_1] := by
  have q : (Value.agg cs0).cells = cs0 := rfl
  rw [q] at hcs0'
  cases cs0; simp_all
 obtain ⟨d1, X1, e1, s1⟩ := r1.slice (en := Go.Vd.Zbf) (sz := 5) Tryz.underlying25 (by kernel_rfl) (fun _ => rfl) g68_rd
 have al1 : ∀ x ∈ X1, (0 ≤ x.1 /\ x.1 ≤ 255) /\ (-9223372036854775808 ≤ x.2.1 /\ x.2.1 ≤ 9223372036854775807) /\ (-9223372036854775808 ≤ x.2.2.1 /\ x.2.2.1 ≤ 9223372036854775807) /\ (0 ≤ x.2.2.2.1 /\ x.2.2.2.1 ≤ 18446744073709551615) /\ (-9223372036854775808 ≤ x.2.2.2.2 /\ x.2.2.2.2 ≤ 9223372036854775807) := s1.all
 obtain ⟨aa1, ll1, cc1, rfl⟩ := k1
 obtain rfl : d1 = .slice aa1 ll1 cc1 := by
  have q : (Value.slice aa1 ll1 cc1).cells.toList = [.slice aa1 ll1 cc1] := rfl
  rw [q] at e1; cases e1; rfl
 obtain ⟨d2, X2, e2, s2⟩ := r2.slice (en := Go.Vd.Zai .i64) (sz := 1) Tryz.underlying26 (by kernel_rfl) (fun _ => rfl) int_rd
 obtain ⟨aa2, ll2, cc2, rfl⟩ := k2
 obtain rfl : d2 = .slice aa2 ll2 cc2 := by
  have q : (Value.slice aa2 ll2 cc2).cells.toList = [.slice aa2 ll2 cc2] := rfl
  rw [q] at e2; cases e2; rfl
 obtain ⟨cs3, rfl, hcs3⟩ := k3
 obtain ⟨hl3, hf3⟩ := r3.struct Tryz.underlying28
 have hc3 : Tryz.prog.cellsOf 28 = 5 := by kernel_rfl
 have g3_0 : Rd enc Tryz.prog W 3 (((Value.agg cs3).cells.toList.drop 0).take (Tryz.prog.cellsOf 3)) := hf3 0 _ rfl
 rw [show Tryz.prog.cellsOf 3 = 1 from by kernel_rfl] at g3_0
 obtain ⟨X3_0, e3_0, q3_0⟩ := int_rd _ g3_0
 have w3_0 := i64_rng q3_0
 have g3_1 : Rd enc Tryz.prog W 3 (((Value.agg cs3).cells.toList.drop 1).take (Tryz.prog.cellsOf 3)) := hf3 1 _ rfl
 rw [show Tryz.prog.cellsOf 3 = 1 from by kernel_rfl] at g3_1
 obtain ⟨X3_1, e3_1, q3_1⟩ := int_rd _ g3_1
 have w3_1 := i64_rng q3_1
 have g3_2 : Rd enc Tryz.prog W 3 (((Value.agg cs3).cells.toList.drop 2).take (Tryz.prog.cellsOf 3)) := hf3 2 _ rfl
 rw [show Tryz.prog.cellsOf 3 = 1 from by kernel_rfl] at g3_2
 obtain ⟨X3_2, e3_2, q3_2⟩ := int_rd _ g3_2
 have w3_2 := i64_rng q3_2
 have g3_3 : Rd enc Tryz.prog W 3 (((Value.agg cs3).cells.toList.drop 3).take (Tryz.prog.cellsOf 3)) := hf3 3 _ rfl
 rw [show Tryz.prog.cellsOf 3 = 1 from by kernel_rfl] at g3_3
 obtain ⟨X3_3, e3_3, q3_3⟩ := int_rd _ g3_3
 have w3_3 := i64_rng q3_3
 have g3_4 : Rd enc Tryz.prog W 3 (((Value.agg cs3).cells.toList.drop 4).take (Tryz.prog.cellsOf 3)) := hf3 4 _ rfl
 rw [show Tryz.prog.cellsOf 3 = 1 from by kernel_rfl] at g3_4
 obtain ⟨X3_4, e3_4, q3_4⟩ := int_rd _ g3_4
 have w3_4 := i64_rng q3_4
 rw [hc3] at hl3
 have hcs3' := parts5 (l := (Value.agg cs3).cells.toList) hl3 e3_0 e3_1 e3_2 e3_3 e3_4
 obtain rfl : cs3 = #[.int .i64 X3_0, .int .i64 X3_1, .int .i64 X3_2, .int .i64 X3_3, .int .i64 X3_4] := by
  have q : (Value.agg cs3).cells = cs3 := rfl
  rw [q] at hcs3'
  cases cs3; simp_all
 obtain ⟨μ0_1, H0_1, b0_1, f0_1, E0_1, x0_1, l0_1, va0_1, qa0_1⟩ := s0_1.ent (Ent.nil W hpin) (by decide) (fun _ => rfl) (fun _ => rfl) (fun x u hu => by simp only [Go.Vd.Zr, List.mem_cons, List.not_mem_nil, or_false] at hu; rcases hu with rfl | rfl | rfl <;> rfl)
 have n0_1x := s0_1.len
 rw [hbA, hr] at n0_1x
 obtain ⟨μ1, H1, b1, f1, E1, x1, l1, va1, qa1⟩ := s1.ent E0_1 (by decide) (fun _ => rfl) (fun _ => rfl) (fun x u hu => by simp only [Go.Vd.Zbf, List.mem_cons, List.not_mem_nil, or_false] at hu; rcases hu with rfl | rfl | rfl | rfl | rfl <;> rfl)
 have n1x := s1.len
 rw [hbG68, hr] at n1x
 obtain ⟨μ2, H2, b2, f2, E2, x2, l2, va2, qa2⟩ := s2.ent E1 (by decide) (fun _ => rfl) (fun _ => rfl) (fun x u hu => by simp [Go.Vd.Zai] at hu; subst hu; rfl)
 have n2x := s2.len
 rw [hb3, hr] at n2x
 have hp : Zak X0_0 X0_1 X1 X2 X3_0 X3_1 X3_2 X3_3 X3_4 = some true := by
  apply Zg8 <;> first | omega | assumption
 have hw := Zeh E2.wf ((qa0_1.ext x1).ext x2) (qa1.ext x2) qa2 hp
 have ag0 : ARel μ2 #[.int .i64 X0_0, b0_1] #[.int .i64 X0_0, d0_1] := ARel.toList.2 (.cons (.int _ _) (.cons (va0_1.mono (l1.trans l2)) .nil))
 have ag3 : ARel μ2 #[.int .i64 X3_0, .int .i64 X3_1, .int .i64 X3_2, .int .i64 X3_3, .int .i64 X3_4] #[.int .i64 X3_0, .int .i64 X3_1, .int .i64 X3_2, .int .i64 X3_3, .int .i64 X3_4] := ARel.toList.2 (.cons (.int _ _) (.cons (.int _ _) (.cons (.int _ _) (.cons (.int _ _) (.cons (.int _ _) .nil)))))
 have harg : ARel μ2 #[.agg #[.int .i64 X0_0, b0_1], b1, b2, .agg #[.int .i64 X3_0, .int .i64 X3_1, .int .i64 X3_2, .int .i64 X3_3, .int .i64 X3_4]] #[.agg #[.int .i64 X0_0, d0_1], .slice aa1 ll1 cc1, .slice aa2 ll2 cc2, .agg #[.int .i64 X3_0, .int .i64 X3_1, .int .i64 X3_2, .int .i64 X3_3, .int .i64 X3_4]] := ARel.toList.2 (.cons (.agg _ _ ag0.1 ag0.2) (.cons (va1.mono l2) (.cons va2 (.cons (.agg _ _ ag3.1 ag3.2) .nil))))
 exact Zh2 (hw.mono fun v H' h => h.1) rfl E2.rel harg E2.ro
set_option maxRecDepth 100000 in
theorem shortsContracts_lifted (os : Os) (started : os.Started) (H : Type) (enc : TypeId × Value -> H) :
  ReturnsInHanded {} Tryz.checked os 3 .any (fun w args => (Rows.shortsContractsSpec.pre enc Tryz.prog Tryz.f3 Rows.shortsContractsRow.domain false w args /\ laidMetH Tryz.prog Rows.shortsContractsRow.laid w) /\ sizedMet enc Tryz.prog Tryz.f3 (OpenSpec.ofChange Rows.shortsContractsSpec) false w args) (Rows.shortsContractsSpec.post enc Tryz.prog Tryz.f3 false true false false) := by
 refine returnsInHanded_of_change_and (C := Tryz.checked) (X := fun w _ => laidMetH Tryz.prog Rows.shortsContractsRow.laid w) (fun _ _ _ hh h => h.of_heap hh) own9 started (by kernel_rfl) Tryz.func3
  (ChangeSpec.witness_at (enc := enc) (C := Tryz.checked) (os := os) (X := fun w _ => laidMetH Tryz.prog Rows.shortsContractsRow.laid w) false (laidWorld os) #[.agg #[.int .i64 0, .slice none 0 0], .slice none 0 0, .slice none 0 0, .agg #[.int .i64 0, .int .i64 0, .int .i64 0, .int .i64 0, .int .i64 0]] 8 rfl (by kernel_rfl) (by kernel_rfl) (by kernel_rfl) (by kernel_rfl) (by kernel_rfl) (laidWorld_met os _)) ?_
 intro W base args ds gs before hval0 hW hcnd hsz hL _
 have hval : ∀ (j : Nat) t v, Tryz.f3.params[j]? = some t -> args[j]? = some v -> Value.okWide Tryz.prog W .any base t v := hval0
 have hW' := hW
 obtain ⟨p, q, hA0, hV, rfl, hfz, hnd⟩ := hW
 have hA : DataW.TrodAll enc Tryz.prog W 0 (fun _ => true) true Tryz.f3.params.toList args.toList ds p := hA0
 have hsz' : (DataW.weightsEach Tryz.prog (Tryz.f3.params.toList ++ Rows.shortsContractsSpec.plain.varTypes Tryz.prog) (ds ++ gs)).all (· ≤ reachBytes) = true := hsz
 rw [Tryz.params3] at hA hval hsz'
 obtain ⟨v0, vs0, d0, ds0, p0, q0, hargs, rfl, rfl, h0, r0⟩ := trodAll_cons hA
 obtain ⟨v1, vs1, d1, ds1, p1, q1, rfl, rfl, rfl, h1, r1⟩ := trodAll_cons r0
 obtain ⟨v2, vs2, d2, ds2, p2, q2, rfl, rfl, rfl, h2, r2⟩ := trodAll_cons r1
 obtain ⟨v3, vs3, d3, ds3, p3, q3, rfl, rfl, rfl, h3, r3⟩ := trodAll_cons r2
 obtain ⟨rfl, rfl, rfl⟩ := trodAll_nil r3
 obtain rfl : args = #[v0, v1, v2, v3] := by cases args; simp_all
 obtain ⟨rfl, rfl⟩ := trodVars_none hV
 have wt : ∀ (j : Nat) t d, (#[24, 25, 26, 28] : Array TypeId).toList[j]? = some t -> [d0, d1, d2, d3][j]? = some d -> ∀ n ∈ d.weights Tryz.prog t, n ≤ reachBytes := fun j t d ht hd n hn => by
  have hlt := (List.getElem?_eq_some_iff.1 ht).1
  have hltd := (List.getElem?_eq_some_iff.1 hd).1
  have := List.all_eq_true.1 hsz' n (DataW.weights_mem_each (j := j) (t := t) (d := d) (by rw [List.getElem?_append_left hlt]; exact ht) (by rw [List.getElem?_append_left hltd]; exact hd) n hn)
  simpa using this
 have lt0 : ∀ x ∈ p0, x.block < W.heap.size := by obtain ⟨m, hm⟩ := h0; exact DataW.trod_lt m _ _ _ hm
 have lt1 : ∀ x ∈ p1, x.block < W.heap.size := by obtain ⟨m, hm⟩ := h1; exact DataW.trod_lt m _ _ _ hm
 have lt2 : ∀ x ∈ p2, x.block < W.heap.size := by obtain ⟨m, hm⟩ := h2; exact DataW.trod_lt m _ _ _ hm
 have lt3 : ∀ x ∈ p3, x.block < W.heap.size := by obtain ⟨m, hm⟩ := h3; exact DataW.trod_lt m _ _ _ hm
 refine (shortsContracts_walk (enc := enc) W v0 v1 v2 v3 (pin_of_laid hL) (okWide_struct Tryz.underlying24 (hval 0 24 v0 rfl rfl)) (okWide_slice Tryz.underlying25 (hval 1 25 v1 rfl rfl)) (okWide_slice Tryz.underlying26 (hval 2 26 v2 rfl rfl)) (okWide_struct Tryz.underlying28 (hval 3 28 v3 rfl rfl)) (Rd.of h0 (wt 0 24 d0 rfl rfl)) (Rd.of h1 (wt 1 25 d1 rfl rfl)) (Rd.of h2 (wt 2 26 d2 rfl rfl)) (Rd.of h3 (wt 3 28 d3 rfl rfl))).mono fun e W' ⟨he, bel⟩ => ?_
 subst he
 exact ⟨_, rfl, _, _, _, [], _, [], hW', trodAll_mk1 (shut_bool Tryz.underlying4 _), (trodAll_cons_mk (Below.trod laidOut9 (by kernel_rfl) (of_decide_eq_true (by kernel_rfl)) h0 bel lt0) (trodAll_cons_mk (Below.trod laidOut9 (by kernel_rfl) (of_decide_eq_true (by kernel_rfl)) h1 bel lt1) (trodAll_cons_mk (Below.trod laidOut9 (by kernel_rfl) (of_decide_eq_true (by kernel_rfl)) h2 bel lt2) (trodAll_cons_mk (Below.trod laidOut9 (by kernel_rfl) (of_decide_eq_true (by kernel_rfl)) h3 bel lt3) trodAll_mk0)))), rfl, bel.frame _, fun h => by cases h⟩
theorem shortsContracts_holds : Rows.ShortsContractsSaid :=
 OpenClaim.holds_of_wide 3 Tryz.f3 rfl rfl rfl rfl rfl rfl rfl ⟨rfl, rfl, rfl, rfl, rfl⟩ rfl rfl rfl rfl rfl (by kernel_rfl) Tryz.func3 (by kernel_rfl)
  (of_decide_eq_true (by kernel_rfl)) (by unfold Func.isWrapper; first | (rw [if_pos (by decide +kernel)]; kernel_rfl) | (rw [if_neg (by decide +kernel)]; exact ⟨rfl, rfl⟩))
  (fun os started H enc _ => shortsContracts_lifted os started H enc)
theorem shortsContracts_card_holds : Rows.ShortsContractsCardSaid :=
 Claim7.holds_tied_plain_at .later [] [.handle] true (true, "bd002825b8bc38077ad8a9f31b45a3b91b1ba8cab7896c99b806b11ae4f9228d") true
  shortsContracts_holds (fun _ h => by cases h) (by kernel_rfl) (fun _ h => by cases h) shortsContracts_row_tie rfl ⟨rfl, rfl⟩ (by kernel_rfl) rfl
  (fun f fn hf hfn => by
   obtain rfl : f = 3 := Option.some.inj ((show Tryz.prog.funcNamed "viaduct/viaductlaw13.ShortsContracts" = some 3 by kernel_rfl).symm.trans hf) |>.symm
   obtain rfl : fn = Tryz.f3 := (Option.some.inj (Tryz.func3.symm.trans hfn)).symm
   exact ⟨by kernel_rfl, fun j t ht => by
    rw [Tryz.params3] at ht
    rcases j with _ | _ | _ | _ | j
    ·obtain rfl : t = 24 := by simpa using ht.symm
     exact (show Tryz.prog.wantsStandIn 24 = false by kernel_rfl)
    ·obtain rfl : t = 25 := by simpa using ht.symm
     exact (show Tryz.prog.wantsStandIn 25 = false by kernel_rfl)
    ·obtain rfl : t = 26 := by simpa using ht.symm
     exact (show Tryz.prog.wantsStandIn 26 = false by kernel_rfl)
    ·obtain rfl : t = 28 := by simpa using ht.symm
     exact (show Tryz.prog.wantsStandIn 28 = false by kernel_rfl)
    ·simp at ht⟩)
  (by kernel_rfl)
#print axioms shortsContracts_card_holds
end Go.Proofs.YtmcecdjpconioaaGreatDoor
