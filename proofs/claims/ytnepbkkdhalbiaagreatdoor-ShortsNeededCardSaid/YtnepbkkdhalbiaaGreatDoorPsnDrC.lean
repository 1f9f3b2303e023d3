/-
 errors.Is at a number: by its contract, at an error of whatever depth.
-/
import Derived.Test.YtnepbkkdhalbiaaGreatDoorPsnDrB
set_option linter.unusedVariables false
set_option linter.unusedSimpArgs false
namespace Go.Proofs.YtnepbkkdhalbiaaGreatDoor
open Go.RowKit Go.Extern.Stop Go.Stop Go.Extern
theorem ZhJ (w : World) (d : Nat) {ti tn : TypeId} {ms : Array (String × TypeId)} {i : TypeInfo} {k : IntKind} (a b : Int)
  (hi : Tryz.prog.underlying ti = some (.interface ms)) (hn : Tryz.prog.underlying tn = some (.int k)) (hinfo : Tryz.prog.info? tn = some i) (hcomp : i.comparable = true) :
  (Op.equalIn (d + 2) ti (.iface tn (.int k a)) (.iface tn (.int k b))).run Tryz.prog w = .ok (a == b) w := by
 simp [Op.equalIn, run_underlying hi, run_underlying hn, typeInfo, hinfo, hcomp]
theorem Zj0 (w : World) {ti tn : TypeId} {ms : Array (String × TypeId)} {i : TypeInfo} {k : IntKind} (a b : Int)
  (hi : Tryz.prog.underlying ti = some (.interface ms)) (hn : Tryz.prog.underlying tn = some (.int k)) (hinfo : Tryz.prog.info? tn = some i) (hcomp : i.comparable = true) :
  (binOp .eql ti (.iface tn (.int k a)) (.iface tn (.int k b))).run Tryz.prog w = .ok (.bool (a == b)) w := by
 simp only [binOp]
 simp [Op.equal, Op.maxDepth, ZhJ w 9998 a b hi hn hinfo hcomp]
theorem ZnT : (Tryz.prog.info? 78).map (·.comparable) = some true := by kernel_rfl
set_option maxHeartbeats 8000000 in
set_option maxRecDepth 1000000 in
theorem Znm {W : World} (m : Int) (E : Value) (l : Nat) (c : Option Int) (hch : MC W E l c) (hne : E ≠ .nilIface) :
  Calls Tryz.prog 74 #[E, .iface 78 (.int .i64 m), .bool true] W fun e w' => e = .returned (.bool (decide (c = some m))) ∧ w' = W := by
 obtain ⟨i, hi, hcmp⟩ := Option.map_eq_some_iff.1 ZnT
 have nF := Znz
 have nN := Zn6
 have uF := Zll
 have uN := Zi7
 have vN := Zh2
 have mU := ZmG
 go_enter Tryz.func74, Tryz.ntmps74
 go_wp2
 go_loopw [0] (fun E' wl => wl = W ∧ E' ≠ .nilIface ∧ ∃ l', MC W E' l' c) (fun E' _ => Zgx W E')
 case atStart => exact ⟨rfl, hne, l, hch⟩
 case round =>
  obtain ⟨rfl, hne', l', hc'⟩ := hrel
  cases hc' with
  | nil => exact absurd rfl hne'
  | no n =>
   have heq := Zj0 wr (ti := 38) n m Tryz.underlying38 Tryz.underlying78 hi hcmp
   by_cases hnm : n = m
   ·subst hnm
    simp at heq
    go_wp2
    go_ret
    exact ⟨by simp, rfl⟩
   ·have hb : (n == m) = false := by simpa using hnm
    rw [hb] at heq
    go_wp2
    go_ret
    exact ⟨by simp [hnm], rfl⟩
  | «at» pb po E1 l1 _ hcell h1 =>
   have hty := run_eql_iface_types (P := Tryz.prog) 116 78 (.pointer (some ⟨pb, po, none⟩)) (.int .i64 m) Tryz.underlying38 (by decide) wr
   have hlen := Zg3 h1
   have hlen0 := Zg3 (MC.at pb po E1 l1 c hcell h1)
   cases h1 with
   | nil =>
    go_wp2
    go_ret
    exact ⟨by simp, rfl⟩
   | no n =>
    go_wp2
    go_roundw
    case rel => exact ⟨trivial, by simp, _, .no n⟩
    case measure =>
     show Zgx wr (.iface 78 (.int .i64 n)) < _
     rw [hlen, hlen0]; simp
   | «at» pb2 po2 E2 l2 _ hcell2 h2 =>
    have HC : Hid (MC wr (.iface 116 (.pointer (some ⟨pb2, po2, none⟩))) (l2 + 1) c) := MC.at pb2 po2 E2 l2 c hcell2 h2
    clear h2
    go_wp2
    go_roundw
    case rel => exact ⟨trivial, by simp, _, HC.out⟩
    case measure =>
     show Zgx wr (.iface 116 (.pointer (some ⟨pb2, po2, none⟩))) < _
     rw [hlen, hlen0]; simp
end Go.Proofs.YtnepbkkdhalbiaaGreatDoor
