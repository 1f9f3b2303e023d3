/-
 errors.Is at a number: by its contract, at an error of whatever depth.
-/
import Derived.Test.YtmcecdjpconioaaGreatDoorPscDrB
set_option linter.unusedVariables false
set_option linter.unusedSimpArgs false
namespace Go.Proofs.YtmcecdjpconioaaGreatDoor
open Go.RowKit Go.Extern.Stop Go.Stop Go.Extern
theorem Zhz (w : World) (d : Nat) {ti tn : TypeId} {ms : Array (String × TypeId)} {i : TypeInfo} {k : IntKind} (a b : Int)
  (hi : Tryz.prog.underlying ti = some (.interface ms)) (hn : Tryz.prog.underlying tn = some (.int k)) (hinfo : Tryz.prog.info? tn = some i) (hcomp : i.comparable = true) :
  (Op.equalIn (d + 2) ti (.iface tn (.int k a)) (.iface tn (.int k b))).run Tryz.prog w = .ok (a == b) w := by
 simp [Op.equalIn, run_underlying hi, run_underlying hn, typeInfo, hinfo, hcomp]
theorem Zj6 (w : World) {ti tn : TypeId} {ms : Array (String × TypeId)} {i : TypeInfo} {k : IntKind} (a b : Int)
  (hi : Tryz.prog.underlying ti = some (.interface ms)) (hn : Tryz.prog.underlying tn = some (.int k)) (hinfo : Tryz.prog.info? tn = some i) (hcomp : i.comparable = true) :
  (binOp .eql ti (.iface tn (.int k a)) (.iface tn (.int k b))).run Tryz.prog w = .ok (.bool (a == b)) w := by
 simp only [binOp]
 simp [Op.equal, Op.maxDepth, Zhz w 9998 a b hi hn hinfo hcomp]
theorem Zoj : (Tryz.prog.info? 48).map (·.comparable) = some true := by kernel_rfl
set_option maxHeartbeats 8000000 in
set_option maxRecDepth 1000000 in
theorem Zm4 {W : World} (m : Int) (E : Value) (l : Nat) (c : Option Int) (hch : MC W E l c) (hne : E ≠ .nilIface) :
  Calls Tryz.prog 51 #[E, .iface 48 (.int .i64 m), .bool true] W fun e w' => e = .returned (.bool (decide (c = some m))) ∧ w' = W := by
 obtain ⟨i, hi, hcmp⟩ := Option.map_eq_some_iff.1 Zoj
 have nF := ZnN
 have nN := ZnT
 have uF := Zle
 have uN := ZjC
 have vN := Zii
 have mU := ZmY
 go_enter Tryz.func51, Tryz.ntmps51
 go_wp2
 go_loopw [0] (fun E' wl => wl = W ∧ E' ≠ .nilIface ∧ ∃ l', MC W E' l' c) (fun E' _ => ZgU W E')
 case atStart => exact ⟨rfl, hne, l, hch⟩
 case round =>
  obtain ⟨rfl, hne', l', hc'⟩ := hrel
  cases hc' with
  | nil => exact absurd rfl hne'
  | no n =>
   have heq := Zj6 wr (ti := 39) n m Tryz.underlying39 Tryz.underlying48 hi hcmp
   by_cases hnm : n = m
   ·subst hnm
    simp at heq
    go_wp2
    go_ret
    exact ⟨by simp, rfl⟩
   ·have hb : (n == m) = false := by simpa using hnm
    rw [hb] at heq
    go_wp2
    go_ret
    exact ⟨by simp [hnm], rfl⟩
  | «at» pb po E1 l1 _ hcell h1 =>
   have hty := run_eql_iface_types (P := Tryz.prog) 82 48 (.pointer (some ⟨pb, po, none⟩)) (.int .i64 m) Tryz.underlying39 (by decide) wr
   have hlen := ZgZ h1
   have hlen0 := ZgZ (MC.at pb po E1 l1 c hcell h1)
   cases h1 with
   | nil =>
    go_wp2
    go_ret
    exact ⟨by simp, rfl⟩
   | no n =>
    go_wp2
    go_roundw
    case rel => exact ⟨trivial, by simp, _, .no n⟩
    case measure =>
     show ZgU wr (.iface 48 (.int .i64 n)) < _
     rw [hlen, hlen0]; simp
   | «at» pb2 po2 E2 l2 _ hcell2 h2 =>
    have HC : Hid (MC wr (.iface 82 (.pointer (some ⟨pb2, po2, none⟩))) (l2 + 1) c) := MC.at pb2 po2 E2 l2 c hcell2 h2
    clear h2
    go_wp2
    go_roundw
    case rel => exact ⟨trivial, by simp, _, HC.out⟩
    case measure =>
     show ZgU wr (.iface 82 (.pointer (some ⟨pb2, po2, none⟩))) < _
     rw [hlen, hlen0]; simp
end Go.Proofs.YtmcecdjpconioaaGreatDoor
