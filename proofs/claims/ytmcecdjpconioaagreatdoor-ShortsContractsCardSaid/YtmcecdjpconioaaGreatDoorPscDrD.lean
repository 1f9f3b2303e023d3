/-
 errors.As at a variable for a number: by its contract, at an error of whatever depth; errors.Is as a whole.
-/
import Derived.Test.YtmcecdjpconioaaGreatDoorPscDrC
set_option linter.unusedVariables false
set_option linter.unusedSimpArgs false
namespace Go.Proofs.YtmcecdjpconioaaGreatDoor
open Go.RowKit Go.Extern.Stop Go.Stop Go.Extern
theorem ZfM {W : World} {a : Addr} {v : Value} (h : W.cell? a = some v) : a.block < W.heap.size := by
 rcases Nat.lt_or_ge a.block W.heap.size with h1 | h1
 ·exact h1
 ·simp [World.cell?, Array.getElem?_eq_none h1] at h
theorem MC.alloc {W : World} {E : Value} {l : Nat} {c : Option Int} (h : MC W E l c) (o : Obj) : MC (W.alloc o) E l c := by
 induction h with
 | nil => exact .nil
 | no n => exact .no n
 | «at» pb po E l c hc _ ih => exact .at pb po E l c (by rw [World.cell?_alloc_lt _ _ ⟨pb, po + 2, none⟩ (ZfM hc)]; exact hc) ih
def Zlh (W : World) (t : Addr) : Option Int → World
 | some n => (W.alloc (.cells #[.int .i64 n] 48)).setCell t (.int .i64 n)
 | none => W
set_option maxHeartbeats 8000000 in
set_option maxRecDepth 1000000 in
theorem Zng {W : World} (vb t : Addr) (old : Value) (E : Value) (l : Nat) (c : Option Int) (hch : MC W E l c) (hne : E ≠ .nilIface)
  (hv : W.cell? vb = some (.pointer (some t))) (ht : W.cell? t = some old) (hf : W.frozen? t = false) :
  Calls Tryz.prog 49 #[E, .iface 87 (.pointer (some t)), .agg #[.pointer (some ⟨1, 87, none⟩), .pointer (some vb), .int .u64 150], .iface 155 (.agg #[.pointer (some ⟨1, 48, none⟩)])] W
   fun e w' => e = .returned (.bool c.isSome) ∧ w' = Zlh (W.alloc (.cells #[.pointer (some ⟨1, 87, none⟩), .pointer (some vb), .int .u64 150] 124)) t c := by
 have h6 := @run_callFunc_extern Tryz.prog 46 _ (fun args => ReflectliteValue.unpack (args.getD 0 (.tuple #[]))) Tryz.func46 (by kernel_rfl) (by kernel_rfl) (by kernel_rfl) (by kernel_rfl)
 have h10 := @run_callFunc_extern Tryz.prog 50 _ ReflectliteType.typeOf Tryz.func50 (by kernel_rfl) (by kernel_rfl) (by kernel_rfl) (by kernel_rfl)
 have h35 := @run_callFunc_extern Tryz.prog 142 _ (ReflectliteType.relation "AssignableTo" ReflectliteType.assignableTo) Tryz.func142 (by kernel_rfl) (by kernel_rfl) (by kernel_rfl) (by kernel_rfl)
 have h11 := @run_callFunc_extern Tryz.prog 70 _ (ReflectliteValue.method (ReflectliteValue.valueError "reflectlite.Value.Elem" 0) ReflectliteValue.elem) Tryz.func70 (by kernel_rfl) (by kernel_rfl) (by kernel_rfl) (by kernel_rfl)
 have h12 := @run_callFunc_extern Tryz.prog 71 _ ReflectliteValue.set Tryz.func71 (by kernel_rfl) (by kernel_rfl) (by kernel_rfl) (by kernel_rfl)
 have tN := Zjs
 have tF := ZlN
 have mA := ZjR
 have aN := da_nn
 have aF := da_fn
 have v25 := dv_no
 have x1 := ZlY
 have x2 := Zod
 have x3 := Zle
 have x4 := ZjC
 have x5 := Zii
 have mU := ZmY
 have hvl := ZfM hv
 have htl := ZfM ht
 have el := ZnP vb t (W.alloc (.cells #[.pointer (some ⟨1, 87, none⟩), .pointer (some vb), .int .u64 150] 124)) (by rw [World.cell?_alloc_lt _ _ vb hvl]; exact hv)
 go_enter Tryz.func49, Tryz.ntmps49
 go_wp2
 go_loopw [0] (fun E' wl => wl = W.alloc (.cells #[.pointer (some ⟨1, 87, none⟩), .pointer (some vb), .int .u64 150] 124) ∧ E' ≠ .nilIface ∧ ∃ l', MC (W.alloc (.cells #[.pointer (some ⟨1, 87, none⟩), .pointer (some vb), .int .u64 150] 124)) E' l' c) (fun E' _ => ZgU (W.alloc (.cells #[.pointer (some ⟨1, 87, none⟩), .pointer (some vb), .int .u64 150] 124)) E')
 case atStart => exact ⟨rfl, hne, l, hch.alloc _⟩
 case round =>
  obtain ⟨rfl, hne', l', hc'⟩ := hrel
  cases hc' with
  | nil => exact absurd rfl hne'
  | no n =>
   have st := Zol t ⟨W.heap.size + 1, 0, none⟩ n old ((W.alloc (.cells #[.pointer (some ⟨1, 87, none⟩), .pointer (some vb), .int .u64 150] 124)).alloc (.cells #[.int .i64 n] 48))
    (by rw [World.cell?_alloc_at _ _ _ _ (by simp)]; rfl)
    (by rw [World.cell?_alloc_lt _ _ t (by simp; omega), World.cell?_alloc_lt _ _ t htl]; exact ht)
    (by rw [World.frozen?_alloc_old _ _ t (by simp; omega), World.frozen?_alloc_old _ _ t (Nat.ne_of_lt htl)]; exact hf)
   go_wp2
   go_ret
   exact ⟨rfl, rfl⟩
  | «at» pb po E1 l1 _ hcell h1 =>
   have hlen := ZgZ h1
   have hlen0 := ZgZ (MC.at pb po E1 l1 c hcell h1)
   cases h1 with
   | nil =>
    go_wp2
    go_ret
    exact ⟨rfl, rfl⟩
   | no n =>
    go_wp2
    go_roundw
    case rel => exact ⟨trivial, by simp, _, .no n⟩
    case measure =>
     show ZgU _ (.iface 48 (.int .i64 n)) < _
     rw [hlen, hlen0]; simp
   | «at» pb2 po2 E2 l2 _ hcell2 h2 =>
    have HC : Hid (MC (W.alloc (.cells #[.pointer (some ⟨1, 87, none⟩), .pointer (some vb), .int .u64 150] 124)) (.iface 82 (.pointer (some ⟨pb2, po2, none⟩))) (l2 + 1) c) := MC.at pb2 po2 E2 l2 c hcell2 h2
    clear h2
    go_wp2
    go_roundw
    case rel => exact ⟨trivial, by simp, _, HC.out⟩
    case measure =>
     show ZgU _ (.iface 82 (.pointer (some ⟨pb2, po2, none⟩))) < _
     rw [hlen, hlen0]; simp
end Go.Proofs.YtmcecdjpconioaaGreatDoor
