/-
 errors.As at a variable for a number: by its contract, at an error of whatever depth; errors.Is as a whole.
-/
import Derived.Test.YtnepbkkdhalbiaaGreatDoorPsnDrC
set_option linter.unusedVariables false
set_option linter.unusedSimpArgs false
namespace Go.Proofs.YtnepbkkdhalbiaaGreatDoor
open Go.RowKit Go.Extern.Stop Go.Stop Go.Extern
theorem ZfL {W : World} {a : Addr} {v : Value} (h : W.cell? a = some v) : a.block < W.heap.size := by
 rcases Nat.lt_or_ge a.block W.heap.size with h1 | h1
 ·exact h1
 ·simp [World.cell?, Array.getElem?_eq_none h1] at h
theorem MC.alloc {W : World} {E : Value} {l : Nat} {c : Option Int} (h : MC W E l c) (o : Obj) : MC (W.alloc o) E l c := by
 induction h with
 | nil => exact .nil
 | no n => exact .no n
 | «at» pb po E l c hc _ ih => exact .at pb po E l c (by rw [World.cell?_alloc_lt _ _ ⟨pb, po + 2, none⟩ (ZfL hc)]; exact hc) ih
def ZlA (W : World) (t : Addr) : Option Int → World
 | some n => (W.alloc (.cells #[.int .i64 n] 78)).setCell t (.int .i64 n)
 | none => W
set_option maxHeartbeats 8000000 in
set_option maxRecDepth 1000000 in
theorem Znv {W : World} (vb t : Addr) (old : Value) (E : Value) (l : Nat) (c : Option Int) (hch : MC W E l c) (hne : E ≠ .nilIface)
  (hv : W.cell? vb = some (.pointer (some t))) (ht : W.cell? t = some old) (hf : W.frozen? t = false) :
  Calls Tryz.prog 72 #[E, .iface 121 (.pointer (some t)), .agg #[.pointer (some ⟨1, 121, none⟩), .pointer (some vb), .int .u64 150], .iface 192 (.agg #[.pointer (some ⟨1, 78, none⟩)])] W
   fun e w' => e = .returned (.bool c.isSome) ∧ w' = ZlA (W.alloc (.cells #[.pointer (some ⟨1, 121, none⟩), .pointer (some vb), .int .u64 150] 159)) t c := by
 have h6 := @run_callFunc_extern Tryz.prog 69 _ (fun args => ReflectliteValue.unpack (args.getD 0 (.tuple #[]))) Tryz.func69 (by kernel_rfl) (by kernel_rfl) (by kernel_rfl) (by kernel_rfl)
 have h10 := @run_callFunc_extern Tryz.prog 73 _ ReflectliteType.typeOf Tryz.func73 (by kernel_rfl) (by kernel_rfl) (by kernel_rfl) (by kernel_rfl)
 have h35 := @run_callFunc_extern Tryz.prog 158 _ (ReflectliteType.relation "AssignableTo" ReflectliteType.assignableTo) Tryz.func158 (by kernel_rfl) (by kernel_rfl) (by kernel_rfl) (by kernel_rfl)
 have h11 := @run_callFunc_extern Tryz.prog 91 _ (ReflectliteValue.method (ReflectliteValue.valueError "reflectlite.Value.Elem" 0) ReflectliteValue.elem) Tryz.func91 (by kernel_rfl) (by kernel_rfl) (by kernel_rfl) (by kernel_rfl)
 have h12 := @run_callFunc_extern Tryz.prog 92 _ ReflectliteValue.set Tryz.func92 (by kernel_rfl) (by kernel_rfl) (by kernel_rfl) (by kernel_rfl)
 have tN := ZjP
 have tF := Zlh
 have mA := ZjE
 have aN := da_nn
 have aF := da_fn
 have v25 := dv_no
 have x1 := ZlT
 have x2 := ZnF
 have x3 := Zll
 have x4 := Zi7
 have x5 := Zh2
 have mU := ZmG
 have hvl := ZfL hv
 have htl := ZfL ht
 have el := ZnW vb t (W.alloc (.cells #[.pointer (some ⟨1, 121, none⟩), .pointer (some vb), .int .u64 150] 159)) (by rw [World.cell?_alloc_lt _ _ vb hvl]; exact hv)
 go_enter Tryz.func72, Tryz.ntmps72
 go_wp2
 go_loopw [0] (fun E' wl => wl = W.alloc (.cells #[.pointer (some ⟨1, 121, none⟩), .pointer (some vb), .int .u64 150] 159) ∧ E' ≠ .nilIface ∧ ∃ l', MC (W.alloc (.cells #[.pointer (some ⟨1, 121, none⟩), .pointer (some vb), .int .u64 150] 159)) E' l' c) (fun E' _ => Zgx (W.alloc (.cells #[.pointer (some ⟨1, 121, none⟩), .pointer (some vb), .int .u64 150] 159)) E')
 case atStart => exact ⟨rfl, hne, l, hch.alloc _⟩
 case round =>
  obtain ⟨rfl, hne', l', hc'⟩ := hrel
  cases hc' with
  | nil => exact absurd rfl hne'
  | no n =>
   have st := ZnV t ⟨W.heap.size + 1, 0, none⟩ n old ((W.alloc (.cells #[.pointer (some ⟨1, 121, none⟩), .pointer (some vb), .int .u64 150] 159)).alloc (.cells #[.int .i64 n] 78))
    (by rw [World.cell?_alloc_at _ _ _ _ (by simp)]; rfl)
    (by rw [World.cell?_alloc_lt _ _ t (by simp; omega), World.cell?_alloc_lt _ _ t htl]; exact ht)
    (by rw [World.frozen?_alloc_old _ _ t (by simp; omega), World.frozen?_alloc_old _ _ t (Nat.ne_of_lt htl)]; exact hf)
   go_wp2
   go_ret
   exact ⟨rfl, rfl⟩
  | «at» pb po E1 l1 _ hcell h1 =>
   have hlen := Zg3 h1
   have hlen0 := Zg3 (MC.at pb po E1 l1 c hcell h1)
   cases h1 with
   | nil =>
    go_wp2
    go_ret
    exact ⟨rfl, rfl⟩
   | no n =>
    go_wp2
    go_roundw
    case rel => exact ⟨trivial, by simp, _, .no n⟩
    case measure =>
     show Zgx _ (.iface 78 (.int .i64 n)) < _
     rw [hlen, hlen0]; simp
   | «at» pb2 po2 E2 l2 _ hcell2 h2 =>
    have HC : Hid (MC (W.alloc (.cells #[.pointer (some ⟨1, 121, none⟩), .pointer (some vb), .int .u64 150] 159)) (.iface 116 (.pointer (some ⟨pb2, po2, none⟩))) (l2 + 1) c) := MC.at pb2 po2 E2 l2 c hcell2 h2
    clear h2
    go_wp2
    go_roundw
    case rel => exact ⟨trivial, by simp, _, HC.out⟩
    case measure =>
     show Zgx _ (.iface 116 (.pointer (some ⟨pb2, po2, none⟩))) < _
     rw [hlen, hlen0]; simp
end Go.Proofs.YtnepbkkdhalbiaaGreatDoor
