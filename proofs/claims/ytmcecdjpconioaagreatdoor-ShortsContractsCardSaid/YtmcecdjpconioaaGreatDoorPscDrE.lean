/-
 errors.As at a variable for a number and errors.Is at a number, whole, at an error of whatever depth.
-/
import Derived.Test.YtmcecdjpconioaaGreatDoorPscDrD
set_option linter.unusedVariables false
set_option linter.unusedSimpArgs false
namespace Go.Proofs.YtmcecdjpconioaaGreatDoor
open Go.RowKit Go.Extern.Stop Go.Stop Go.Extern
theorem MC.form {W : World} {E : Value} {l : Nat} {c : Option Int} (h : MC W E l c) (hne : E ≠ .nilIface) : ∃ t v, E = .iface t v := by
 cases h with
 | nil => exact absurd rfl hne
 | no n => exact ⟨_, _, rfl⟩
 | «at» pb po E l c hc _ => exact ⟨_, _, rfl⟩
def asAt (w : World) (t : Addr) : World :=
 (w.alloc (.cells #[.pointer (some t)] 87)).alloc (.cells #[.pointer (some ⟨1, 87, none⟩), .pointer (some ⟨w.heap.size, 0, none⟩), .int .u64 150] 124)
set_option maxHeartbeats 8000000 in
theorem asN (t : Addr) (old : Value) (w : World) (E : Value) (l : Nat) (c : Option Int) (hch : MC w E l c) (hne : E ≠ .nilIface) (hg : Pin w) (ht0 : w.cell? t = some old) (hf0 : w.frozen? t = false) :
  Calls Tryz.prog 26 #[E, .iface 87 (.pointer (some t))] w fun ev w' => ev = .returned (.bool c.isSome) ∧ w' = Zlh ((asAt w t).alloc (.cells #[.pointer (some ⟨1, 87, none⟩), .pointer (some ⟨w.heap.size, 0, none⟩), .int .u64 150] 124)) t c := by
 unfold Pin at hg
 have h6 := @run_callFunc_extern Tryz.prog 46 _ (fun args => ReflectliteValue.unpack (args.getD 0 (.tuple #[]))) Tryz.func46 (by kernel_rfl) (by kernel_rfl) (by kernel_rfl) (by kernel_rfl)
 have h7 := @run_callFunc_extern Tryz.prog 47 _ (ReflectliteValue.methodAny (ReflectliteValue.valueError "reflectlite.Value.Type" 0) (fun t _ _ _ => ReflectliteType.toType t)) Tryz.func47 (by kernel_rfl) (by kernel_rfl) (by kernel_rfl) (by kernel_rfl)
 have h8 := @run_callFunc_extern Tryz.prog 48 _ (ReflectliteValue.method (ReflectliteValue.valueError "reflectlite.Value.IsNil" 0) ReflectliteValue.isNil) Tryz.func48 (by kernel_rfl) (by kernel_rfl) (by kernel_rfl) (by kernel_rfl)
 have h27 := @run_callFunc_extern Tryz.prog 130 _ (ReflectliteType.abiMethod fun t => do pure (.int .u8 (← Rtype.kind t))) Tryz.func130 (by kernel_rfl) (by kernel_rfl) (by kernel_rfl) (by kernel_rfl)
 have h37 := @run_callFunc_extern Tryz.prog 144 _ (ReflectliteType.method ReflectliteType.elem) Tryz.func144 (by kernel_rfl) (by kernel_rfl) (by kernel_rfl) (by kernel_rfl)
 have h38 := @run_callFunc_extern Tryz.prog 145 _ (ReflectliteType.relation "Implements" ReflectliteType.implements_) Tryz.func145 (by kernel_rfl) (by kernel_rfl) (by kernel_rfl) (by kernel_rfl)
 have f6 := dv_np
 have f7 := dt_np
 have mK := Zh8
 have mE := Zif
 have mI := ZjV
 have k27 := dk_np
 have k25 := dk_no
 have e27 := de_np
 have i25 := di_no
 have n8 := dn_np ⟨w.heap.size, 0, none⟩ t ((w.alloc (.cells #[.pointer (some t)] 87)).alloc (.cells #[.pointer (some ⟨1, 87, none⟩), .pointer (some ⟨w.heap.size, 0, none⟩), .int .u64 150] 124)) (by simp)
 have hlt := ZfM hg
 have htl := ZfM ht0
 have hg2 : ((w.alloc (.cells #[.pointer (some t)] 87)).alloc (.cells #[.pointer (some ⟨1, 87, none⟩), .pointer (some ⟨w.heap.size, 0, none⟩), .int .u64 150] 124)).cell? ⟨0, 0, none⟩ = some (.iface 155 (.agg #[.pointer (some ⟨1, 39, none⟩)])) := by
  rw [World.cell?_alloc_lt _ _ ⟨0, 0, none⟩ (by simp), World.cell?_alloc_lt _ _ ⟨0, 0, none⟩ hlt]; exact hg
 have hch2 := (hch.alloc (.cells #[.pointer (some t)] 87)).alloc (.cells #[.pointer (some ⟨1, 87, none⟩), .pointer (some ⟨w.heap.size, 0, none⟩), .int .u64 150] 124)
 have al := Zng ⟨w.heap.size, 0, none⟩ t old E l c hch2 hne
  (by rw [World.cell?_alloc_lt _ _ ⟨w.heap.size, 0, none⟩ (by simp)]; simp)
  (by rw [World.cell?_alloc_lt _ _ t (by simp; omega), World.cell?_alloc_lt _ _ t htl]; exact ht0)
  (by rw [World.frozen?_alloc_old _ _ t (by simp; omega), World.frozen?_alloc_old _ _ t (Nat.ne_of_lt htl)]; exact hf0)
 obtain ⟨T, v, rfl⟩ := hch.form hne
 clear hch hch2 hne
 go_enter Tryz.func26, Tryz.ntmps26
 go_wp2_with (go_at_call 49; refine al.mono ?_; rintro e w' ⟨rfl, rfl⟩)
 go_ret
 exact ⟨rfl, rfl⟩
theorem Zoq (w : World) : (ReflectliteType.method (fun t => do Rtype.noPackHeld "Comparable" t; pure (.bool (← typeInfo t).comparable)) #[.agg #[.pointer (some ⟨1, 48, none⟩)]]).run Tryz.prog w = .ok (.bool true) w := by kernel_rfl
theorem d_cmp (w : World) : (callFunc 143 #[.agg #[.pointer (some ⟨1, 48, none⟩)]]).run Tryz.prog w = .ok (.value (.bool true)) w := by
 rw [@run_callFunc_extern Tryz.prog 143 _ (ReflectliteType.method fun t => do Rtype.noPackHeld "Comparable" t; pure (.bool (← typeInfo t).comparable)) Tryz.func143 (by kernel_rfl) (by kernel_rfl) (by kernel_rfl) (by kernel_rfl), Zoq]
 rfl
set_option maxHeartbeats 8000000 in
theorem isN (m : Int) (w : World) (E : Value) (l : Nat) (c : Option Int) (hch : MC w E l c) (hne : E ≠ .nilIface) :
  Calls Tryz.prog 27 #[E, .iface 48 (.int .i64 m)] w fun ev w' => ev = .returned (.bool (decide (c = some m))) ∧ w' = w := by
 have h8 := @run_callFunc_extern Tryz.prog 50 _ ReflectliteType.typeOf Tryz.func50 (by kernel_rfl) (by kernel_rfl) (by kernel_rfl) (by kernel_rfl)
 have h32 := d_cmp
 have tT := Zjs
 have mR := Zon
 have al := Zm4 m E l c hch hne
 obtain ⟨T, v, rfl⟩ := hch.form hne
 clear hch hne
 go_enter Tryz.func27, Tryz.ntmps27
 go_wp2_with (go_at_call 51; refine al.mono ?_; rintro e w' ⟨rfl, rfl⟩)
 go_ret
 exact ⟨rfl, rfl⟩
end Go.Proofs.YtmcecdjpconioaaGreatDoor
