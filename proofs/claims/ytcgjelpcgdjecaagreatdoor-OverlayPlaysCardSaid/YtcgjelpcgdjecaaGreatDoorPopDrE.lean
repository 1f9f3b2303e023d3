/-
  errors.As at a variable for a number and errors.Is at a number, whole, at an error of whatever depth.
-/
import Derived.Test.YtcgjelpcgdjecaaGreatDoorPopDrD
set_option linter.unusedVariables false
set_option linter.unusedSimpArgs false
namespace Go.Proofs.YtcgjelpcgdjecaaGreatDoor
open Go.RowKit Go.Extern.Stop Go.Stop Go.Extern

theorem MC.form {W : World} {E : Value} {l : Nat} {c : Option Int} (h : MC W E l c) (hne : E ≠ .nilIface) : ∃ t v, E = .iface t v := by
  cases h with
  | nil => exact absurd rfl hne
  | no n => exact ⟨_, _, rfl⟩
  | «at» pb po E l c hc _ => exact ⟨_, _, rfl⟩

/-- The world in which the error's links are looked at. -/
def asAt (w : World) (t : Addr) : World :=
  (w.alloc (.cells #[.pointer (some t)] 82)).alloc (.cells #[.pointer (some ⟨1, 82, none⟩), .pointer (some ⟨w.heap.size, 0, none⟩), .int .u64 150] 109)

set_option maxHeartbeats 8000000 in
theorem asN (t : Addr) (old : Value) (w : World) (E : Value) (l : Nat) (c : Option Int) (hch : MC w E l c) (hne : E ≠ .nilIface) (hg : Pin w) (ht0 : w.cell? t = some old) (hf0 : w.frozen? t = false) :
    Calls Tryz.prog 24 #[E, .iface 82 (.pointer (some t))] w fun ev w' => ev = .returned (.bool c.isSome) ∧ w' = asLeft ((asAt w t).alloc (.cells #[.pointer (some ⟨1, 82, none⟩), .pointer (some ⟨w.heap.size, 0, none⟩), .int .u64 150] 109)) t c := by
  unfold Pin at hg
  have h6 := @run_callFunc_extern Tryz.prog 44 _ (fun args => ReflectliteValue.unpack (args.getD 0 (.tuple #[]))) Tryz.func44 (by kernel_rfl) (by kernel_rfl) (by kernel_rfl) (by kernel_rfl)
  have h7 := @run_callFunc_extern Tryz.prog 45 _ (ReflectliteValue.methodAny (ReflectliteValue.valueError "reflectlite.Value.Type" 0) (fun t _ _ _ => ReflectliteType.toType t)) Tryz.func45 (by kernel_rfl) (by kernel_rfl) (by kernel_rfl) (by kernel_rfl)
  have h8 := @run_callFunc_extern Tryz.prog 46 _ (ReflectliteValue.method (ReflectliteValue.valueError "reflectlite.Value.IsNil" 0) ReflectliteValue.isNil) Tryz.func46 (by kernel_rfl) (by kernel_rfl) (by kernel_rfl) (by kernel_rfl)
  have h27 := @run_callFunc_extern Tryz.prog 102 _ (ReflectliteType.abiMethod fun t => do pure (.int .u8 (← Rtype.kind t))) Tryz.func102 (by kernel_rfl) (by kernel_rfl) (by kernel_rfl) (by kernel_rfl)
  have h37 := @run_callFunc_extern Tryz.prog 114 _ (ReflectliteType.method ReflectliteType.elem) Tryz.func114 (by kernel_rfl) (by kernel_rfl) (by kernel_rfl) (by kernel_rfl)
  have h38 := @run_callFunc_extern Tryz.prog 115 _ (ReflectliteType.relation "Implements" ReflectliteType.implements_) Tryz.func115 (by kernel_rfl) (by kernel_rfl) (by kernel_rfl) (by kernel_rfl)
  have f6 := dv_np
  have f7 := dt_np
  have mK := dm_kind
  have mE := dm_elem
  have mI := dm_imp
  have k27 := dk_np
  have k25 := dk_no
  have e27 := de_np
  have i25 := di_no
  have n8 := dn_np ⟨w.heap.size, 0, none⟩ t ((w.alloc (.cells #[.pointer (some t)] 82)).alloc (.cells #[.pointer (some ⟨1, 82, none⟩), .pointer (some ⟨w.heap.size, 0, none⟩), .int .u64 150] 109)) (by simp)
  have hlt := cell_lt hg
  have htl := cell_lt ht0
  have hg2 : ((w.alloc (.cells #[.pointer (some t)] 82)).alloc (.cells #[.pointer (some ⟨1, 82, none⟩), .pointer (some ⟨w.heap.size, 0, none⟩), .int .u64 150] 109)).cell? ⟨0, 0, none⟩ = some (.iface 133 (.agg #[.pointer (some ⟨1, 29, none⟩)])) := by
    rw [World.cell?_alloc_lt _ _ ⟨0, 0, none⟩ (by simp), World.cell?_alloc_lt _ _ ⟨0, 0, none⟩ hlt]; exact hg
  have hch2 := (hch.alloc (.cells #[.pointer (some t)] 82)).alloc (.cells #[.pointer (some ⟨1, 82, none⟩), .pointer (some ⟨w.heap.size, 0, none⟩), .int .u64 150] 109)
  have al := as_loop ⟨w.heap.size, 0, none⟩ t old E l c hch2 hne
    (by rw [World.cell?_alloc_lt _ _ ⟨w.heap.size, 0, none⟩ (by simp)]; simp)
    (by rw [World.cell?_alloc_lt _ _ t (by simp; omega), World.cell?_alloc_lt _ _ t htl]; exact ht0)
    (by rw [World.frozen?_alloc_old _ _ t (by simp; omega), World.frozen?_alloc_old _ _ t (Nat.ne_of_lt htl)]; exact hf0)
  obtain ⟨T, v, rfl⟩ := hch.form hne
  clear hch hch2 hne
  go_enter Tryz.func24, Tryz.ntmps24
  go_wp2_with (go_at_call 47; refine al.mono ?_; rintro e w' ⟨rfl, rfl⟩)
  go_ret
  exact ⟨rfl, rfl⟩

theorem d_cmp1 (w : World) : (ReflectliteType.method (fun t => do Rtype.noPackHeld "Comparable" t; pure (.bool (← typeInfo t).comparable)) #[.agg #[.pointer (some ⟨1, 72, none⟩)]]).run Tryz.prog w = .ok (.bool true) w := by kernel_rfl
theorem d_cmp (w : World) : (callFunc 113 #[.agg #[.pointer (some ⟨1, 72, none⟩)]]).run Tryz.prog w = .ok (.value (.bool true)) w := by
  rw [@run_callFunc_extern Tryz.prog 113 _ (ReflectliteType.method fun t => do Rtype.noPackHeld "Comparable" t; pure (.bool (← typeInfo t).comparable)) Tryz.func113 (by kernel_rfl) (by kernel_rfl) (by kernel_rfl) (by kernel_rfl), d_cmp1]
  rfl
set_option maxHeartbeats 8000000 in
theorem isN (m : Int) (w : World) (E : Value) (l : Nat) (c : Option Int) (hch : MC w E l c) (hne : E ≠ .nilIface) :
    Calls Tryz.prog 25 #[E, .iface 72 (.int .i64 m)] w fun ev w' => ev = .returned (.bool (decide (c = some m))) ∧ w' = w := by
  have h8 := @run_callFunc_extern Tryz.prog 48 _ ReflectliteType.typeOf Tryz.func48 (by kernel_rfl) (by kernel_rfl) (by kernel_rfl) (by kernel_rfl)
  have h32 := d_cmp
  have tT := dto_no
  have mR := dm_cmp
  have al := is_loop m E l c hch hne
  obtain ⟨T, v, rfl⟩ := hch.form hne
  clear hch hne
  go_enter Tryz.func25, Tryz.ntmps25
  go_wp2_with (go_at_call 49; refine al.mono ?_; rintro e w' ⟨rfl, rfl⟩)
  go_ret
  exact ⟨rfl, rfl⟩
end Go.Proofs.YtcgjelpcgdjecaaGreatDoor
