/-
  errors.As and errors.Is by their contracts, at an error of api's make of whatever depth; after the kit's worked examples (a law that comes to errors.As; errors.Is at a chain of whatever depth). The conditions are those written.
-/
import Derived.Test.YtjfplpkmbijfpaaDoorPno0
import Derived.Test.YtjfplpkmbijfpaaDoorChecked
import Derived.WalkKit
import Derived.LaidEql
import Derived.Stop.Asserts
import Derived.RowKitTokens
import Derived.Elder7
import Derived.Test.YtjfplpkmbijfpaaDoorVeC
set_option linter.unusedVariables false
set_option linter.unusedSimpArgs false
set_option linter.unusedSectionVars false
/-! (DrA) -/

set_option linter.unusedVariables false
set_option linter.unusedSimpArgs false
namespace Go.Proofs.YtjfplpkmbijfpaaDoor
open Go.RowKit Go.Extern.Stop Go.Stop Go.Extern

/-! ### Closed facts -/
theorem dv_fpp (t : Addr) (w : World) : (ReflectliteValue.unpack (.iface 92 (.pointer (some t)))).run Tryd.prog w = .ok (.agg #[.pointer (some ⟨1, 92, none⟩), .pointer (some ⟨w.heap.size, 0, none⟩), .int .u64 150]) (w.alloc (.cells #[.pointer (some t)] 92)) := by kernel_rfl
theorem dv_np (t : Addr) (w : World) : (ReflectliteValue.unpack (.iface 95 (.pointer (some t)))).run Tryd.prog w = .ok (.agg #[.pointer (some ⟨1, 95, none⟩), .pointer (some ⟨w.heap.size, 0, none⟩), .int .u64 150]) (w.alloc (.cells #[.pointer (some t)] 95)) := by kernel_rfl
theorem dv_fp (t : Addr) (w : World) : (ReflectliteValue.unpack (.iface 90 (.pointer (some t)))).run Tryd.prog w = .ok (.agg #[.pointer (some ⟨1, 90, none⟩), .pointer (some ⟨w.heap.size, 0, none⟩), .int .u64 150]) (w.alloc (.cells #[.pointer (some t)] 90)) := by kernel_rfl
theorem dv_no (n : Int) (w : World) : (ReflectliteValue.unpack (.iface 53 (.int .i64 n))).run Tryd.prog w = .ok (.agg #[.pointer (some ⟨1, 53, none⟩), .pointer (some ⟨w.heap.size, 0, none⟩), .int .u64 130]) (w.alloc (.cells #[.int .i64 n] 53)) := by kernel_rfl
theorem dt_fpp (a : Addr) (w : World) : (ReflectliteValue.methodAny (ReflectliteValue.valueError "reflectlite.Value.Type" 0) (fun t _ _ _ => ReflectliteType.toType t) #[.agg #[.pointer (some ⟨1, 92, none⟩), .pointer (some a), .int .u64 150]]).run Tryd.prog w = .ok (.iface 151 (.agg #[.pointer (some ⟨1, 92, none⟩)])) w := by kernel_rfl
theorem dt_np (a : Addr) (w : World) : (ReflectliteValue.methodAny (ReflectliteValue.valueError "reflectlite.Value.Type" 0) (fun t _ _ _ => ReflectliteType.toType t) #[.agg #[.pointer (some ⟨1, 95, none⟩), .pointer (some a), .int .u64 150]]).run Tryd.prog w = .ok (.iface 151 (.agg #[.pointer (some ⟨1, 95, none⟩)])) w := by kernel_rfl
theorem dm_kind (h : Value) (w : World) : (Go.method 303 151 (.agg #[h]) "Kind").run Tryd.prog w = .ok (123, h) w := by kernel_rfl
theorem dm_elem (h : Value) (w : World) : (Go.method 303 151 (.agg #[h]) "Elem").run Tryd.prog w = .ok (135, .agg #[h]) w := by kernel_rfl
theorem dm_imp (h : Value) (w : World) : (Go.method 303 151 (.agg #[h]) "Implements").run Tryd.prog w = .ok (136, .agg #[h]) w := by kernel_rfl
theorem dm_asg (h : Value) (w : World) : (Go.method 303 151 (.agg #[h]) "AssignableTo").run Tryd.prog w = .ok (133, .agg #[h]) w := by kernel_rfl
theorem dm_cmp (v : Value) (w : World) : (Go.method 303 151 v "Comparable").run Tryd.prog w = .ok (134, v) w := by kernel_rfl
theorem dm_un (v : Value) (w : World) : (Go.method 303 90 v "Unwrap").run Tryd.prog w = .ok (128, v) w := by kernel_rfl
theorem dk_fpp (w : World) : ((ReflectliteType.abiMethod fun t => (fun a : Nat => Value.int IntKind.u8 (a : Int)) <$> Rtype.kind t) #[.pointer (some ⟨1, 92, none⟩)]).run Tryd.prog w = .ok (.int .u8 22) w := by kernel_rfl
theorem dk_np (w : World) : ((ReflectliteType.abiMethod fun t => (fun a : Nat => Value.int IntKind.u8 (a : Int)) <$> Rtype.kind t) #[.pointer (some ⟨1, 95, none⟩)]).run Tryd.prog w = .ok (.int .u8 22) w := by kernel_rfl
theorem dk_fp (w : World) : ((ReflectliteType.abiMethod fun t => (fun a : Nat => Value.int IntKind.u8 (a : Int)) <$> Rtype.kind t) #[.pointer (some ⟨1, 90, none⟩)]).run Tryd.prog w = .ok (.int .u8 22) w := by kernel_rfl
theorem dk_no (w : World) : ((ReflectliteType.abiMethod fun t => (fun a : Nat => Value.int IntKind.u8 (a : Int)) <$> Rtype.kind t) #[.pointer (some ⟨1, 53, none⟩)]).run Tryd.prog w = .ok (.int .u8 2) w := by kernel_rfl
theorem de_fpp (w : World) : (ReflectliteType.method ReflectliteType.elem #[.agg #[.pointer (some ⟨1, 92, none⟩)]]).run Tryd.prog w = .ok (.iface 151 (.agg #[.pointer (some ⟨1, 90, none⟩)])) w := by kernel_rfl
theorem de_np (w : World) : (ReflectliteType.method ReflectliteType.elem #[.agg #[.pointer (some ⟨1, 95, none⟩)]]).run Tryd.prog w = .ok (.iface 151 (.agg #[.pointer (some ⟨1, 53, none⟩)])) w := by kernel_rfl
theorem di_fp (w : World) : (ReflectliteType.relation "Implements" ReflectliteType.implements_ #[.agg #[.pointer (some ⟨1, 90, none⟩)], .iface 151 (.agg #[.pointer (some ⟨1, 28, none⟩)])]).run Tryd.prog w = .ok (.bool true) w := by kernel_rfl
theorem di_no (w : World) : (ReflectliteType.relation "Implements" ReflectliteType.implements_ #[.agg #[.pointer (some ⟨1, 53, none⟩)], .iface 151 (.agg #[.pointer (some ⟨1, 28, none⟩)])]).run Tryd.prog w = .ok (.bool true) w := by kernel_rfl
theorem dto_fp (v : Value) (w : World) : (ReflectliteType.typeOf #[.iface 90 v]).run Tryd.prog w = .ok (.iface 151 (.agg #[.pointer (some ⟨1, 90, none⟩)])) w := by kernel_rfl
theorem dto_no (v : Value) (w : World) : (ReflectliteType.typeOf #[.iface 53 v]).run Tryd.prog w = .ok (.iface 151 (.agg #[.pointer (some ⟨1, 53, none⟩)])) w := by kernel_rfl
theorem da_ff (w : World) : (ReflectliteType.relation "AssignableTo" ReflectliteType.assignableTo #[.agg #[.pointer (some ⟨1, 90, none⟩)], .iface 151 (.agg #[.pointer (some ⟨1, 90, none⟩)])]).run Tryd.prog w = .ok (.bool true) w := by kernel_rfl
theorem da_nn (w : World) : (ReflectliteType.relation "AssignableTo" ReflectliteType.assignableTo #[.agg #[.pointer (some ⟨1, 53, none⟩)], .iface 151 (.agg #[.pointer (some ⟨1, 53, none⟩)])]).run Tryd.prog w = .ok (.bool true) w := by kernel_rfl
theorem da_fn (w : World) : (ReflectliteType.relation "AssignableTo" ReflectliteType.assignableTo #[.agg #[.pointer (some ⟨1, 90, none⟩)], .iface 151 (.agg #[.pointer (some ⟨1, 53, none⟩)])]).run Tryd.prog w = .ok (.bool false) w := by kernel_rfl
theorem da_nf (w : World) : (ReflectliteType.relation "AssignableTo" ReflectliteType.assignableTo #[.agg #[.pointer (some ⟨1, 53, none⟩)], .iface 151 (.agg #[.pointer (some ⟨1, 90, none⟩)])]).run Tryd.prog w = .ok (.bool false) w := by kernel_rfl
theorem dc_no (w : World) : ((ReflectliteType.method fun t => (fun a => Value.bool a.comparable) <$> typeInfo t) #[.agg #[.pointer (some ⟨1, 53, none⟩)]]).run Tryd.prog w = .ok (.bool true) w := by kernel_rfl

/-! ### What the assertions find -/
theorem dx_asF (v : Value) (xT : TypeId) (w : World) : (Instr.typeAssert (.iface 90 v) xT 155 true).run Tryd.prog w = .ok (.tuple #[.nilIface, .bool false]) w := run_typeAssert_lacksB Tryd.underlying155 (by kernel_rfl) (by kernel_rfl) v xT w
theorem dx_asN (v : Value) (xT : TypeId) (w : World) : (Instr.typeAssert (.iface 53 v) xT 155 true).run Tryd.prog w = .ok (.tuple #[.nilIface, .bool false]) w := run_typeAssert_lacksB Tryd.underlying155 (by kernel_rfl) (by kernel_rfl) v xT w
theorem dx_isF (v : Value) (xT : TypeId) (w : World) : (Instr.typeAssert (.iface 90 v) xT 163 true).run Tryd.prog w = .ok (.tuple #[.nilIface, .bool false]) w := run_typeAssert_lacksB Tryd.underlying163 (by kernel_rfl) (by kernel_rfl) v xT w
theorem dx_isN (v : Value) (xT : TypeId) (w : World) : (Instr.typeAssert (.iface 53 v) xT 163 true).run Tryd.prog w = .ok (.tuple #[.nilIface, .bool false]) w := run_typeAssert_lacksB Tryd.underlying163 (by kernel_rfl) (by kernel_rfl) v xT w
theorem dx_unF (v : Value) (xT : TypeId) (w : World) : (Instr.typeAssert (.iface 90 v) xT 158 true).run Tryd.prog w = .ok (.tuple #[.iface 90 v, .bool true]) w := run_typeAssert_hasB Tryd.underlying158 (by kernel_rfl) v xT w
theorem dx_unN (v : Value) (xT : TypeId) (w : World) : (Instr.typeAssert (.iface 53 v) xT 158 true).run Tryd.prog w = .ok (.tuple #[.nilIface, .bool false]) w := run_typeAssert_lacksB Tryd.underlying158 (by kernel_rfl) (by kernel_rfl) v xT w
theorem dx_unsN (v : Value) (xT : TypeId) (w : World) : (Instr.typeAssert (.iface 53 v) xT 160 true).run Tryd.prog w = .ok (.tuple #[.nilIface, .bool false]) w := run_typeAssert_lacksB Tryd.underlying160 (by kernel_rfl) (by kernel_rfl) v xT w

/-! ### The entries that read or write memory -/
theorem d_rlm (z : Sem Value) (f : TypeId → Addr → Nat → Nat → Sem Value) (v : Value) :
    ReflectliteValue.method z f #[v] = (do match ← ReflectliteValue.parts v with | none => z | some (t, a, fl) => f t a fl (fl % 32)) := rfl
theorem d_rls (v x : Value) : ReflectliteValue.set #[v, x] = (do
    let (some (dst, a, fl), some (src, b, _)) := (← ReflectliteValue.parts v, ← ReflectliteValue.parts x)
      | unsupported (.noEntry "extern/(internal/reflectlite.Value).Set.zeroValue")
    if fl / ReflectliteValue.flagAddr % 2 == 0 then unsupported (.noEntry "extern/(internal/reflectlite.Value).Set.unaddressable")
    let val ← loadVar src b
    if ← Rtype.directlyAssignable dst src then storeVar dst a val
    else if ← Rtype.implements dst src then
      if (← Rtype.kind src) == 20 then
        match val with
        | .nilIface => unsupported (.noEntry "extern/reflectlite: a nil value of one interface type handed on as a value of another")
        | _ => storeVar dst a val
      else storeVar dst a (.iface src val)
    else panicString ("reflectlite.Set: value of type " ++ (← Rtype.spelt src) ++ " is not assignable to type " ++ (← Rtype.spelt dst))
    pure (.tuple #[])) := rfl
theorem dp_fpp (a : Addr) (w : World) : (ReflectliteValue.parts (.agg #[.pointer (some ⟨1, 92, none⟩), .pointer (some a), .int .u64 150])).run Tryd.prog w = .ok (some (92, a, 150)) w := by kernel_rfl
theorem dp_np (a : Addr) (w : World) : (ReflectliteValue.parts (.agg #[.pointer (some ⟨1, 95, none⟩), .pointer (some a), .int .u64 150])).run Tryd.prog w = .ok (some (95, a, 150)) w := by kernel_rfl
theorem dp_fpa (a : Addr) (w : World) : (ReflectliteValue.parts (.agg #[.pointer (some ⟨1, 90, none⟩), .pointer (some a), .int .u64 406])).run Tryd.prog w = .ok (some (90, a, 406)) w := by kernel_rfl
theorem dp_fp (a : Addr) (w : World) : (ReflectliteValue.parts (.agg #[.pointer (some ⟨1, 90, none⟩), .pointer (some a), .int .u64 150])).run Tryd.prog w = .ok (some (90, a, 150)) w := by kernel_rfl
theorem dp_noa (a : Addr) (w : World) : (ReflectliteValue.parts (.agg #[.pointer (some ⟨1, 53, none⟩), .pointer (some a), .int .u64 386])).run Tryd.prog w = .ok (some (53, a, 386)) w := by kernel_rfl
theorem dp_no (a : Addr) (w : World) : (ReflectliteValue.parts (.agg #[.pointer (some ⟨1, 53, none⟩), .pointer (some a), .int .u64 130])).run Tryd.prog w = .ok (some (53, a, 130)) w := by kernel_rfl
theorem dl_fpp (w : World) : (Rtype.elem? 92).run Tryd.prog w = .ok (some 90) w := by kernel_rfl
theorem dl_np (w : World) : (Rtype.elem? 95).run Tryd.prog w = .ok (some 53) w := by kernel_rfl
theorem dk2_fp (p : Addr) (w : World) : (ReflectliteValue.mk 90 p ReflectliteValue.flagAddr).run Tryd.prog w = .ok (.agg #[.pointer (some ⟨1, 90, none⟩), .pointer (some p), .int .u64 406]) w := by kernel_rfl
theorem dk2_no (p : Addr) (w : World) : (ReflectliteValue.mk 53 p ReflectliteValue.flagAddr).run Tryd.prog w = .ok (.agg #[.pointer (some ⟨1, 53, none⟩), .pointer (some p), .int .u64 386]) w := by kernel_rfl
theorem dd_fp (w : World) : (Rtype.directlyAssignable 90 90).run Tryd.prog w = .ok true w := by kernel_rfl
theorem dd_no (w : World) : (Rtype.directlyAssignable 53 53).run Tryd.prog w = .ok true w := by kernel_rfl

theorem dn_fpp (a p : Addr) (W : World) (ha : W.cell? a = some (.pointer (some p))) :
    (ReflectliteValue.method (ReflectliteValue.valueError "reflectlite.Value.IsNil" 0) ReflectliteValue.isNil #[.agg #[.pointer (some ⟨1, 92, none⟩), .pointer (some a), .int .u64 150]]).run Tryd.prog W = .ok (.bool false) W := by
  rw [d_rlm]
  simp only [Sem.run_bind, dp_fpp, Result.andThen]
  simp [ReflectliteValue.isNil, loadVar, isAgg, underlying, Tryd.underlying92, ha, Result.andThen]
theorem dn_np (a p : Addr) (W : World) (ha : W.cell? a = some (.pointer (some p))) :
    (ReflectliteValue.method (ReflectliteValue.valueError "reflectlite.Value.IsNil" 0) ReflectliteValue.isNil #[.agg #[.pointer (some ⟨1, 95, none⟩), .pointer (some a), .int .u64 150]]).run Tryd.prog W = .ok (.bool false) W := by
  rw [d_rlm]
  simp only [Sem.run_bind, dp_np, Result.andThen]
  simp [ReflectliteValue.isNil, loadVar, isAgg, underlying, Tryd.underlying95, ha, Result.andThen]
theorem del_fpp (a p : Addr) (W : World) (ha : W.cell? a = some (.pointer (some p))) :
    (ReflectliteValue.method (ReflectliteValue.valueError "reflectlite.Value.Elem" 0) ReflectliteValue.elem #[.agg #[.pointer (some ⟨1, 92, none⟩), .pointer (some a), .int .u64 150]]).run Tryd.prog W
      = .ok (.agg #[.pointer (some ⟨1, 90, none⟩), .pointer (some p), .int .u64 406]) W := by
  rw [d_rlm]
  simp only [Sem.run_bind, dp_fpp, Result.andThen]
  simp [ReflectliteValue.elem, loadVar, isAgg, underlying, Tryd.underlying92, ha, Result.andThen, dl_fpp, dk2_fp]
theorem del_np (a p : Addr) (W : World) (ha : W.cell? a = some (.pointer (some p))) :
    (ReflectliteValue.method (ReflectliteValue.valueError "reflectlite.Value.Elem" 0) ReflectliteValue.elem #[.agg #[.pointer (some ⟨1, 95, none⟩), .pointer (some a), .int .u64 150]]).run Tryd.prog W
      = .ok (.agg #[.pointer (some ⟨1, 53, none⟩), .pointer (some p), .int .u64 386]) W := by
  rw [d_rlm]
  simp only [Sem.run_bind, dp_np, Result.andThen]
  simp [ReflectliteValue.elem, loadVar, isAgg, underlying, Tryd.underlying95, ha, Result.andThen, dl_np, dk2_no]
theorem dst_fp (ta b e : Addr) (old : Value) (W : World) (hb : W.cell? b = some (.pointer (some e))) (ht : W.cell? ta = some old) (hf : W.frozen? ta = false) :
    (ReflectliteValue.set #[.agg #[.pointer (some ⟨1, 90, none⟩), .pointer (some ta), .int .u64 406], .agg #[.pointer (some ⟨1, 90, none⟩), .pointer (some b), .int .u64 150]]).run Tryd.prog W
      = .ok (.tuple #[]) (W.setCell ta (.pointer (some e))) := by
  rw [d_rls]
  simp only [Sem.run_bind, dp_fpa, dp_fp, Result.andThen]
  simp [ReflectliteValue.flagAddr, loadVar, isAgg, underlying, Tryd.underlying90, hb, Result.andThen, dd_fp, storeVar, Value.cells, storeCells, Addr.add]
  rw [run_store Tryd.prog W ta _ _ (by rfl)]
  simp [ht, hf]
theorem dst_no (ta b : Addr) (n : Int) (old : Value) (W : World) (hb : W.cell? b = some (.int .i64 n)) (ht : W.cell? ta = some old) (hf : W.frozen? ta = false) :
    (ReflectliteValue.set #[.agg #[.pointer (some ⟨1, 53, none⟩), .pointer (some ta), .int .u64 386], .agg #[.pointer (some ⟨1, 53, none⟩), .pointer (some b), .int .u64 130]]).run Tryd.prog W
      = .ok (.tuple #[]) (W.setCell ta (.int .i64 n)) := by
  rw [d_rls]
  simp only [Sem.run_bind, dp_noa, dp_no, Result.andThen]
  simp [ReflectliteValue.flagAddr, loadVar, isAgg, underlying, Tryd.underlying53, hb, Result.andThen, dd_no, storeVar, Value.cells, storeCells, Addr.add]
  rw [run_store Tryd.prog W ta _ _ (by rfl)]
  simp [ht, hf]
end Go.Proofs.YtjfplpkmbijfpaaDoor

/-! (DrB) -/

set_option linter.unusedVariables false
set_option linter.unusedSimpArgs false
namespace Go.Proofs.YtjfplpkmbijfpaaDoor
open Go.RowKit Go.Extern.Stop Go.Stop Go.Extern

/-- An error in a world: how deep, and the number at its end. -/
inductive MC (W : World) : Value → Nat → Option Int → Prop
  | nil : MC W .nilIface 0 none
  | no (n : Int) : MC W (.iface 53 (.int .i64 n)) 1 (some n)
  | at (pb po : Nat) (E : Value) (l : Nat) (c : Option Int) : W.cell? ⟨pb, po + 2, none⟩ = some E → MC W E l c → MC W (.iface 90 (.pointer (some ⟨pb, po, none⟩))) (l + 1) c

theorem MC.uniq {W : World} {E : Value} {l l' : Nat} {c c' : Option Int} (h : MC W E l c) (h' : MC W E l' c') : l = l' := by
  induction h generalizing l' c' with
  | nil => cases h'; rfl
  | no n => cases h'; rfl
  | «at» pb po E l c hc _ ih =>
    cases h' with
    | «at» _ _ E2 l2 c2 hc2 h2 => rw [hc] at hc2; cases hc2; rw [ih h2]
open Classical in
noncomputable def mlen (W : World) (E : Value) : Nat := if h : ∃ l c, MC W E l c then h.choose else 0
theorem mlen_eq {W : World} {E : Value} {l : Nat} {c : Option Int} (h : MC W E l c) : mlen W E = l := by
  unfold mlen
  rw [dif_pos ⟨l, c, h⟩]
  exact MC.uniq (Exists.choose_spec (Exists.choose_spec (show ∃ l c, MC W E l c from ⟨l, c, h⟩))) h

/-- What is laid ahead. -/
def Pin (w : World) : Prop := w.cell? ⟨0, 0, none⟩ = some (.iface 151 (.agg #[.pointer (some ⟨1, 28, none⟩)]))

theorem as_nil (t : Value) (w : World) :
    Calls Tryd.prog 55 #[.nilIface, t] w fun e w' => e = .returned (.bool false) ∧ w' = w := by
  go_enter Tryd.func55, Tryd.ntmps55
  go_wp2
  go_ret
  exact ⟨rfl, rfl⟩

set_option maxHeartbeats 8000000 in
theorem asF_hit (e t : Addr) (old : Value) (w : World) (hg : Pin w) (ht0 : w.cell? t = some old) (hf0 : w.frozen? t = false) :
    Calls Tryd.prog 55 #[.iface 90 (.pointer (some e)), .iface 92 (.pointer (some t))] w fun ev w' => ev = .returned (.bool true) ∧ w' = ((((w.alloc (.cells #[.pointer (some t)] 92)).alloc (.cells #[.pointer (some ⟨1, 92, none⟩), .pointer (some ⟨w.heap.size, 0, none⟩), .int .u64 150] 123)).alloc (.cells #[.pointer (some ⟨1, 92, none⟩), .pointer (some ⟨w.heap.size, 0, none⟩), .int .u64 150] 123)).alloc (.cells #[.pointer (some e)] 90)).setCell t (.pointer (some e)) := by
  unfold Pin at hg
  have h6 := @run_callFunc_extern Tryd.prog 80 _ (fun args => ReflectliteValue.unpack (args.getD 0 (.tuple #[]))) Tryd.func80 (by kernel_rfl) (by kernel_rfl) (by kernel_rfl) (by kernel_rfl)
  have h7 := @run_callFunc_extern Tryd.prog 81 _ (ReflectliteValue.methodAny (ReflectliteValue.valueError "reflectlite.Value.Type" 0) (fun t _ _ _ => ReflectliteType.toType t)) Tryd.func81 (by kernel_rfl) (by kernel_rfl) (by kernel_rfl) (by kernel_rfl)
  have h8 := @run_callFunc_extern Tryd.prog 82 _ (ReflectliteValue.method (ReflectliteValue.valueError "reflectlite.Value.IsNil" 0) ReflectliteValue.isNil) Tryd.func82 (by kernel_rfl) (by kernel_rfl) (by kernel_rfl) (by kernel_rfl)
  have h27 := @run_callFunc_extern Tryd.prog 123 _ (ReflectliteType.abiMethod fun t => do pure (.int .u8 (← Rtype.kind t))) Tryd.func123 (by kernel_rfl) (by kernel_rfl) (by kernel_rfl) (by kernel_rfl)
  have h37 := @run_callFunc_extern Tryd.prog 135 _ (ReflectliteType.method ReflectliteType.elem) Tryd.func135 (by kernel_rfl) (by kernel_rfl) (by kernel_rfl) (by kernel_rfl)
  have h38 := @run_callFunc_extern Tryd.prog 136 _ (ReflectliteType.relation "Implements" ReflectliteType.implements_) Tryd.func136 (by kernel_rfl) (by kernel_rfl) (by kernel_rfl) (by kernel_rfl)
  have h10 := @run_callFunc_extern Tryd.prog 84 _ ReflectliteType.typeOf Tryd.func84 (by kernel_rfl) (by kernel_rfl) (by kernel_rfl) (by kernel_rfl)
  have h35 := @run_callFunc_extern Tryd.prog 133 _ (ReflectliteType.relation "AssignableTo" ReflectliteType.assignableTo) Tryd.func133 (by kernel_rfl) (by kernel_rfl) (by kernel_rfl) (by kernel_rfl)
  have h11 := @run_callFunc_extern Tryd.prog 101 _ (ReflectliteValue.method (ReflectliteValue.valueError "reflectlite.Value.Elem" 0) ReflectliteValue.elem) Tryd.func101 (by kernel_rfl) (by kernel_rfl) (by kernel_rfl) (by kernel_rfl)
  have h12 := @run_callFunc_extern Tryd.prog 102 _ ReflectliteValue.set Tryd.func102 (by kernel_rfl) (by kernel_rfl) (by kernel_rfl) (by kernel_rfl)
  have tO := dto_fp
  have mA := dm_asg
  have a25 := da_ff
  have v25 := dv_fp
  have f6 := dv_fpp
  have f7 := dt_fpp
  have mK := dm_kind
  have mE := dm_elem
  have mI := dm_imp
  have k27 := dk_fpp
  have k25 := dk_fp
  have e27 := de_fpp
  have i25 := di_fp
  have n8 := dn_fpp ⟨w.heap.size, 0, none⟩ t ((w.alloc (.cells #[.pointer (some t)] 92)).alloc (.cells #[.pointer (some ⟨1, 92, none⟩), .pointer (some ⟨w.heap.size, 0, none⟩), .int .u64 150] 123)) (by simp)
  have hlt : 0 < w.heap.size := by
    rcases Nat.eq_zero_or_pos w.heap.size with h0 | h
    · simp [World.cell?, h0] at hg
    · exact h
  have hg2 : ((w.alloc (.cells #[.pointer (some t)] 92)).alloc (.cells #[.pointer (some ⟨1, 92, none⟩), .pointer (some ⟨w.heap.size, 0, none⟩), .int .u64 150] 123)).cell? ⟨0, 0, none⟩ = some (.iface 151 (.agg #[.pointer (some ⟨1, 28, none⟩)])) := by
    rw [World.cell?_alloc_lt _ _ ⟨0, 0, none⟩ (by simp), World.cell?_alloc_lt _ _ ⟨0, 0, none⟩ hlt]; exact hg
  have htl : t.block < w.heap.size := by
    rcases Nat.lt_or_ge t.block w.heap.size with h | h
    · exact h
    · simp [World.cell?, Array.getElem?_eq_none h] at ht0
  have el := del_fpp ⟨w.heap.size, 0, none⟩ t (((w.alloc (.cells #[.pointer (some t)] 92)).alloc (.cells #[.pointer (some ⟨1, 92, none⟩), .pointer (some ⟨w.heap.size, 0, none⟩), .int .u64 150] 123)).alloc (.cells #[.pointer (some ⟨1, 92, none⟩), .pointer (some ⟨w.heap.size, 0, none⟩), .int .u64 150] 123)) (by rw [World.cell?_alloc_lt _ _ ⟨w.heap.size, 0, none⟩ (by simp; omega)]; simp)
  have st := dst_fp t ⟨w.heap.size + 1 + 1 + 1, 0, none⟩ e old ((((w.alloc (.cells #[.pointer (some t)] 92)).alloc (.cells #[.pointer (some ⟨1, 92, none⟩), .pointer (some ⟨w.heap.size, 0, none⟩), .int .u64 150] 123)).alloc (.cells #[.pointer (some ⟨1, 92, none⟩), .pointer (some ⟨w.heap.size, 0, none⟩), .int .u64 150] 123)).alloc (.cells #[.pointer (some e)] 90))
    (by rw [World.cell?_alloc_at _ _ _ _ (by simp)]; rfl)
    (by rw [World.cell?_alloc_lt _ _ t (by simp; omega), World.cell?_alloc_lt _ _ t (by simp; omega), World.cell?_alloc_lt _ _ t (by simp; omega), World.cell?_alloc_lt _ _ t htl]; exact ht0)
    (by rw [World.frozen?_alloc_old _ _ t (by simp; omega), World.frozen?_alloc_old _ _ t (by simp; omega), World.frozen?_alloc_old _ _ t (by simp; omega), World.frozen?_alloc_old _ _ t (Nat.ne_of_lt htl)]; exact hf0)
  go_enter Tryd.func55, Tryd.ntmps55
  go_wp2
  refine wp_loop_rounds 1 ?_
  rw [rounds_succ]
  go_wp2
  go_ret
  exact ⟨rfl, rfl⟩

set_option maxHeartbeats 8000000 in
/-- At a number: no fault. -/
theorem asF_miss (n : Int) (t : Addr) (w : World) (hg : Pin w) :
    Calls Tryd.prog 55 #[.iface 53 (.int .i64 n), .iface 92 (.pointer (some t))] w fun ev w' => ev = .returned (.bool false) ∧ w' = (((w.alloc (.cells #[.pointer (some t)] 92)).alloc (.cells #[.pointer (some ⟨1, 92, none⟩), .pointer (some ⟨w.heap.size, 0, none⟩), .int .u64 150] 123)).alloc (.cells #[.pointer (some ⟨1, 92, none⟩), .pointer (some ⟨w.heap.size, 0, none⟩), .int .u64 150] 123)) := by
  unfold Pin at hg
  have h6 := @run_callFunc_extern Tryd.prog 80 _ (fun args => ReflectliteValue.unpack (args.getD 0 (.tuple #[]))) Tryd.func80 (by kernel_rfl) (by kernel_rfl) (by kernel_rfl) (by kernel_rfl)
  have h7 := @run_callFunc_extern Tryd.prog 81 _ (ReflectliteValue.methodAny (ReflectliteValue.valueError "reflectlite.Value.Type" 0) (fun t _ _ _ => ReflectliteType.toType t)) Tryd.func81 (by kernel_rfl) (by kernel_rfl) (by kernel_rfl) (by kernel_rfl)
  have h8 := @run_callFunc_extern Tryd.prog 82 _ (ReflectliteValue.method (ReflectliteValue.valueError "reflectlite.Value.IsNil" 0) ReflectliteValue.isNil) Tryd.func82 (by kernel_rfl) (by kernel_rfl) (by kernel_rfl) (by kernel_rfl)
  have h27 := @run_callFunc_extern Tryd.prog 123 _ (ReflectliteType.abiMethod fun t => do pure (.int .u8 (← Rtype.kind t))) Tryd.func123 (by kernel_rfl) (by kernel_rfl) (by kernel_rfl) (by kernel_rfl)
  have h37 := @run_callFunc_extern Tryd.prog 135 _ (ReflectliteType.method ReflectliteType.elem) Tryd.func135 (by kernel_rfl) (by kernel_rfl) (by kernel_rfl) (by kernel_rfl)
  have h38 := @run_callFunc_extern Tryd.prog 136 _ (ReflectliteType.relation "Implements" ReflectliteType.implements_) Tryd.func136 (by kernel_rfl) (by kernel_rfl) (by kernel_rfl) (by kernel_rfl)
  have h10 := @run_callFunc_extern Tryd.prog 84 _ ReflectliteType.typeOf Tryd.func84 (by kernel_rfl) (by kernel_rfl) (by kernel_rfl) (by kernel_rfl)
  have h35 := @run_callFunc_extern Tryd.prog 133 _ (ReflectliteType.relation "AssignableTo" ReflectliteType.assignableTo) Tryd.func133 (by kernel_rfl) (by kernel_rfl) (by kernel_rfl) (by kernel_rfl)
  have tO := dto_no
  have mA := dm_asg
  have a25 := da_nf
  have x1 := dx_asN
  have x2 := dx_unN
  have x3 := dx_unsN
  have f6 := dv_fpp
  have f7 := dt_fpp
  have mK := dm_kind
  have mE := dm_elem
  have mI := dm_imp
  have k27 := dk_fpp
  have k25 := dk_fp
  have e27 := de_fpp
  have i25 := di_fp
  have n8 := dn_fpp ⟨w.heap.size, 0, none⟩ t ((w.alloc (.cells #[.pointer (some t)] 92)).alloc (.cells #[.pointer (some ⟨1, 92, none⟩), .pointer (some ⟨w.heap.size, 0, none⟩), .int .u64 150] 123)) (by simp)
  have hlt : 0 < w.heap.size := by
    rcases Nat.eq_zero_or_pos w.heap.size with h0 | h
    · simp [World.cell?, h0] at hg
    · exact h
  have hg2 : ((w.alloc (.cells #[.pointer (some t)] 92)).alloc (.cells #[.pointer (some ⟨1, 92, none⟩), .pointer (some ⟨w.heap.size, 0, none⟩), .int .u64 150] 123)).cell? ⟨0, 0, none⟩ = some (.iface 151 (.agg #[.pointer (some ⟨1, 28, none⟩)])) := by
    rw [World.cell?_alloc_lt _ _ ⟨0, 0, none⟩ (by simp), World.cell?_alloc_lt _ _ ⟨0, 0, none⟩ hlt]; exact hg
  go_enter Tryd.func55, Tryd.ntmps55
  go_wp2
  refine wp_loop_rounds 1 ?_
  rw [rounds_succ]
  go_wp2
  go_ret
  exact ⟨rfl, rfl⟩

end Go.Proofs.YtjfplpkmbijfpaaDoor

/-! (DrC) -/

set_option linter.unusedVariables false
set_option linter.unusedSimpArgs false
namespace Go.Proofs.YtjfplpkmbijfpaaDoor
open Go.RowKit Go.Extern.Stop Go.Stop Go.Extern

theorem run_equalIn_num (w : World) (d : Nat) {ti tn : TypeId} {ms : Array (String × TypeId)} {i : TypeInfo} {k : IntKind} (a b : Int)
    (hi : Tryd.prog.underlying ti = some (.interface ms)) (hn : Tryd.prog.underlying tn = some (.int k)) (hinfo : Tryd.prog.info? tn = some i) (hcomp : i.comparable = true) :
    (Op.equalIn (d + 2) ti (.iface tn (.int k a)) (.iface tn (.int k b))).run Tryd.prog w = .ok (a == b) w := by
  simp [Op.equalIn, run_underlying hi, run_underlying hn, typeInfo, hinfo, hcomp]
theorem run_eql_num (w : World) {ti tn : TypeId} {ms : Array (String × TypeId)} {i : TypeInfo} {k : IntKind} (a b : Int)
    (hi : Tryd.prog.underlying ti = some (.interface ms)) (hn : Tryd.prog.underlying tn = some (.int k)) (hinfo : Tryd.prog.info? tn = some i) (hcomp : i.comparable = true) :
    (binOp .eql ti (.iface tn (.int k a)) (.iface tn (.int k b))).run Tryd.prog w = .ok (.bool (a == b)) w := by
  simp only [binOp]
  simp [Op.equal, Op.maxDepth, run_equalIn_num w 9998 a b hi hn hinfo hcomp]
theorem d_comp : (Tryd.prog.info? 53).map (·.comparable) = some true := by kernel_rfl

set_option maxHeartbeats 8000000 in
set_option maxRecDepth 1000000 in
theorem is_loop {W : World} (m : Int) (E : Value) (l : Nat) (c : Option Int) (hch : MC W E l c) (hne : E ≠ .nilIface) :
    Calls Tryd.prog 85 #[E, .iface 53 (.int .i64 m), .bool true] W fun e w' => e = .returned (.bool (decide (c = some m))) ∧ w' = W := by
  obtain ⟨i, hi, hcmp⟩ := Option.map_eq_some_iff.1 d_comp
  have nF := dx_isF
  have nN := dx_isN
  have uF := dx_unF
  have uN := dx_unN
  have vN := dx_unsN
  have mU := dm_un
  go_enter Tryd.func85, Tryd.ntmps85
  go_wp2
  go_loopw [0] (fun E' wl => wl = W ∧ E' ≠ .nilIface ∧ ∃ l', MC W E' l' c) (fun E' _ => mlen W E')
  case atStart => exact ⟨rfl, hne, l, hch⟩
  case round =>
    obtain ⟨rfl, hne', l', hc'⟩ := hrel
    cases hc' with
    | nil => exact absurd rfl hne'
    | no n =>
      have heq := run_eql_num wr (ti := 28) n m Tryd.underlying28 Tryd.underlying53 hi hcmp
      by_cases hnm : n = m
      · subst hnm
        simp at heq
        go_wp2
        go_ret
        exact ⟨by simp, rfl⟩
      · have hb : (n == m) = false := by simpa using hnm
        rw [hb] at heq
        go_wp2
        go_ret
        exact ⟨by simp [hnm], rfl⟩
    | «at» pb po E1 l1 _ hcell h1 =>
      have hty := run_eql_iface_types (P := Tryd.prog) 90 53 (.pointer (some ⟨pb, po, none⟩)) (.int .i64 m) Tryd.underlying28 (by decide) wr
      have hlen := mlen_eq h1
      have hlen0 := mlen_eq (MC.at pb po E1 l1 c hcell h1)
      cases h1 with
      | nil =>
        go_wp2
        go_ret
        exact ⟨by simp, rfl⟩
      | no n =>
        go_wp2
        go_roundw
        case rel => exact ⟨trivial, by simp, _, .no n⟩
        case measure =>
          show mlen wr (.iface 53 (.int .i64 n)) < _
          rw [hlen, hlen0]; simp
      | «at» pb2 po2 E2 l2 _ hcell2 h2 =>
        have HC : Hid (MC wr (.iface 90 (.pointer (some ⟨pb2, po2, none⟩))) (l2 + 1) c) := MC.at pb2 po2 E2 l2 c hcell2 h2
        clear h2
        go_wp2
        go_roundw
        case rel => exact ⟨trivial, by simp, _, HC.out⟩
        case measure =>
          show mlen wr (.iface 90 (.pointer (some ⟨pb2, po2, none⟩))) < _
          rw [hlen, hlen0]; simp

end Go.Proofs.YtjfplpkmbijfpaaDoor

/-! (DrD) -/

set_option linter.unusedVariables false
set_option linter.unusedSimpArgs false
namespace Go.Proofs.YtjfplpkmbijfpaaDoor
open Go.RowKit Go.Extern.Stop Go.Stop Go.Extern

theorem cell_lt {W : World} {a : Addr} {v : Value} (h : W.cell? a = some v) : a.block < W.heap.size := by
  rcases Nat.lt_or_ge a.block W.heap.size with h1 | h1
  · exact h1
  · simp [World.cell?, Array.getElem?_eq_none h1] at h
theorem MC.alloc {W : World} {E : Value} {l : Nat} {c : Option Int} (h : MC W E l c) (o : Obj) : MC (W.alloc o) E l c := by
  induction h with
  | nil => exact .nil
  | no n => exact .no n
  | «at» pb po E l c hc _ ih => exact .at pb po E l c (by rw [World.cell?_alloc_lt _ _ ⟨pb, po + 2, none⟩ (cell_lt hc)]; exact hc) ih

/-- What is left of a world when a number has been looked for. -/
def asLeft (W : World) (t : Addr) : Option Int → World
  | some n => (W.alloc (.cells #[.int .i64 n] 53)).setCell t (.int .i64 n)
  | none => W

set_option maxHeartbeats 8000000 in
set_option maxRecDepth 1000000 in
theorem as_loop {W : World} (vb t : Addr) (old : Value) (E : Value) (l : Nat) (c : Option Int) (hch : MC W E l c) (hne : E ≠ .nilIface)
    (hv : W.cell? vb = some (.pointer (some t))) (ht : W.cell? t = some old) (hf : W.frozen? t = false) :
    Calls Tryd.prog 83 #[E, .iface 95 (.pointer (some t)), .agg #[.pointer (some ⟨1, 95, none⟩), .pointer (some vb), .int .u64 150], .iface 151 (.agg #[.pointer (some ⟨1, 53, none⟩)])] W
      fun e w' => e = .returned (.bool c.isSome) ∧ w' = asLeft (W.alloc (.cells #[.pointer (some ⟨1, 95, none⟩), .pointer (some vb), .int .u64 150] 123)) t c := by
  have h6 := @run_callFunc_extern Tryd.prog 80 _ (fun args => ReflectliteValue.unpack (args.getD 0 (.tuple #[]))) Tryd.func80 (by kernel_rfl) (by kernel_rfl) (by kernel_rfl) (by kernel_rfl)
  have h10 := @run_callFunc_extern Tryd.prog 84 _ ReflectliteType.typeOf Tryd.func84 (by kernel_rfl) (by kernel_rfl) (by kernel_rfl) (by kernel_rfl)
  have h35 := @run_callFunc_extern Tryd.prog 133 _ (ReflectliteType.relation "AssignableTo" ReflectliteType.assignableTo) Tryd.func133 (by kernel_rfl) (by kernel_rfl) (by kernel_rfl) (by kernel_rfl)
  have h11 := @run_callFunc_extern Tryd.prog 101 _ (ReflectliteValue.method (ReflectliteValue.valueError "reflectlite.Value.Elem" 0) ReflectliteValue.elem) Tryd.func101 (by kernel_rfl) (by kernel_rfl) (by kernel_rfl) (by kernel_rfl)
  have h12 := @run_callFunc_extern Tryd.prog 102 _ ReflectliteValue.set Tryd.func102 (by kernel_rfl) (by kernel_rfl) (by kernel_rfl) (by kernel_rfl)
  have tN := dto_no
  have tF := dto_fp
  have mA := dm_asg
  have aN := da_nn
  have aF := da_fn
  have v25 := dv_no
  have x1 := dx_asN
  have x2 := dx_asF
  have x3 := dx_unF
  have x4 := dx_unN
  have x5 := dx_unsN
  have mU := dm_un
  have hvl := cell_lt hv
  have htl := cell_lt ht
  have el := del_np vb t (W.alloc (.cells #[.pointer (some ⟨1, 95, none⟩), .pointer (some vb), .int .u64 150] 123)) (by rw [World.cell?_alloc_lt _ _ vb hvl]; exact hv)
  go_enter Tryd.func83, Tryd.ntmps83
  go_wp2
  go_loopw [0] (fun E' wl => wl = W.alloc (.cells #[.pointer (some ⟨1, 95, none⟩), .pointer (some vb), .int .u64 150] 123) ∧ E' ≠ .nilIface ∧ ∃ l', MC (W.alloc (.cells #[.pointer (some ⟨1, 95, none⟩), .pointer (some vb), .int .u64 150] 123)) E' l' c) (fun E' _ => mlen (W.alloc (.cells #[.pointer (some ⟨1, 95, none⟩), .pointer (some vb), .int .u64 150] 123)) E')
  case atStart => exact ⟨rfl, hne, l, hch.alloc _⟩
  case round =>
    obtain ⟨rfl, hne', l', hc'⟩ := hrel
    cases hc' with
    | nil => exact absurd rfl hne'
    | no n =>
      have st := dst_no t ⟨W.heap.size + 1, 0, none⟩ n old ((W.alloc (.cells #[.pointer (some ⟨1, 95, none⟩), .pointer (some vb), .int .u64 150] 123)).alloc (.cells #[.int .i64 n] 53))
        (by rw [World.cell?_alloc_at _ _ _ _ (by simp)]; rfl)
        (by rw [World.cell?_alloc_lt _ _ t (by simp; omega), World.cell?_alloc_lt _ _ t htl]; exact ht)
        (by rw [World.frozen?_alloc_old _ _ t (by simp; omega), World.frozen?_alloc_old _ _ t (Nat.ne_of_lt htl)]; exact hf)
      go_wp2
      go_ret
      exact ⟨rfl, rfl⟩
    | «at» pb po E1 l1 _ hcell h1 =>
      have hlen := mlen_eq h1
      have hlen0 := mlen_eq (MC.at pb po E1 l1 c hcell h1)
      cases h1 with
      | nil =>
        go_wp2
        go_ret
        exact ⟨rfl, rfl⟩
      | no n =>
        go_wp2
        go_roundw
        case rel => exact ⟨trivial, by simp, _, .no n⟩
        case measure =>
          show mlen _ (.iface 53 (.int .i64 n)) < _
          rw [hlen, hlen0]; simp
      | «at» pb2 po2 E2 l2 _ hcell2 h2 =>
        have HC : Hid (MC (W.alloc (.cells #[.pointer (some ⟨1, 95, none⟩), .pointer (some vb), .int .u64 150] 123)) (.iface 90 (.pointer (some ⟨pb2, po2, none⟩))) (l2 + 1) c) := MC.at pb2 po2 E2 l2 c hcell2 h2
        clear h2
        go_wp2
        go_roundw
        case rel => exact ⟨trivial, by simp, _, HC.out⟩
        case measure =>
          show mlen _ (.iface 90 (.pointer (some ⟨pb2, po2, none⟩))) < _
          rw [hlen, hlen0]; simp

end Go.Proofs.YtjfplpkmbijfpaaDoor

/-! (DrE) -/

set_option linter.unusedVariables false
set_option linter.unusedSimpArgs false
namespace Go.Proofs.YtjfplpkmbijfpaaDoor
open Go.RowKit Go.Extern.Stop Go.Stop Go.Extern

theorem MC.form {W : World} {E : Value} {l : Nat} {c : Option Int} (h : MC W E l c) (hne : E ≠ .nilIface) : ∃ t v, E = .iface t v := by
  cases h with
  | nil => exact absurd rfl hne
  | no n => exact ⟨_, _, rfl⟩
  | «at» pb po E l c hc _ => exact ⟨_, _, rfl⟩

/-- The world in which the error's links are looked at. -/
def asAt (w : World) (t : Addr) : World :=
  (w.alloc (.cells #[.pointer (some t)] 95)).alloc (.cells #[.pointer (some ⟨1, 95, none⟩), .pointer (some ⟨w.heap.size, 0, none⟩), .int .u64 150] 123)

set_option maxHeartbeats 8000000 in
theorem asN (t : Addr) (old : Value) (w : World) (E : Value) (l : Nat) (c : Option Int) (hch : MC w E l c) (hne : E ≠ .nilIface) (hg : Pin w) (ht0 : w.cell? t = some old) (hf0 : w.frozen? t = false) :
    Calls Tryd.prog 55 #[E, .iface 95 (.pointer (some t))] w fun ev w' => ev = .returned (.bool c.isSome) ∧ w' = asLeft ((asAt w t).alloc (.cells #[.pointer (some ⟨1, 95, none⟩), .pointer (some ⟨w.heap.size, 0, none⟩), .int .u64 150] 123)) t c := by
  unfold Pin at hg
  have h6 := @run_callFunc_extern Tryd.prog 80 _ (fun args => ReflectliteValue.unpack (args.getD 0 (.tuple #[]))) Tryd.func80 (by kernel_rfl) (by kernel_rfl) (by kernel_rfl) (by kernel_rfl)
  have h7 := @run_callFunc_extern Tryd.prog 81 _ (ReflectliteValue.methodAny (ReflectliteValue.valueError "reflectlite.Value.Type" 0) (fun t _ _ _ => ReflectliteType.toType t)) Tryd.func81 (by kernel_rfl) (by kernel_rfl) (by kernel_rfl) (by kernel_rfl)
  have h8 := @run_callFunc_extern Tryd.prog 82 _ (ReflectliteValue.method (ReflectliteValue.valueError "reflectlite.Value.IsNil" 0) ReflectliteValue.isNil) Tryd.func82 (by kernel_rfl) (by kernel_rfl) (by kernel_rfl) (by kernel_rfl)
  have h27 := @run_callFunc_extern Tryd.prog 123 _ (ReflectliteType.abiMethod fun t => do pure (.int .u8 (← Rtype.kind t))) Tryd.func123 (by kernel_rfl) (by kernel_rfl) (by kernel_rfl) (by kernel_rfl)
  have h37 := @run_callFunc_extern Tryd.prog 135 _ (ReflectliteType.method ReflectliteType.elem) Tryd.func135 (by kernel_rfl) (by kernel_rfl) (by kernel_rfl) (by kernel_rfl)
  have h38 := @run_callFunc_extern Tryd.prog 136 _ (ReflectliteType.relation "Implements" ReflectliteType.implements_) Tryd.func136 (by kernel_rfl) (by kernel_rfl) (by kernel_rfl) (by kernel_rfl)
  have f6 := dv_np
  have f7 := dt_np
  have mK := dm_kind
  have mE := dm_elem
  have mI := dm_imp
  have k27 := dk_np
  have k25 := dk_no
  have e27 := de_np
  have i25 := di_no
  have n8 := dn_np ⟨w.heap.size, 0, none⟩ t ((w.alloc (.cells #[.pointer (some t)] 95)).alloc (.cells #[.pointer (some ⟨1, 95, none⟩), .pointer (some ⟨w.heap.size, 0, none⟩), .int .u64 150] 123)) (by simp)
  have hlt := cell_lt hg
  have htl := cell_lt ht0
  have hg2 : ((w.alloc (.cells #[.pointer (some t)] 95)).alloc (.cells #[.pointer (some ⟨1, 95, none⟩), .pointer (some ⟨w.heap.size, 0, none⟩), .int .u64 150] 123)).cell? ⟨0, 0, none⟩ = some (.iface 151 (.agg #[.pointer (some ⟨1, 28, none⟩)])) := by
    rw [World.cell?_alloc_lt _ _ ⟨0, 0, none⟩ (by simp), World.cell?_alloc_lt _ _ ⟨0, 0, none⟩ hlt]; exact hg
  have hch2 := (hch.alloc (.cells #[.pointer (some t)] 95)).alloc (.cells #[.pointer (some ⟨1, 95, none⟩), .pointer (some ⟨w.heap.size, 0, none⟩), .int .u64 150] 123)
  have al := as_loop ⟨w.heap.size, 0, none⟩ t old E l c hch2 hne
    (by rw [World.cell?_alloc_lt _ _ ⟨w.heap.size, 0, none⟩ (by simp)]; simp)
    (by rw [World.cell?_alloc_lt _ _ t (by simp; omega), World.cell?_alloc_lt _ _ t htl]; exact ht0)
    (by rw [World.frozen?_alloc_old _ _ t (by simp; omega), World.frozen?_alloc_old _ _ t (Nat.ne_of_lt htl)]; exact hf0)
  obtain ⟨T, v, rfl⟩ := hch.form hne
  clear hch hch2 hne
  go_enter Tryd.func55, Tryd.ntmps55
  go_wp2_with (go_at_call 83; refine al.mono ?_; rintro e w' ⟨rfl, rfl⟩)
  go_ret
  exact ⟨rfl, rfl⟩

theorem d_cmp1 (w : World) : (ReflectliteType.method (fun t => do Rtype.noPackHeld "Comparable" t; pure (.bool (← typeInfo t).comparable)) #[.agg #[.pointer (some ⟨1, 53, none⟩)]]).run Tryd.prog w = .ok (.bool true) w := by kernel_rfl
theorem d_cmp (w : World) : (callFunc 134 #[.agg #[.pointer (some ⟨1, 53, none⟩)]]).run Tryd.prog w = .ok (.value (.bool true)) w := by
  rw [@run_callFunc_extern Tryd.prog 134 _ (ReflectliteType.method fun t => do Rtype.noPackHeld "Comparable" t; pure (.bool (← typeInfo t).comparable)) Tryd.func134 (by kernel_rfl) (by kernel_rfl) (by kernel_rfl) (by kernel_rfl), d_cmp1]
  rfl
set_option maxHeartbeats 8000000 in
theorem isN (m : Int) (w : World) (E : Value) (l : Nat) (c : Option Int) (hch : MC w E l c) (hne : E ≠ .nilIface) :
    Calls Tryd.prog 56 #[E, .iface 53 (.int .i64 m)] w fun ev w' => ev = .returned (.bool (decide (c = some m))) ∧ w' = w := by
  have h8 := @run_callFunc_extern Tryd.prog 84 _ ReflectliteType.typeOf Tryd.func84 (by kernel_rfl) (by kernel_rfl) (by kernel_rfl) (by kernel_rfl)
  have h32 := d_cmp
  have tT := dto_no
  have mR := dm_cmp
  have al := is_loop m E l c hch hne
  obtain ⟨T, v, rfl⟩ := hch.form hne
  clear hch hne
  go_enter Tryd.func56, Tryd.ntmps56
  go_wp2_with (go_at_call 85; refine al.mono ?_; rintro e w' ⟨rfl, rfl⟩)
  go_ret
  exact ⟨rfl, rfl⟩
theorem is_nil (m : Int) (w : World) :
    Calls Tryd.prog 56 #[.nilIface, .iface 53 (.int .i64 m)] w fun e w' => e = .returned (.bool false) ∧ w' = w := by
  have hn := run_eql_iface_nil_left (P := Tryd.prog) w 53 (.int .i64 m) Tryd.underlying28
  go_enter Tryd.func56, Tryd.ntmps56
  go_wp2
  go_ret
  exact ⟨rfl, rfl⟩

end Go.Proofs.YtjfplpkmbijfpaaDoor

/-! (DrF) -/

set_option linter.unusedVariables false
set_option linter.unusedSimpArgs false
namespace Go.Vd
open Go.Proofs Go.Proofs.YtjfplpkmbijfpaaDoor

/-! ### Memory of the machine's own -/
theorem Rel.junk {μ : Mu} {H : AH} {w : World} (h : Rel μ H w) (o : Obj) : Rel μ H (w.alloc o) := by
  have hk : Keep μ μ H H w (w.alloc o) := ⟨.refl μ, Nat.le_refl _, rfl, rfl, rfl, Nat.le_refl _, by rw [alloc_size]; omega, fun k hk _ => by rw [alloc_get, if_neg (by omega)], fun _ _ h => ⟨h, .inl rfl⟩, fun _ _ h => h, fun b p h h0 => by rw [h0] at h; cases h⟩
  refine ⟨fun b p e => ⟨(h.lt b p e).1, ?_⟩, fun b p e => ?_, h.apart, h.fresh, h.pin.keep hk⟩
  · rw [alloc_size]; have := (h.lt b p e).2; omega
  · obtain ⟨ob, g1, g2⟩ := h.ok b p e
    exact ⟨ob, g1, g2.congr (.refl _) (by rw [alloc_get, if_neg (by have := (h.lt b p e).2; omega)])⟩
theorem Keep.junk (μ : Mu) (H : AH) (w : World) (o : Obj) : Keep μ μ H H w (w.alloc o) :=
  ⟨.refl μ, Nat.le_refl _, rfl, rfl, rfl, Nat.le_refl _, by rw [alloc_size]; omega, fun k hk _ => by rw [alloc_get, if_neg (by omega)], fun _ _ h => ⟨h, .inl rfl⟩, fun _ _ h => h, fun b p h h0 => by rw [h0] at h; cases h⟩

theorem Rel.look {μ : Mu} {H : AH} {w : World} (h : Rel μ H w) {b : Nat} {x : Value} {cs : List Value} {p : Pl} (hb : μ b = some p) (hr : Row H b (x :: cs)) :
    ∃ old, w.cell? ⟨p.blk, p.off, none⟩ = some old ∧ w.frozen? ⟨p.blk, p.off, none⟩ = false := by
  obtain ⟨ob, g1, g2⟩ := h.ok b p hb
  rw [hr.row] at g1; cases g1
  obtain ⟨⟨c, ty, fr, k1, k2, k3, k4⟩, k5, k6⟩ := g2
  obtain ⟨v', a, r⟩ := k4 0 x rfl
  have hfr := k3 (by simp)
  subst hfr
  exact ⟨v', by simp [World.cell?, k1]; simpa using a, by simp [World.frozen?, k1]⟩

theorem Rel.set0 {μ : Mu} {H : AH} {w : World} (h : Rel μ H w) (hw : WF H) {b : Nat} {x v v' : Value} {p : Pl} (hb : μ b = some p) (hr : Row H b [x]) (hv : VRel μ v v') (h1 : v.oneCell' = true) :
    ∃ H', FrS [b] H H' ∧ Row H' b [v] ∧ Rel μ H' (w.setCell ⟨p.blk, p.off, none⟩ v') ∧ Keep μ μ H H' w (w.setCell ⟨p.blk, p.off, none⟩ v') := by
  obtain ⟨H', g1, g2, g3, g4⟩ := hr.put (vs := [v]) (o := 0) hw (by simp)
  obtain ⟨w', e1, e2, e3⟩ := h.puts hb g1 (vs' := [v']) (.cons hv .nil) (fun y hy => by rw [List.mem_singleton.1 hy]; exact h1) Tryd.prog
  obtain ⟨old, c1, c2⟩ := h.look hb hr
  have hs : (storeCells ⟨p.blk, p.off + 0, none⟩ [v']).run Tryd.prog w = .ok () (w.setCell ⟨p.blk, p.off, none⟩ v') := by
    simp only [storeCells, Nat.add_zero, Sem.run_bind]
    rw [run_store Tryd.prog w _ v' _ (by rw [hv.one]; exact h1), show (Addr.add ⟨p.blk, p.off, none⟩ 0) = (⟨p.blk, p.off, none⟩ : Addr) from by simp [Addr.add], c1]
    simp [c2, Result.andThen]
  rw [hs] at e1
  cases e1
  exact ⟨H', g2.frS (List.mem_singleton.2 rfl), by simpa [splice] using g3, e2, e3⟩

theorem Rel.pinned {μ : Mu} {H : AH} {w : World} (h : Rel μ H w) : Pin w := by
  obtain ⟨⟨c, ty, fr, h1, h2⟩, _⟩ := h.pin _ rfl
  simp [Pin, World.cell?, h1, h2]

/-! ### Errors -/
theorem ErvF.mc {μ : Mu} {H : AH} {w : World} (h : Rel μ H w) : ∀ {e : Er} {v v' : Value} {fp : Fp}, ErvF 53 90 H v e fp → VRel μ v v' → ∃ l, MC w v' l e.num := by
  intro e
  induction e with
  | nil => intro v v' fp hv hr; cases hv; cases hr; exact ⟨_, .nil⟩
  | no n => intro v v' fp hv hr; cases hv; cases hr with | iface _ _ _ r => cases r; exact ⟨_, .no n⟩
  | «at» k i e ih =>
    intro v v' fp hv hr
    obtain ⟨b, u, rfl, h2, h3, h4⟩ := hv
    cases hr with
    | iface _ _ _ r =>
      cases r with
      | ptr _ _ p hb =>
        obtain ⟨u', c1, c2, _⟩ := h.cell (b := b) (o := 2) (v := u) hb (by simp [AH.cell, h3.row])
        obtain ⟨l, hl⟩ := ih h4 c2
        exact ⟨l + 1, .at p.blk (p.off + 0) u' l e.num (by simpa using c1) hl⟩
theorem ErvF.nn {μ : Mu} {H : AH} {e : Er} {v v' : Value} {fp : Fp} (h : ErvF 53 90 H v e fp) (hr : VRel μ v v') (hn : e ≠ .nil) : v' ≠ .nilIface := by
  cases e with
  | nil => exact absurd rfl hn
  | no n => cases h; cases hr; simp
  | «at» k i e => obtain ⟨b, u, rfl, _⟩ := h; cases hr; simp

theorem two {μ : Mu} {a b : Value} {args' : Array Value} (h : ARel μ #[a, b] args') : ∃ a' b', args' = #[a', b'] ∧ VRel μ a a' ∧ VRel μ b b' := by
  have hl := ARel.toList.1 h
  obtain ⟨h1, h2⟩ := hl
  match args', h1, h2 with
  | ⟨[x, y]⟩, _, h2 => exact ⟨x, y, rfl, h2 0 a x rfl rfl, h2 1 b y rfl rfl⟩

theorem iptr {μ : Mu} {t : TypeId} {b : Nat} {v' : Value} (h : VRel μ (.iface t (.pointer (some ⟨b, 0, none⟩))) v') : ∃ p, μ b = some p ∧ v' = .iface t (.pointer (some ⟨p.blk, p.off, none⟩)) := by
  cases h with
  | iface _ _ _ r => cases r with | ptr _ _ p hb => exact ⟨p, hb, by simp⟩

theorem a_as_nil {H : AH} {t : Value} : ACalls Tryd.prog 55 #[.nilIface, t] H fun v H' => v = .bool false ∧ H = H' := by
  intro μ w args' hr ha
  obtain ⟨x, y, rfl, hx, hy⟩ := two ha
  cases hx
  refine (as_nil y w).mono ?_
  rintro _ _ ⟨rfl, rfl⟩
  exact ⟨_, _, H, μ, rfl, ⟨rfl, rfl⟩, .bool _, hr, .refl _ _ _⟩

theorem a_asF_at {H : AH} (hw : WF H) {tb : Nat} {x hd : Value} {e : Er} {fp : Fp} (hrow : Row H tb [x]) (hd1 : Dj [tb] fp) (ev : Ev 53 90 H hd e fp) (h : e.isAt = true) :
    ACalls Tryd.prog 55 #[hd, .iface 92 (.pointer (some ⟨tb, 0, none⟩))] H fun v H' => v = .bool true ∧ FrS [tb] H H' ∧
      ∃ b u, hd = .iface 90 (.pointer (some ⟨b, 0, none⟩)) ∧ (∀ H0, Inn fp H0 [b]) ∧ Row H' tb [.pointer (some ⟨b, 0, none⟩)] ∧ Row H' b [.int .i64 e.fk, .int .i64 e.fi, u] ∧ Ev 53 90 H' u e.fe fp := by
  intro μ w args' hr ha
  obtain ⟨x', y', rfl, hx, hy⟩ := two ha
  have ev0 := ev
  obtain ⟨hlt, hv⟩ := ev
  cases e with
  | nil => cases h
  | no n => cases h
  | «at» k i e =>
    obtain ⟨b, u, rfl, hb, hrow2, hu⟩ := hv
    obtain ⟨p, hp, rfl⟩ := iptr hx
    obtain ⟨q, hq, rfl⟩ := iptr hy
    obtain ⟨old, c1, c2⟩ := hr.look hq hrow
    refine (asF_hit ⟨p.blk, p.off, none⟩ ⟨q.blk, q.off, none⟩ old w hr.pinned c1 c2).mono ?_
    rintro _ _ ⟨rfl, rfl⟩
    have hptr : VRel μ (.pointer (some ⟨b, 0, none⟩)) (.pointer (some ⟨p.blk, p.off, none⟩)) := by simpa using VRel.ptr b 0 p hp
    obtain ⟨H', f1, f2, f3, f4⟩ := ((((hr.junk _).junk _).junk _).junk _).set0 hw hq hrow hptr rfl
    refine ⟨_, _, H', μ, rfl, ⟨rfl, f1, b, u, rfl, fun H0 t ht => .inl (by rw [List.mem_singleton.1 ht]; exact hb), f2, hrow2.frS f1 (fun t ht hm => hd1 t ht (by rw [List.mem_singleton.1 hm]; exact hb)), ⟨hlt.fr f1, hu.fr f1 hd1⟩⟩, .bool _, f3, ?_⟩
    exact ((((Keep.junk _ _ _ _).trans (Keep.junk _ _ _ _)).trans (Keep.junk _ _ _ _)).trans (Keep.junk _ _ _ _)).trans f4

theorem a_asF_no {H : AH} {tb : Nat} {x hd : Value} {e : Er} {fp : Fp} (hrow : Row H tb [x]) (ev : Ev 53 90 H hd e fp) (h : ¬ e.isAt = true) :
    ACalls Tryd.prog 55 #[hd, .iface 92 (.pointer (some ⟨tb, 0, none⟩))] H fun v H' => v = .bool false ∧ H = H' := by
  intro μ w args' hr ha
  obtain ⟨x', y', rfl, hx, hy⟩ := two ha
  obtain ⟨hlt, hv⟩ := ev
  cases e with
  | nil =>
    cases hv; cases hx
    refine (as_nil y' w).mono ?_
    rintro _ _ ⟨rfl, rfl⟩
    exact ⟨_, _, H, μ, rfl, ⟨rfl, rfl⟩, .bool _, hr, .refl _ _ _⟩
  | no n =>
    cases hv
    cases hx with
    | iface _ _ _ r =>
      cases r
      obtain ⟨q, hq, rfl⟩ := iptr hy
      refine (asF_miss n ⟨q.blk, q.off, none⟩ w hr.pinned).mono ?_
      rintro _ _ ⟨rfl, rfl⟩
      exact ⟨_, _, H, μ, rfl, ⟨rfl, rfl⟩, .bool _, ((hr.junk _).junk _).junk _, ((Keep.junk _ _ _ _).trans (Keep.junk _ _ _ _)).trans (Keep.junk _ _ _ _)⟩
  | «at» k i e => exact absurd rfl h

theorem a_asN {H : AH} (hw : WF H) {tb : Nat} {x hd : Value} {e : Er} {fp : Fp} (hrow : Row H tb [x]) (ev : Ev 53 90 H hd e fp) (hn : e ≠ .nil) :
    ACalls Tryd.prog 55 #[hd, .iface 95 (.pointer (some ⟨tb, 0, none⟩))] H fun v H' => v = .bool e.num.isSome ∧ FrS [tb] H H' ∧ Row H' tb [match e.num with | some n => .int .i64 n | none => x] := by
  intro μ w args' hr ha
  obtain ⟨x', y', rfl, hx, hy⟩ := two ha
  obtain ⟨hlt, hv⟩ := ev
  obtain ⟨l, hm⟩ := hv.mc hr hx
  have hne := hv.nn hx hn
  obtain ⟨q, hq, rfl⟩ := iptr hy
  obtain ⟨old, c1, c2⟩ := hr.look hq hrow
  refine (asN ⟨q.blk, q.off, none⟩ old w x' l e.num hm hne hr.pinned c1 c2).mono ?_
  rintro _ _ ⟨rfl, rfl⟩
  have k3 := ((Keep.junk μ H w (.cells #[.pointer (some ⟨q.blk, q.off, none⟩)] 95)).trans (Keep.junk _ _ _ (.cells #[.pointer (some ⟨1, 95, none⟩), .pointer (some ⟨w.heap.size, 0, none⟩), .int .u64 150] 123))).trans (Keep.junk _ _ _ (.cells #[.pointer (some ⟨1, 95, none⟩), .pointer (some ⟨w.heap.size, 0, none⟩), .int .u64 150] 123))
  have r3 := ((hr.junk (.cells #[.pointer (some ⟨q.blk, q.off, none⟩)] 95)).junk (.cells #[.pointer (some ⟨1, 95, none⟩), .pointer (some ⟨w.heap.size, 0, none⟩), .int .u64 150] 123)).junk (.cells #[.pointer (some ⟨1, 95, none⟩), .pointer (some ⟨w.heap.size, 0, none⟩), .int .u64 150] 123)
  cases hc : e.num with
  | none => exact ⟨_, _, H, μ, rfl, ⟨rfl, .refl hw, hrow⟩, .bool _, r3, k3⟩
  | some n =>
    obtain ⟨H', f1, f2, f3, f4⟩ := (r3.junk (.cells #[.int .i64 n] 53)).set0 hw hq hrow (VRel.int .i64 n) rfl
    exact ⟨_, _, H', μ, rfl, ⟨rfl, f1, f2⟩, .bool _, f3, (k3.trans (Keep.junk _ _ _ _)).trans f4⟩

theorem a_isN {H : AH} {m : Int} {hd : Value} {e : Er} {fp : Fp} (ev : Ev 53 90 H hd e fp) (hn : e ≠ .nil) :
    ACalls Tryd.prog 56 #[hd, .iface 53 (.int .i64 m)] H fun v H' => v = .bool (decide (e.num = some m)) ∧ H = H' := by
  intro μ w args' hr ha
  obtain ⟨x', y', rfl, hx, hy⟩ := two ha
  obtain ⟨hlt, hv⟩ := ev
  obtain ⟨l, hm⟩ := hv.mc hr hx
  cases hy with
  | iface _ _ _ r =>
    cases r
    refine (isN m w x' l e.num hm (hv.nn hx hn)).mono ?_
    rintro _ _ ⟨rfl, rfl⟩
    exact ⟨_, _, H, μ, rfl, ⟨rfl, rfl⟩, .bool _, hr, .refl _ _ _⟩

end Go.Vd

/-! (DrG) -/

set_option linter.unusedVariables false
set_option linter.unusedSimpArgs false
set_option maxHeartbeats 4000000
set_option maxRecDepth 100000
namespace Go.Vd
open Go.Proofs Go.Proofs.YtjfplpkmbijfpaaDoor
theorem pr_pureX {α : Type} (P : Program) (a : α) : pr P (pure a : Sem α) = some a := rfl
theorem pr_undX {P : Program} {t : TypeId} {d : TypeDesc} (h : P.underlying t = some d) : pr P (underlying t) = some d := by
  simp only [underlying, pr_bind]
  show ((pr P (program : Sem Program)).bind _) = _
  simp [show pr P (program : Sem Program) = some P from rfl, h]
  rfl
theorem eqI (d : Nat) (t : TypeId) (h : Tryd.prog.underlying t = some (.int .i64)) (a c : Int) : pr Tryd.prog (Op.equalIn (d+1) t (.int .i64 a) (.int .i64 c)) = some (a == c) := by
  simp only [Op.equalIn, pr_bind, pr_undX h]
  simp [pr_pureX]
theorem pe1 (a b : Int) : pr Tryd.prog (part 55 #[.int .i64 a, .int .i64 b] 0) = some (.int .i64 a) := by kernel_rfl
theorem pe2 (a b : Int) : pr Tryd.prog (part 3 #[.int .i64 a, .int .i64 b] 1) = some (.int .i64 b) := by kernel_rfl
theorem pstood : Tryd.prog.stoodInHeld 89 = false := by kernel_rfl
theorem pr_prog {P : Program} : pr P (program : Sem Program) = some P := rfl
theorem eqS (a b c d : Int) : pr Tryd.prog (Op.equalIn Op.maxDepth 89 (.agg #[.int .i64 a, .int .i64 b]) (.agg #[.int .i64 c, .int .i64 d])) = some (a == c && b == d) := by
  rw [show Op.maxDepth = 9998 + 1 + 1 from rfl, Op.equalIn]
  rw [pr_bind, pr_undX Tryd.underlying89]
  simp only [Option.bind_some, pr_bind, pr_prog, pstood, Bool.false_eq_true, if_false]
  simp [pr_bind, pe1, pe2, eqI 9998 55 Tryd.underlying55, eqI 9998 3 Tryd.underlying3]
  by_cases h1 : a = c
  · by_cases h2 : b = d
    · simp [h1, h2, pr_pureX, pr_bind, pe2, eqI 9998 3 Tryd.underlying3]
    · simp [h1, h2, pr_pureX, pr_bind, pe2, eqI 9998 3 Tryd.underlying3]
  · simp [h1, pr_pureX]
theorem eg (x y : Operand) (a b c d : Int) : pr Tryd.prog (eqGuard .neq 89 x y (.agg #[.int .i64 a, .int .i64 b]) (.agg #[.int .i64 c, .int .i64 d])) = some () := by kernel_rfl
theorem aBin_place (x y : Operand) (a b c d : Int) : aBin Tryd.prog .neq 89 x y (.agg #[.int .i64 a, .int .i64 b]) (.agg #[.int .i64 c, .int .i64 d]) = some (.bool (!decide (a = c ∧ b = d))) := by
  unfold aBin
  rw [if_pos (show (plain (.agg #[.int .i64 a, .int .i64 b]) && plain (.agg #[.int .i64 c, .int .i64 d])) = true from rfl), pr_bind, eg]
  have : pr Tryd.prog (binOp .neq 89 (.agg #[.int .i64 a, .int .i64 b]) (.agg #[.int .i64 c, .int .i64 d])) = some (.bool (!decide (a = c ∧ b = d))) := by
    simp only [binOp, Op.equal, pr_bind, eqS]
    simp [pr_pureX]
    by_cases h1 : a = c <;> by_cases h2 : b = d <;> simp [h1, h2]
  simp only [Option.bind_some, this]
  rfl

theorem a_asN_y {H : AH} (hw : WF H) {tb : Nat} {x hd : Value} {e : Er} {fp : Fp} (hrow : Row H tb [x]) (ev : Ev 53 90 H hd e fp) (hn : e ≠ .nil) (h : e.num.isSome = true) :
    ACalls Tryd.prog 55 #[hd, .iface 95 (.pointer (some ⟨tb, 0, none⟩))] H fun v H' => v = .bool true ∧ FrS [tb] H H' ∧ Row H' tb [.int .i64 (e.num.getD 0)] := by
  refine (a_asN hw hrow ev hn).mono fun v H' ⟨h1, h2, h3⟩ => ?_
  cases hc : e.num with
  | none => rw [hc] at h; cases h
  | some n => rw [hc] at h1 h3; exact ⟨h1, h2, h3⟩
theorem a_asN_n {H : AH} (hw : WF H) {tb : Nat} {x hd : Value} {e : Er} {fp : Fp} (hrow : Row H tb [x]) (ev : Ev 53 90 H hd e fp) (hn : e ≠ .nil) (h : ¬ e.num.isSome = true) :
    ACalls Tryd.prog 55 #[hd, .iface 95 (.pointer (some ⟨tb, 0, none⟩))] H fun v H' => v = .bool false ∧ FrS [tb] H H' ∧ Row H' tb [x] := by
  refine (a_asN hw hrow ev hn).mono fun v H' ⟨h1, h2, h3⟩ => ?_
  cases hc : e.num with
  | none => rw [hc] at h1 h3; exact ⟨h1, h2, h3⟩
  | some n => rw [hc] at h; exact absurd rfl h
end Go.Vd
