/-
 errors.As and errors.Is on the abstract heap.
-/
import Derived.Test.YtmcecdjpconioaaGreatDoorPscDrE
import Derived.Test.YtmcecdjpconioaaGreatDoorPscVeC
set_option linter.unusedVariables false
set_option linter.unusedSimpArgs false
namespace Go.Vd
open Go.Proofs Go.Proofs.YtmcecdjpconioaaGreatDoor
theorem Rel.junk {μ : Mu} {H : AH} {w : World} (h : Rel μ H w) (o : Obj) : Rel μ H (w.alloc o) := by
 have hk : Keep μ μ H H w (w.alloc o) := ⟨.refl μ, Nat.le_refl _, rfl, rfl, rfl, Nat.le_refl _, by rw [ZdX]; omega, fun k hk _ => by rw [Zco, if_neg (by omega)], fun _ _ h => ⟨h, .inl rfl⟩, fun _ _ h => h, fun b p h h0 => by rw [h0] at h; cases h⟩
 refine ⟨fun b p e => ⟨(h.lt b p e).1, ?_⟩, fun b p e => ?_, h.apart, h.fresh, h.pin.keep hk⟩
 ·rw [ZdX]; have := (h.lt b p e).2; omega
 ·obtain ⟨ob, g1, g2⟩ := h.ok b p e
  exact ⟨ob, g1, g2.congr (.refl _) (by rw [Zco, if_neg (by have := (h.lt b p e).2; omega)])⟩
theorem Keep.junk (μ : Mu) (H : AH) (w : World) (o : Obj) : Keep μ μ H H w (w.alloc o) :=
 ⟨.refl μ, Nat.le_refl _, rfl, rfl, rfl, Nat.le_refl _, by rw [ZdX]; omega, fun k hk _ => by rw [Zco, if_neg (by omega)], fun _ _ h => ⟨h, .inl rfl⟩, fun _ _ h => h, fun b p h h0 => by rw [h0] at h; cases h⟩
theorem Rel.look {μ : Mu} {H : AH} {w : World} (h : Rel μ H w) {b : Nat} {x : Value} {cs : List Value} {p : Pl} (hb : μ b = some p) (hr : Row H b (x :: cs)) :
  ∃ old, w.cell? ⟨p.blk, p.off, none⟩ = some old ∧ w.frozen? ⟨p.blk, p.off, none⟩ = false := by
 obtain ⟨ob, g1, g2⟩ := h.ok b p hb
 rw [hr.row] at g1; cases g1
 obtain ⟨⟨c, ty, fr, k1, k2, k3, k4⟩, k5, k6⟩ := g2
 obtain ⟨v', a, r⟩ := k4 0 x rfl
 have hfr := k3 (by simp)
 subst hfr
 exact ⟨v', by simp [World.cell?, k1]; simpa using a, by simp [World.frozen?, k1]⟩
theorem Rel.set0 {μ : Mu} {H : AH} {w : World} (h : Rel μ H w) (hw : WF H) {b : Nat} {x v v' : Value} {p : Pl} (hb : μ b = some p) (hr : Row H b [x]) (hv : VRel μ v v') (h1 : v.oneCell' = true) :
  ∃ H', FrS [b] H H' ∧ Row H' b [v] ∧ Rel μ H' (w.setCell ⟨p.blk, p.off, none⟩ v') ∧ Keep μ μ H H' w (w.setCell ⟨p.blk, p.off, none⟩ v') := by
 obtain ⟨H', g1, g2, g3, g4⟩ := hr.put (vs := [v]) (o := 0) hw (by simp)
 obtain ⟨w', e1, e2, e3⟩ := h.puts hb g1 (vs' := [v']) (.cons hv .nil) (fun y hy => by rw [List.mem_singleton.1 hy]; exact h1) Tryz.prog
 obtain ⟨old, c1, c2⟩ := h.look hb hr
 have hs : (storeCells ⟨p.blk, p.off + 0, none⟩ [v']).run Tryz.prog w = .ok () (w.setCell ⟨p.blk, p.off, none⟩ v') := by
  simp only [storeCells, Nat.add_zero, Sem.run_bind]
  rw [run_store Tryz.prog w _ v' _ (by rw [hv.one]; exact h1), show (Addr.add ⟨p.blk, p.off, none⟩ 0) = (⟨p.blk, p.off, none⟩ : Addr) from by simp [Addr.add], c1]
  simp [c2, Result.andThen]
 rw [hs] at e1
 cases e1
 exact ⟨H', g2.frS (List.mem_singleton.2 rfl), by simpa [Z9] using g3, e2, e3⟩
theorem Rel.pinned {μ : Mu} {H : AH} {w : World} (h : Rel μ H w) : Pin w := by
 obtain ⟨⟨c, ty, fr, h1, h2⟩, _⟩ := h.pin.1 _ rfl
 simp [Pin, World.cell?, h1, h2]
theorem ErvF.mc {μ : Mu} {H : AH} {w : World} (h : Rel μ H w) : ∀ {e : Er} {v v' : Value} {fp : Fp}, ErvF 48 82 H v e fp → VRel μ v v' → ∃ l, MC w v' l e.num := by
 intro e
 induction e with
 | nil => intro v v' fp hv hr; cases hv; cases hr; exact ⟨_, .nil⟩
 | no n => intro v v' fp hv hr; cases hv; cases hr with | iface _ _ _ r => cases r; exact ⟨_, .no n⟩
 | «at» k i e ih =>
  intro v v' fp hv hr
  obtain ⟨b, u, rfl, h2, h3, h4⟩ := hv
  cases hr with
  | iface _ _ _ r =>
   cases r with
   | ptr _ _ p hb =>
    obtain ⟨u', c1, c2, _⟩ := h.cell (b := b) (o := 2) (v := u) hb (by simp [AH.cell, h3.row])
    obtain ⟨l, hl⟩ := ih h4 c2
    exact ⟨l + 1, .at p.blk (p.off + 0) u' l e.num (by simpa using c1) hl⟩
theorem ErvF.nn {μ : Mu} {H : AH} {e : Er} {v v' : Value} {fp : Fp} (h : ErvF 48 82 H v e fp) (hr : VRel μ v v') (hn : e ≠ .nil) : v' ≠ .nilIface := by
 cases e with
 | nil => exact absurd rfl hn
 | no n => cases h; cases hr; simp
 | «at» k i e => obtain ⟨b, u, rfl, _⟩ := h; cases hr; simp
theorem two {μ : Mu} {a b : Value} {args' : Array Value} (h : ARel μ #[a, b] args') : ∃ a' b', args' = #[a', b'] ∧ VRel μ a a' ∧ VRel μ b b' := by
 have hl := ARel.toList.1 h
 obtain ⟨h1, h2⟩ := hl
 match args', h1, h2 with
 | ⟨[x, y]⟩, _, h2 => exact ⟨x, y, rfl, h2 0 a x rfl rfl, h2 1 b y rfl rfl⟩
theorem Zk6 {μ : Mu} {t : TypeId} {b : Nat} {v' : Value} (h : VRel μ (.iface t (.pointer (some ⟨b, 0, none⟩))) v') : ∃ p, μ b = some p ∧ v' = .iface t (.pointer (some ⟨p.blk, p.off, none⟩)) := by
 cases h with
 | iface _ _ _ r => cases r with | ptr _ _ p hb => exact ⟨p, hb, by simp⟩
theorem Zjr {H : AH} (hw : WF H) {tb : Nat} {x hd : Value} {e : Er} {fp : Fp} (hrow : Row H tb [x]) (hd1 : Dj [tb] fp) (ev : Ev 48 82 H hd e fp) (h : e.isAt = true) :
  ACalls Tryz.prog 26 #[hd, .iface 84 (.pointer (some ⟨tb, 0, none⟩))] H fun v H' => v = .bool true ∧ FrS [tb] H H' ∧
   ∃ b u, hd = .iface 82 (.pointer (some ⟨b, 0, none⟩)) ∧ (∀ H0, Inn fp H0 [b]) ∧ Row H' tb [.pointer (some ⟨b, 0, none⟩)] ∧ Row H' b [.int .i64 e.fk, .int .i64 e.fi, u] ∧ Ev 48 82 H' u e.fe fp := by
 intro μ w args' hr ha
 obtain ⟨x', y', rfl, hx, hy⟩ := two ha
 have ev0 := ev
 obtain ⟨hlt, hv⟩ := ev
 cases e with
 | nil => cases h
 | no n => cases h
 | «at» k i e =>
  obtain ⟨b, u, rfl, hb, hrow2, hu⟩ := hv
  obtain ⟨p, hp, rfl⟩ := Zk6 hx
  obtain ⟨q, hq, rfl⟩ := Zk6 hy
  obtain ⟨old, c1, c2⟩ := hr.look hq hrow
  refine (Znv ⟨p.blk, p.off, none⟩ ⟨q.blk, q.off, none⟩ old w hr.pinned c1 c2).mono ?_
  rintro _ _ ⟨rfl, rfl⟩
  have hptr : VRel μ (.pointer (some ⟨b, 0, none⟩)) (.pointer (some ⟨p.blk, p.off, none⟩)) := by simpa using VRel.ptr b 0 p hp
  obtain ⟨H', f1, f2, f3, f4⟩ := ((((hr.junk _).junk _).junk _).junk _).set0 hw hq hrow hptr rfl
  refine ⟨_, _, H', μ, rfl, ⟨rfl, f1, b, u, rfl, fun H0 t ht => .inl (by rw [List.mem_singleton.1 ht]; exact hb), f2, hrow2.frS f1 (fun t ht hm => hd1 t ht (by rw [List.mem_singleton.1 hm]; exact hb)), ⟨hlt.fr f1, hu.fr f1 hd1⟩⟩, .bool _, f3, ?_⟩
  exact ((((Keep.junk _ _ _ _).trans (Keep.junk _ _ _ _)).trans (Keep.junk _ _ _ _)).trans (Keep.junk _ _ _ _)).trans f4
theorem ZjD {H : AH} {tb : Nat} {x hd : Value} {e : Er} {fp : Fp} (hrow : Row H tb [x]) (ev : Ev 48 82 H hd e fp) (h : ¬ e.isAt = true) :
  ACalls Tryz.prog 26 #[hd, .iface 84 (.pointer (some ⟨tb, 0, none⟩))] H fun v H' => v = .bool false ∧ H = H' := by
 intro μ w args' hr ha
 obtain ⟨x', y', rfl, hx, hy⟩ := two ha
 obtain ⟨hlt, hv⟩ := ev
 cases e with
 | nil =>
  cases hv; cases hx
  refine (Zob y' w).mono ?_
  rintro _ _ ⟨rfl, rfl⟩
  exact ⟨_, _, H, μ, rfl, ⟨rfl, rfl⟩, .bool _, hr, .refl _ _ _⟩
 | no n =>
  cases hv
  cases hx with
  | iface _ _ _ r =>
   cases r
   obtain ⟨q, hq, rfl⟩ := Zk6 hy
   refine (Zmq n ⟨q.blk, q.off, none⟩ w hr.pinned).mono ?_
   rintro _ _ ⟨rfl, rfl⟩
   exact ⟨_, _, H, μ, rfl, ⟨rfl, rfl⟩, .bool _, ((hr.junk _).junk _).junk _, ((Keep.junk _ _ _ _).trans (Keep.junk _ _ _ _)).trans (Keep.junk _ _ _ _)⟩
 | «at» k i e => exact absurd rfl h
theorem Zm3 {H : AH} (hw : WF H) {tb : Nat} {x hd : Value} {e : Er} {fp : Fp} (hrow : Row H tb [x]) (ev : Ev 48 82 H hd e fp) (hn : e ≠ .nil) :
  ACalls Tryz.prog 26 #[hd, .iface 87 (.pointer (some ⟨tb, 0, none⟩))] H fun v H' => v = .bool e.num.isSome ∧ FrS [tb] H H' ∧ Row H' tb [match e.num with | some n => .int .i64 n | none => x] := by
 intro μ w args' hr ha
 obtain ⟨x', y', rfl, hx, hy⟩ := two ha
 obtain ⟨hlt, hv⟩ := ev
 obtain ⟨l, hm⟩ := hv.mc hr hx
 have hne := hv.nn hx hn
 obtain ⟨q, hq, rfl⟩ := Zk6 hy
 obtain ⟨old, c1, c2⟩ := hr.look hq hrow
 refine (asN ⟨q.blk, q.off, none⟩ old w x' l e.num hm hne hr.pinned c1 c2).mono ?_
 rintro _ _ ⟨rfl, rfl⟩
 have k3 := ((Keep.junk μ H w (.cells #[.pointer (some ⟨q.blk, q.off, none⟩)] 87)).trans (Keep.junk _ _ _ (.cells #[.pointer (some ⟨1, 87, none⟩), .pointer (some ⟨w.heap.size, 0, none⟩), .int .u64 150] 124))).trans (Keep.junk _ _ _ (.cells #[.pointer (some ⟨1, 87, none⟩), .pointer (some ⟨w.heap.size, 0, none⟩), .int .u64 150] 124))
 have r3 := ((hr.junk (.cells #[.pointer (some ⟨q.blk, q.off, none⟩)] 87)).junk (.cells #[.pointer (some ⟨1, 87, none⟩), .pointer (some ⟨w.heap.size, 0, none⟩), .int .u64 150] 124)).junk (.cells #[.pointer (some ⟨1, 87, none⟩), .pointer (some ⟨w.heap.size, 0, none⟩), .int .u64 150] 124)
 cases hc : e.num with
 | none => exact ⟨_, _, H, μ, rfl, ⟨rfl, .refl hw, hrow⟩, .bool _, r3, k3⟩
 | some n =>
  obtain ⟨H', f1, f2, f3, f4⟩ := (r3.junk (.cells #[.int .i64 n] 48)).set0 hw hq hrow (VRel.int .i64 n) rfl
  exact ⟨_, _, H', μ, rfl, ⟨rfl, f1, f2⟩, .bool _, f3, (k3.trans (Keep.junk _ _ _ _)).trans f4⟩
theorem a_isN {H : AH} {m : Int} {hd : Value} {e : Er} {fp : Fp} (ev : Ev 48 82 H hd e fp) (hn : e ≠ .nil) :
  ACalls Tryz.prog 27 #[hd, .iface 48 (.int .i64 m)] H fun v H' => v = .bool (decide (e.num = some m)) ∧ H = H' := by
 intro μ w args' hr ha
 obtain ⟨x', y', rfl, hx, hy⟩ := two ha
 obtain ⟨hlt, hv⟩ := ev
 obtain ⟨l, hm⟩ := hv.mc hr hx
 cases hy with
 | iface _ _ _ r =>
  cases r
  refine (isN m w x' l e.num hm (hv.nn hx hn)).mono ?_
  rintro _ _ ⟨rfl, rfl⟩
  exact ⟨_, _, H, μ, rfl, ⟨rfl, rfl⟩, .bool _, hr, .refl _ _ _⟩
end Go.Vd
