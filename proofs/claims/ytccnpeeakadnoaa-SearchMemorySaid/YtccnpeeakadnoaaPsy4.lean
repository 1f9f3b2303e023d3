/- The search: a node checked. Plain Lean: no program here. -/
import Derived.Test.YtccnpeeakadnoaaPsy3
import Derived.Test.YtccnpeeakadnoaaPsySo0
import Derived.Test.YtccnpeeakadnoaaPsyVdQ
import Derived.Test.YtccnpeeakadnoaaPsyVpB
set_option linter.unusedVariables false
set_option linter.unusedSimpArgs false
set_option linter.unusedSectionVars false
/-! (Nd8) -/

set_option linter.unusedVariables false
set_option linter.unusedSimpArgs false
namespace Go.Vd
variable {F T' W : List Int} {s : Int}
theorem p_node8 (hl : F.length ≤ 17592186044160) (ht : T'.length ≤ 17592186044160) (pc : T (z_csr_Check F T' W) (Chk F T' W)) :
  T (z_search_node F T' W [s]) fun r => ∃ er, Chk F T' W er ∧ ((er ≠ .nil ∧ r = er) ∨ (er = .nil ∧ ¬ (0 ≤ s ∧ s < (F.length : Int) - 1) ∧ r = .no 7) ∨ (er = .nil ∧ 0 ≤ s ∧ s < (F.length : Int) - 1 ∧ r = .nil)) := by
 unfold z_search_node
 refine T_bindr _ pc fun er hc => ?_
 rw [T_ite]
 refine ⟨fun he => ?_, fun he => by simp only [T_some]; exact ⟨er, hc, .inl ⟨he, rfl⟩⟩⟩
 subst he
 refine T_binds (fun _ => 0 ≤ s ∧ s < (F.length : Int) - 1) ?_ fun _ h => by simp only [T_some]; exact ⟨.nil, hc, .inr (.inr ⟨rfl, h.1, h.2, trivial⟩)⟩
 refine T_loop (fun i => (i = 0 ∨ (i = 1 ∧ 0 ≤ s ∧ s < (F.length : Int) - 1))) (fun i => (1 - i).toNat) ?_ (.inl rfl)
 rintro i hi
 unfold z_search_node_l0
 have hg : gt [s] 0 = s := rfl
 rw [T_ite]
 refine ⟨fun h => ?_, fun h => ?_⟩
 ·have : i = 0 := by simp at h; omega
  subst this
  rw [hg, p_nodes8 hl, Option.bind_some]
  simp only [T_G, T_ite, T_map, T_some, Sum.elim_inl, Sum.elim_inr]
  exact ⟨by omega, fun k => ⟨.nil, hc, .inr (.inl ⟨rfl, by omega, trivial⟩)⟩, fun k => ⟨fun k2 => ⟨.nil, hc, .inr (.inl ⟨rfl, by omega, trivial⟩)⟩, fun k2 => ⟨by omega, .inr ⟨rfl, by omega, by omega⟩, by omega⟩⟩⟩
 ·simp only [T_some, Sum.elim_inr]
  rcases hi with rfl | hi
  ·simp at h
  ·exact hi.2
end Go.Vd

/-! (Bd2) -/

set_option linter.unusedVariables false
set_option linter.unusedSimpArgs false
namespace Go.Vd
variable {F T' W : List Int} {n s R v d i hops settles most : Int} {S S0 : List Bool} {st : BS} {B : Int} {h : List (Int × Int)} {a : List Int} {cs : List (Int × Int)} {c : Int} {hp : List Int}
structure PB (n : Int) (S : List Bool) (st : BS) (B : Int) (h : List (Int × Int)) (a : List Int) (cs : List (Int × Int)) (c : Int) (hp : List Int) : Prop where
 lc : (cs.length : Int) = n
 hops : hp = st.2.1
 dc : ∀ x, 0 ≤ x → x < n → DC cs x = if gt st.2.2 x = true then some (gt st.1 x) else none
 heap : Hp n h a (fun x => if gt S x = true then none else DC cs x)
 ord : Ord4 h.length (gt h)
 room : (h.length : Int) ≤ B
 c0 : 0 ≤ c
 c1 : c ≤ B
theorem p_settleB (hc : Chk F T' W .nil) (hn : n = (F.length : Int) - 1) (lS : (S0.length : Int) = n) (v0 : 0 ≤ v) (v1 : v < n) (R0 : 0 ≤ R) (R1 : R ≤ 65536) (M : BM n R v (S0.set v.toNat true) st) (P : PB n (S0.set v.toNat true) st B h a cs c hp) (hB : B ≤ 1099511000000) (hd : d = gt st.1 v) :
  T (z_search_state_settle F T' W h a cs 1 c hp S0 v d hops) fun r => r.2.2.2.2.2 = S0.set v.toNat true ∧ ((gt st.2.1 v ≥ hops ∧ PB n (S0.set v.toNat true) st (B + 262144) r.2.1 r.1 r.2.2.1 r.2.2.2.1 r.2.2.2.2.1) ∨
   (¬ gt st.2.1 v ≥ hops ∧ PB n (S0.set v.toNat true) (brow F T' W (S0.set v.toNat true) v st) (B + 262144) r.2.1 r.1 r.2.2.1 r.2.2.2.1 r.2.2.2.2.1 ∧ BM n R v (S0.set v.toNat true) (brow F T' W (S0.set v.toNat true) v st))) := by
 subst hd
 obtain ⟨b0, b1, b2, b3, b4⟩ := hc.inb v0 (by omega)
 obtain ⟨m1, m2⟩ := hc.small
 have hlH := M.lH
 have hhp := P.hops
 subst hhp
 have arcs : ∀ q : Int, 0 ≤ q → q < gt F (v + 1) - gt F v → (0 ≤ gt T' (gt F v + q) ∧ gt T' (gt F v + q) < n) ∧ 0 ≤ gt W (gt F v + q) ∧ gt W (gt F v + q) ≤ 2147483647 := fun q q0 q1 => by
  have hI : In F v (gt F v + q) := ⟨v0, by omega, by omega, by omega⟩
  have := hc.node hI
  exact ⟨by omega, hc.weight hI⟩
 have MM : ∀ k : Nat, (k : Int) ≤ gt F (v + 1) - gt F v → BM n R v (S0.set v.toNat true) (brel T' W (S0.set v.toNat true) v st (gt F v) k) ∧ gt (brel T' W (S0.set v.toNat true) v st (gt F v) k).1 v = gt st.1 v ∧ gt (brel T' W (S0.set v.toNat true) v st (gt F v) k).2.1 v = gt st.2.1 v := fun k hk =>
  M.rel k fun q hq => arcs q (by omega) (by omega)
 unfold z_search_state_settle
 simp only [T_G, T_ite]
 refine ⟨by omega, by omega, fun hx => ?_, fun hx => ⟨by omega, ?_⟩⟩
 ·simp only [T_some]
  exact ⟨trivial, .inl ⟨hx, { P with room := by have := P.room; omega, c1 := by have := P.c1; omega }⟩⟩
 refine T_bindr (fun r => PB n (S0.set v.toNat true) (brow F T' W (S0.set v.toNat true) v st) (B + (gt F (v + 1) - gt F v)) r.2.1 r.1 r.2.2.1 r.2.2.2.1 r.2.2.2.2) ?_ ?_
 ·refine T_loop (fun z => gt F v ≤ z.2.2.2.2.2 ∧ z.2.2.2.2.2 ≤ gt F (v + 1) ∧ PB n (S0.set v.toNat true) (brel T' W (S0.set v.toNat true) v st (gt F v) (z.2.2.2.2.2 - gt F v).toNat) (B + (z.2.2.2.2.2 - gt F v)) z.1 z.2.1 z.2.2.1 z.2.2.2.1 z.2.2.2.2.1) (fun z => (gt F (v + 1) - z.2.2.2.2.2).toNat) ?_ ⟨by simp, b1, by simpa [brel] using P⟩
  rintro ⟨h, a, cs, c, hp, i⟩ ⟨i0, i1, D⟩
  dsimp only at *
  obtain ⟨M', e1, e2⟩ := MM (i - gt F v).toNat (by omega)
  generalize hst : brel T' W (S0.set v.toNat true) v st (gt F v) (i - gt F v).toNat = st' at D M' e1 e2
  unfold z_search_state_settle_l0
  have hlc := D.lc; have hlh := M'.lH
  have hhp := D.hops
  subst hhp
  simp only [T_G]
  refine ⟨by omega, by omega, ?_⟩
  rw [T_ite]
  refine ⟨fun hi => ?_, fun hi => ?_⟩
  rotate_left
  ·simp only [T_some, Sum.elim_inr]
   have : i = gt F (v + 1) := by omega
   subst this
   unfold brow
   rw [hst]; exact D
  have hI : In F v i := ⟨v0, by omega, i0, hi⟩
  obtain ⟨⟨x0, x1⟩, w0, w1⟩ := arcs (i - gt F v) (by omega) (by omega)
  rw [show gt F v + (i - gt F v) = i from by omega] at x0 x1 w0 w1
  have next : brel T' W (S0.set v.toNat true) v st (gt F v) (i + 1 - gt F v).toNat = bstep (S0.set v.toNat true) v st' (gt T' i) (gt W i) := by
   rw [show (i + 1 - gt F v).toNat = (i - gt F v).toNat + 1 from by omega]
   simp only [brel]
   rw [hst, show gt F v + (((i - gt F v).toNat : Nat) : Int) = i from by omega]
  have hdv := M'.dv
  have hmul : R * 2147483647 ≤ 65536 * 2147483647 := Int.mul_le_mul_of_nonneg_right R1 (by omega)
  simp only [T_G]
  refine ⟨by omega, by omega, by omega, by omega, ?_⟩
  rw [p_SGet x0 (by omega), Option.bind_some]
  have hSl : ((S0.set v.toNat true).length : Int) = n := by simpa using lS
  have hdx := D.dc _ x0 x1
  refine T_bindr (fun o => o = true ↔ (¬ gt (S0.set v.toNat true) (gt T' i) = true ∧ (¬ gt st'.2.2 (gt T' i) = true ∨ gt st'.1 v + gt W i < gt st'.1 (gt T' i)))) ?_ fun o ho => ?_
  ·simp only [T_G, T_ite, T_some]
   by_cases hA : gt st'.2.2 (gt T' i) = true
   ·rw [if_pos hA] at hdx
    rw [hdx]
    refine ⟨by omega, fun h1 => ⟨fun h2 => by simp at h2, fun h2 => ?_⟩, fun h1 => ?_⟩
    ·simp at h1; simp [h1, hA, e1]
    ·simp at h1; simp [h1]
   ·rw [if_neg hA] at hdx
    rw [hdx]
    refine ⟨by omega, fun h1 => ⟨fun h2 => ?_, fun h2 => by simp at h2⟩, fun h1 => ?_⟩
    ·simp at h1; simp [h1, hA]
    ·simp at h1; simp [h1]
  rw [T_ite]
  refine ⟨fun ht => ?_, fun hf => ?_⟩
  ·have hcond := ho.1 ht
   obtain ⟨hxS, hlt⟩ := hcond
   have hhop := M'.hopv
   have hroom := D.room
   have hc1 := D.c1
   have hc0 := D.c0
   simp only [T_G]
   refine ⟨by omega, by omega, T_bindr _ (p_label (n := n) D.heap D.ord x0 (by omega) (by omega) hlc hlh D.c0 (by omega) (by omega) fun old ho => ?_) ?_⟩
   ·rw [if_neg hxS, hdx] at ho
    by_cases hA : gt st'.2.2 (gt T' i) = true
    ·rw [if_pos hA] at ho
     cases ho
     rcases hlt with h | h
     ·exact absurd hA h
     ·omega
    ·rw [if_neg hA] at ho; cases ho
   ·rintro ⟨a', h', cs', c', hp'⟩ ⟨r1, r2, r3, r4, r5, r6⟩
    dsimp only at *
    subst r4; subst r6
    simp only [T_G, T_some, Sum.elim_inl]
    refine ⟨by omega, ⟨by omega, by omega, ?_⟩, by omega⟩
    have hb : bstep (S0.set v.toNat true) v st' (gt T' i) (gt W i) = (st'.1.set (gt T' i).toNat (gt st'.1 v + gt W i), st'.2.1.set (gt T' i).toNat (gt st'.2.1 v + 1), st'.2.2.set (gt T' i).toNat true) := by
     unfold bstep; rw [if_pos ⟨hxS, hlt⟩]
    rw [next, hb]
    have lD := M'.lD; have lA := M'.lA
    have hset := fun y => DC_set (cs := cs) (d := gt st.1 v + gt W i) x0 (by omega) y
    refine ⟨by simpa using hlc, rfl, fun y y0 y1 => ?_, r2.keys fun y y0 y1 => ?_, r3, by omega, by omega, by omega⟩
    ·dsimp only
     rw [hset y, gt_set x0 (by omega) y0, gt_set x0 (by omega) y0]
     by_cases e : y = gt T' i
     ·rw [if_pos e, if_pos e, if_pos e, if_pos rfl, e1]
     ·rw [if_neg e, if_neg e, if_neg e]; exact D.dc y y0 y1
    ·rw [hset y]
     by_cases e : y = gt T' i
     ·rw [if_pos e, if_pos e, if_neg (by rw [e]; exact hxS)]
     ·rw [if_neg e, if_neg e]
  ·have hb : bstep (S0.set v.toNat true) v st' (gt T' i) (gt W i) = st' := by
    unfold bstep; rw [if_neg fun k => hf (ho.2 k)]
   simp only [T_G, T_some, Sum.elim_inl]
   refine ⟨by omega, ⟨by omega, by omega, ?_⟩, by omega⟩
   rw [next, hb]
   exact { D with room := by have := D.room; omega, c1 := by have := D.c1; omega }
 ·rintro ⟨a', h', cs', c', hp'⟩ D'
  dsimp only at *
  simp only [T_some]
  have hM := (MM (gt F (v + 1) - gt F v).toNat (by omega)).1
  exact ⟨trivial, .inr ⟨hx, { D' with room := by have := D'.room; omega, c1 := by have := D'.c1; omega }, hM⟩⟩
theorem PB.pick (D : BO n R S st) (P : PB n S st B h a cs c hp) (hl : 0 < (h.length : Int)) : Pick n S st (gt h 0).2 ∧ gt st.1 (gt h 0).2 = (gt h 0).1 := by
 obtain ⟨f0, f1, f2⟩ := P.heap.ix.fwd 0 (by omega) hl
 have hk := P.heap.key _ f0 f1
 unfold Kf at hk
 rw [f2, if_neg (by omega), show (0 : Int) + 1 - 1 = 0 from rfl] at hk
 have hS : ¬ gt S (gt h 0).2 = true := fun e => by rw [if_pos e] at hk; cases hk
 rw [if_neg hS, P.dc _ f0 f1] at hk
 have hA : gt st.2.2 (gt h 0).2 = true := Classical.not_not.1 fun q => by rw [if_neg q] at hk; cases hk
 rw [if_pos hA] at hk
 have hk := Option.some.inj hk
 refine ⟨⟨f0, f1, hA, hS, fun x x0 x1 hx hxS => ?_⟩, hk.symm⟩
 obtain ⟨a0, a1, a2⟩ := P.heap.key_in (v := x) (k := gt st.1 x) x0 x1 (by rw [if_neg hxS, P.dc x x0 x1, if_pos hx])
 have := P.ord.top (gt a x - 1) (by omega) (by omega)
 rw [a2] at this
 unfold Less at this
 dsimp only at this
 omega
theorem PB.nopick (P : PB n S st B h a cs c hp) (hl : (h.length : Int) = 0) : NoPick n S st := fun x x0 x1 hx => by
 refine Classical.not_not.1 fun hxS => ?_
 obtain ⟨a0, a1, a2⟩ := P.heap.key_in (v := x) (k := gt st.1 x) x0 x1 (by rw [if_neg hxS, P.dc x x0 x1, if_pos hx])
 omega
theorem p_runB (hc : Chk F T' W .nil) (hn : n = (F.length : Int) - 1) (s0 : 0 ≤ s) (s1 : s < n) :
  T (z_search_run F T' W s hops settles most) fun r => ∃ h a cs c hp S st R B, r = (h, a, cs, 1, c, hp, S) ∧ BR F T' W n hops settles most 0 (b0st n s) (List.replicate n.toNat false) st S ∧ BO n R S st ∧ PB n S st B h a cs c hp := by
 obtain ⟨m1, m2⟩ := hc.small
 unfold z_search_run
 rw [p_nodes8 (by omega), Option.bind_some, ← hn]
 simp only [T_G]
 refine ⟨by omega, by omega, ?_⟩
 rw [p_hNew (by omega) (by omega), Option.bind_some, Sum.elim_inr, p_sNew (by omega) (by omega), Option.bind_some, Sum.elim_inr]
 dsimp only
 have hm : ((n.toNat : Nat) : Int) = n := by omega
 refine T_bindr _ (p_label (n := n) (Hp.empty hm) (fun p p0 p1 => by simp at p1; omega) s0 s1 (by omega) (by simp; omega) (by simp; omega) (Int.le_refl _) (by omega) (by simp) (fun old ho => by cases ho)) ?_
 rintro ⟨a, h, cs, c, hp⟩ ⟨r1, r2, r3, r4, r5, r6⟩
 dsimp only at *
 subst r4; subst r6
 have hr : ∀ x, gt (List.replicate n.toNat (0 : Int)) x = 0 := fun x => gt_rep (E := Int)
 have hf : ∀ x, gt (List.replicate n.toNat false) x = false := fun x => gt_rep (E := Bool)
 have hz : ∀ x, gt (List.replicate n.toNat ((0, 0) : Int × Int)) x = (0, 0) := fun x => gt_rep (E := Int × Int)
 have hD0 : ∀ x, DC (List.replicate n.toNat ((0, 0) : Int × Int)) x = none := fun x => by
  unfold DC; rw [hz, if_neg (by simp)]
 have P0 : PB n (List.replicate n.toNat false) (b0st n s) 1 h a ((List.replicate n.toNat ((0, 0) : Int × Int)).set s.toNat (0, 1)) c ((List.replicate n.toNat (0 : Int)).set s.toNat 0) := by
  refine ⟨by simp; omega, ?_, fun x x0 x1 => ?_, r2.keys fun y y0 y1 => ?_, r3, by simp at r1; omega, by omega, by omega⟩
  ·refine list_gt (by simp [b0st]) fun j j0 j1 => ?_
   simp only [b0st]
   rw [gt_set s0 (by simp; omega) j0, hr]
   split <;> rfl
  ·rw [DC_set s0 (by simp; omega)]
   have hb2 : gt (b0st n s).2.2 x = true ↔ x = s := by
    show gt ((List.replicate n.toNat false).set s.toNat true) x = true ↔ x = s
    rw [gt_set s0 (by simp; omega) x0, hf]
    by_cases e : x = s <;> simp [e]
   have hb1 : gt (b0st n s).1 x = 0 := hr x
   by_cases e : x = s
   ·rw [if_pos e, if_pos (hb2.2 e), hb1]
   ·rw [if_neg e, if_neg (fun k => e (hb2.1 k)), hD0]
  ·rw [DC_set s0 (by simp; omega), hD0]
   simp [hf]
 refine T_bindr (fun r => ∃ R B st, BR F T' W n hops settles most 0 (b0st n s) (List.replicate n.toNat false) st r.2.2.2.2.2 ∧ BO n R r.2.2.2.2.2 st ∧ PB n r.2.2.2.2.2 st B r.1 r.2.1 r.2.2.1 r.2.2.2.1 r.2.2.2.2.1) ?_ ?_
 ·refine T_loop (fun z => ∃ st, 0 ≤ z.2.2.2.2.2.2 ∧ z.2.2.2.2.2.2 = cntT z.2.2.2.2.2.1 ∧ BO n z.2.2.2.2.2.2 z.2.2.2.2.2.1 st ∧ PB n z.2.2.2.2.2.1 st (1 + z.2.2.2.2.2.2 * 262144) z.1 z.2.1 z.2.2.1 z.2.2.2.1 z.2.2.2.2.1 ∧ ∀ st' S', BR F T' W n hops settles most z.2.2.2.2.2.2 st z.2.2.2.2.2.1 st' S' → BR F T' W n hops settles most 0 (b0st n s) (List.replicate n.toNat false) st' S') (fun z => (n - z.2.2.2.2.2.2).toNat) ?_ ⟨b0st n s, by simp, (cntT_zero _).symm, b0_ok s0 s1, by simpa using P0, fun _ _ h => h⟩
  rintro ⟨h, a, cs, c, hp, S, R⟩ ⟨st, R0, hcn, D, P, K⟩
  dsimp only at *
  have hR := D.le
  have lS := D.lS
  unfold z_search_run_l0
  rw [T_ite]
  refine ⟨fun hlt => ?_, fun hge => ?_⟩
  rotate_left
  ·simp only [T_some, Sum.elim_inr]
   exact ⟨_, _, st, K _ _ (.full _ _ _ (by omega)), D, P⟩
  rw [p_Top, Option.bind_some]
  by_cases hl : (h.length : Int) = 0
  ·rw [if_pos hl]
   refine T_bindr (fun o => o = true) (by simp) ?_
   rintro _ rfl
   rw [if_pos rfl]
   simp only [T_some, Sum.elim_inr]
   exact ⟨_, _, st, K _ _ (.none _ _ _ hlt (P.nopick hl)), D, P⟩
  ·rw [if_neg hl]
   dsimp only
   obtain ⟨hp', hkey⟩ := P.pick D (by omega)
   obtain ⟨v0, v1, vA, vS, vm⟩ := id hp'
   have hb := D.big _ v0 v1 vA
   refine T_bindr (fun o => o = decide (gt st.1 (gt h 0).2 > most)) ?_ ?_
   ·simp only [T_ite, T_some]
    exact ⟨fun h => by simp at h, fun _ => by rw [hkey]⟩
   rintro _ rfl
   rw [T_ite]
   refine ⟨fun hm => ?_, fun hm => ?_⟩
   ·simp only [T_some, Sum.elim_inr]
    exact ⟨_, _, st, K _ _ (.far _ _ _ _ hlt hp' (by simpa using hm)), D, P⟩
   have hmost : ¬ gt st.1 (gt h 0).2 > most := by simpa using hm
   refine T_bindr _ (p_Pop P.heap P.ord (by omega) (by omega)) ?_
   rintro ⟨_, _, _, a', h'⟩ ⟨l', H', O'⟩
   dsimp only at *
   have hE := D.enter hp'
   have hcs := cnt_set lS v0 v1 vS
   have hc2 := cntT_le (S.set (gt h 0).2.toNat true)
   rw [List.length_set] at hc2
   have gS : ∀ y, 0 ≤ y → gt (S.set (gt h 0).2.toNat true) y = if y = (gt h 0).2 then true else gt S y := fun y y0 => gt_set v0 (by omega) y0
   have PE : PB n (S.set (gt h 0).2.toNat true) st (1 + R * 262144) h' a' cs c hp := by
    refine ⟨P.lc, P.hops, P.dc, H'.keys fun y y0 y1 => ?_, O', by have := P.room; omega, P.c0, P.c1⟩
    rw [gS y y0]
    by_cases e : y = (gt h 0).2
    ·rw [if_pos e, if_pos e, if_pos rfl]
    ·rw [if_neg e, if_neg e]
   simp only [T_G]
   refine ⟨by omega, T_bindr _ (p_settleB hc hn lS v0 v1 R0 (by omega) hE PE (by omega) hkey.symm) ?_⟩
   rintro ⟨a2, h2, cs2, c2, hp2, S2⟩ ⟨e2, hq⟩
   dsimp only at *
   subst e2
   simp only [T_G, T_some, Sum.elim_inl]
   rcases hq with ⟨q1, q2⟩ | ⟨q1, q2, q3⟩
   ·refine ⟨by omega, ⟨st, by omega, by rw [hcs]; omega, D.settled hp' hE, ?_, fun st' S' hB => K _ _ (.leaf _ _ _ _ _ _ hlt hp' hmost q1 hB)⟩, by omega⟩
    rwa [show 1 + (R + 1) * 262144 = 1 + R * 262144 + 262144 from by omega]
   ·refine ⟨by omega, ⟨_, by omega, by rw [hcs]; omega, D.settled hp' q3, ?_, fun st' S' hB => K _ _ (.row _ _ _ _ _ _ hlt hp' hmost q1 hB)⟩, by omega⟩
    rwa [show 1 + (R + 1) * 262144 = 1 + R * 262144 + 262144 from by omega]
 ·rintro ⟨h, a, cs, c, hp, S⟩ ⟨R, B, st, h1, h2, h3⟩
  dsimp only at *
  simp only [T_some]
  exact ⟨h, a, cs, c, hp, S, st, R, B, rfl, h1, h2, h3⟩
def allv (n : List Bool) : Nat → List Int
 | 0 => []
 | k + 1 => allv n k ++ if gt n (k : Int) = true then [(k : Int)] else []
def labs (st : BS) (S : List Bool) : Nat → List (Int × Int × Int × Bool)
 | 0 => []
 | k + 1 => labs st S k ++ if gt st.2.2 (k : Int) = true then [((k : Int), gt st.1 (k : Int), gt st.2.1 (k : Int), gt S (k : Int))] else []
theorem allv_mem {l : List Bool} {k : Nat} {v : Int} (h : v ∈ allv l k) : 0 ≤ v ∧ v < k ∧ gt l v = true := by
 induction k with
 | zero => cases h
 | succ k ih =>
  rcases List.mem_append.1 h with h | h
  ·have := ih h; exact ⟨this.1, by omega, this.2.2⟩
  ·by_cases e : gt l (k : Int) = true
   ·rw [if_pos e] at h
    obtain rfl := List.mem_singleton.1 h
    exact ⟨by omega, by omega, e⟩
   ·rw [if_neg e] at h; cases h
theorem allv_len {l : List Bool} {k : Nat} : (allv l k).length ≤ k := by
 induction k with
 | zero => simp [allv]
 | succ k ih =>
  simp only [allv, List.length_append]
  split <;> simp <;> omega
theorem allv_map (st : BS) (S : List Bool) (k : Nat) : (allv st.2.2 k).map (fun v => (v, gt st.1 v, gt st.2.1 v, gt S v)) = labs st S k := by
 induction k with
 | zero => rfl
 | succ k ih =>
  simp only [allv, labs, List.map_append, ih]
  split <;> rfl
theorem labs_len {st : BS} {S : List Bool} {k : Nat} : (labs st S k).length ≤ k := by
 rw [← allv_map, List.length_map]; exact allv_len
theorem p_All (P : PB n S st B h a cs c hp) (hn : n ≤ 1000000) : T (z_stamp_Stamp_All cs 1 c) fun l => l = allv st.2.2 n.toNat := by
 unfold z_stamp_Stamp_All
 rw [T_bind]
 refine T_mono (Q := fun l => l = allv st.2.2 n.toNat) ?_ fun l h => by simpa using h
 have lc := P.lc
 refine T_loop (fun z => 0 ≤ z.1 ∧ z.1 ≤ n ∧ z.2 = allv st.2.2 z.1.toNat) (fun z => (n - z.1).toNat) ?_ ⟨by simp, by simp; omega, rfl⟩
 rintro ⟨i, l⟩ ⟨i0, i1, e⟩
 dsimp only at *
 subst e
 unfold z_stamp_Stamp_All_l0
 rw [T_ite]
 refine ⟨fun hi => ?_, fun hi => by simp only [T_some, Sum.elim_inr]; rw [show n.toNat = i.toNat from by omega]⟩
 have hd := P.dc i i0 (by omega)
 unfold DC at hd
 have hlen := allv_len (l := st.2.2) (k := i.toNat)
 have next : allv st.2.2 (i + 1).toNat = allv st.2.2 i.toNat ++ if gt st.2.2 i = true then [i] else [] := by
  rw [show (i + 1).toNat = i.toNat + 1 from by omega]
  simp only [allv]
  rw [show ((i.toNat : Nat) : Int) = i from by omega]
 simp only [T_G, T_ite, T_some, Sum.elim_inl]
 refine ⟨i0, fun h1 => ⟨by omega, by omega, ⟨by omega, by omega, ?_⟩, by omega⟩, fun h1 => ⟨by omega, ⟨by omega, by omega, ?_⟩, by omega⟩⟩
 ·rw [if_pos ⟨i0, hi, h1⟩] at hd
  have hA : gt st.2.2 i = true := Classical.not_not.1 fun q => by rw [if_neg q] at hd; cases hd
  rw [next, if_pos hA]
 ·rw [if_neg fun q => h1 q.2.2] at hd
  have hA : ¬ gt st.2.2 i = true := fun q => by rw [if_pos q] at hd; cases hd
  rw [next, if_neg hA, List.append_nil]
inductive BndA (F T' W : List Int) (s hops settles most : Int) : List (Int × Int × Int × Bool) → Er → Prop
 | bad (er : Er) : Chk F T' W er → er ≠ .nil → BndA F T' W s hops settles most [] er
 | node : Chk F T' W .nil → ¬ (0 ≤ s ∧ s < (F.length : Int) - 1) → BndA F T' W s hops settles most [] (.no 7)
 | ok (st : BS) (S : List Bool) : Chk F T' W .nil → 0 ≤ s → s < (F.length : Int) - 1 → BR F T' W ((F.length : Int) - 1) hops settles most 0 (b0st ((F.length : Int) - 1) s) (List.replicate ((F.length : Int) - 1).toNat false) st S → BndA F T' W s hops settles most (labs st S ((F.length : Int) - 1).toNat) .nil
theorem BndA.uniq {l m : List (Int × Int × Int × Bool)} {er er' : Er} (cu : ∀ a b, Chk F T' W a → Chk F T' W b → a = b) (h : BndA F T' W s hops settles most l er) (k : BndA F T' W s hops settles most m er') : l = m ∧ er = er' := by
 cases h with
 | bad _ c1 c2 =>
  cases k with
  | bad _ k1 k2 => exact ⟨rfl, cu _ _ c1 k1⟩
  | node k1 _ => exact absurd (cu _ _ c1 k1) c2
  | ok _ _ k1 _ _ _ => exact absurd (cu _ _ c1 k1) c2
 | node c1 c2 =>
  cases k with
  | bad _ k1 k2 => exact absurd (cu _ _ k1 c1) k2
  | node _ _ => exact ⟨rfl, rfl⟩
  | ok _ _ _ k2 k3 _ => exact absurd ⟨k2, k3⟩ c2
 | ok _ _ c1 c2 c3 c4 =>
  cases k with
  | bad _ k1 k2 => exact absurd (cu _ _ k1 c1) k2
  | node _ k2 => exact absurd ⟨c2, c3⟩ k2
  | ok _ _ _ _ _ k4 => obtain ⟨rfl, rfl⟩ := c4.uniq k4; exact ⟨rfl, rfl⟩
theorem BndA.err {l : List (Int × Int × Int × Bool)} {er : Er} (h : BndA F T' W s hops settles most l er) : (Chk F T' W er) ∨ er = .no 7 := by
 cases h with
 | bad _ c _ => exact .inl c
 | node _ _ => exact .inr rfl
 | ok _ _ c _ _ _ => exact .inl c
theorem BndA.len {l : List (Int × Int × Int × Bool)} {er : Er} (h : BndA F T' W s hops settles most l er) : l.length ≤ 100000 := by
 cases h with
 | bad _ _ _ => simp
 | node _ _ => simp
 | ok st S c _ _ _ => have := c.small.1; have := labs_len (st := st) (S := S) (k := ((F.length : Int) - 1).toNat); omega
theorem p_Bounded (hl : F.length ≤ 17592186044160) (ht : T'.length ≤ 17592186044160) (pc : T (z_csr_Check F T' W) (Chk F T' W)) : T (z_search_Bounded F T' W s hops settles most) fun r => BndA F T' W s hops settles most r.1 r.2 := by
 unfold z_search_Bounded
 refine T_bindr _ (p_node8 hl ht pc) ?_
 rintro r ⟨er, hc, h⟩
 rw [T_ite]
 refine ⟨fun hr => ?_, fun hr => ?_⟩
 rotate_left
 ·simp only [T_some]
  rcases h with ⟨h1, h2⟩ | ⟨h1, h3, h2⟩ | ⟨_, _, _, h2⟩
  ·subst h2; exact .bad _ hc h1
  ·subst h1; subst h2; exact .node hc h3
  ·exact absurd h2 hr
 subst hr
 rcases h with ⟨h1, h2⟩ | ⟨_, _, h2⟩ | ⟨h1, s0, s1, _⟩
 ·exact absurd h2.symm h1
 ·cases h2
 subst h1
 obtain ⟨m1, m2⟩ := hc.small
 refine T_bindr _ (p_runB hc rfl s0 s1) ?_
 rintro _ ⟨h, a, cs, c, hp, S, st, R, B, rfl, hB, D, P⟩
 dsimp only
 refine T_bindr _ (p_All P (by omega)) ?_
 rintro _ rfl
 refine T_bindr (fun l => l = labs st S ((F.length : Int) - 1).toNat) ?_ fun l hl => by simp only [T_some]; subst hl; exact .ok st S hc s0 s1 hB
 have hal := allv_len (l := st.2.2) (k := ((F.length : Int) - 1).toNat)
 refine T_loop (fun z => 0 ≤ z.2 ∧ z.2 ≤ ((allv st.2.2 ((F.length : Int) - 1).toNat).length : Int) ∧ z.1 = ((allv st.2.2 ((F.length : Int) - 1).toNat).take z.2.toNat).map fun v => (v, gt st.1 v, gt st.2.1 v, gt S v)) (fun z => (((allv st.2.2 ((F.length : Int) - 1).toNat).length : Int) - z.2).toNat) ?_ ⟨by simp, by simp, rfl⟩
 rintro ⟨l, i⟩ ⟨i0, i1, e⟩
 dsimp only at *
 subst e
 unfold z_search_Bounded_l0
 dsimp only
 rw [T_ite]
 refine ⟨fun hi => ?_, fun hi => ?_⟩
 rotate_left
 ·simp only [T_some, Sum.elim_inr]
  rw [List.take_of_length_le (by omega)]; exact allv_map _ _ _
 obtain ⟨q0, q1, q2⟩ := allv_mem (gt_mem i0 hi)
 generalize hv : gt (allv st.2.2 ((F.length : Int) - 1).toNat) i = v at q0 q1 q2
 have lH := D.lH; have lS := D.lS; have lc := P.lc
 have hho := P.hops
 subst hho
 have hd := P.dc v q0 (by omega)
 rw [if_pos q2] at hd
 rw [T_G, p_SGet q0 (by omega), hd]
 dsimp only
 simp only [Option.bind_some, T_G, T_some, Sum.elim_inl]
 have htl : (((allv st.2.2 ((F.length : Int) - 1).toNat).take i.toNat).map fun v => (v, gt st.1 v, gt st.2.1 v, gt S v)).length = i.toNat := by rw [List.length_map, List.length_take]; omega
 refine ⟨i0, by omega, by omega, by rw [htl]; simp only [List.length_cons, List.length_nil]; omega, by omega, ⟨by omega, by omega, ?_⟩, by omega⟩
 have htg : (allv st.2.2 ((F.length : Int) - 1).toNat).take (i + 1).toNat = (allv st.2.2 ((F.length : Int) - 1).toNat).take i.toNat ++ [v] := by
  rw [← hv]
  exact take_gt i0 hi
 rw [htg, List.map_append]
 rfl
end Go.Vd

/-! (Ds6) -/

set_option linter.unusedVariables false
set_option linter.unusedSimpArgs false
namespace Go.Vd
variable {F T' W : List Int} {s : Int}
inductive FromA (F T' W : List Int) (s : Int) : List Int → Er → Prop
 | bad (er : Er) : Chk F T' W er → er ≠ .nil → FromA F T' W s [] er
 | node : Chk F T' W .nil → ¬ (0 ≤ s ∧ s < (F.length : Int) - 1) → FromA F T' W s [] (.no 7)
 | ok (l : List Int) : Chk F T' W .nil → 0 ≤ s → s < (F.length : Int) - 1 → DistL F T' W s l → FromA F T' W s l .nil
theorem p_From (hl : F.length ≤ 17592186044160) (ht : T'.length ≤ 17592186044160) (pc : T (z_csr_Check F T' W) (Chk F T' W)) : T (z_search_From F T' W s) fun r => FromA F T' W s r.1 r.2 := by
 unfold z_search_From
 refine T_bindr _ (p_node8 hl ht pc) ?_
 rintro r ⟨er, hc, h⟩
 rw [T_ite]
 refine ⟨fun hr => ?_, fun hr => ?_⟩
 ·subst hr
  rcases h with ⟨h1, h2⟩ | ⟨_, _, h2⟩ | ⟨h1, s0, s1, _⟩
  ·exact absurd h2.symm h1
  ·cases h2
  subst h1
  obtain ⟨m1, m2⟩ := hc.small
  obtain ⟨q1, _⟩ := hc.shp
  rw [show z_search_free = some () from rfl, Option.bind_some]
  refine T_bindr _ (p_run hc s0 s1) ?_
  rintro _ ⟨h, a, cs, c, hp, S, rfl, lc, C, hb, _, _⟩
  dsimp only
  refine T_bindr _ (p_all (by omega) (by omega) lc) fun l ⟨l1, l2⟩ => ?_
  simp only [T_some]
  refine .ok l hc s0 s1 ⟨l1, ?_⟩
  have e : LD l = DC cs := by
   funext v
   unfold LD
   by_cases hv : 0 ≤ v ∧ v < (F.length : Int) - 1
   ·rw [l2 v hv.1 hv.2]
    cases hd : DC cs v with
    | none => rw [if_neg (fun k => k.2.2 rfl)]
    | some k =>
     have := hb v k hd
     rw [if_pos ⟨hv.1, by omega, by simp; omega⟩]; rfl
   ·rw [if_neg (by omega)]
    cases hd : DC cs v with
    | none => rfl
    | some k => have := DC_rng hd; omega
  rw [e]; exact C
 ·simp only [T_some]
  rcases h with ⟨h1, h2⟩ | ⟨h1, h3, h2⟩ | ⟨_, _, _, h2⟩
  ·subst h2; exact .bad _ hc h1
  ·subst h1; subst h2; exact .node hc h3
  ·exact absurd h2 hr
end Go.Vd

/-! (Mp) -/

set_option linter.unusedVariables false
set_option linter.unusedSimpArgs false
namespace Go.Vd
variable {F T' W : List Int} {s : Int}
theorem gt_addE {E : Type} [Inhabited E] {l : List E} {y : E} {j : Int} (j0 : 0 ≤ j) (j1 : j < (l.length : Int) + 1) : gt (l ++ [y]) j = if j = l.length then y else gt l j := by
 obtain ⟨j, rfl⟩ := Int.eq_ofNat_of_zero_le j0
 by_cases h : (j : Int) = l.length
 ·rw [if_pos h]
  have : j = l.length := by omega
  subst this
  simp [gt, List.getD_eq_getElem?_getD]
 ·rw [if_neg h]
  have : j < l.length := by omega
  simp [gt, List.getD_eq_getElem?_getD, List.getElem?_append_left this]
def MatL (F T' W : List Int) (k : Int) (L : List (List Int)) : Prop := (L.length : Int) = k ∧ ∀ i, 0 ≤ i → i < k → DistL F T' W i (gt L i)
theorem MatL.next {k : Int} {L : List (List Int)} {l : List Int} (h : MatL F T' W k L) (k0 : 0 ≤ k) (hl : DistL F T' W k l) : MatL F T' W (k + 1) (L ++ [l]) := by
 refine ⟨by simp [h.1], fun i i0 i1 => ?_⟩
 rw [gt_addE i0 (by have := h.1; omega)]
 by_cases e : i = L.length
 ·rw [if_pos e]; have := h.1; rwa [show i = k from by omega]
 ·rw [if_neg e]; exact h.2 i i0 (by have := h.1; omega)
inductive MatA (F T' W : List Int) : List (List Int) → Er → Prop
 | bad (er : Er) : Chk F T' W er → er ≠ .nil → MatA F T' W [] er
 | limit : Chk F T' W .nil → ((F.length : Int) - 1) * ((F.length : Int) - 1) > 1048576 → MatA F T' W [] (.no 9)
 | ok (L : List (List Int)) : Chk F T' W .nil → ¬ ((F.length : Int) - 1) * ((F.length : Int) - 1) > 1048576 → MatL F T' W ((F.length : Int) - 1) L → MatA F T' W L .nil
theorem p_runAll (hc : Chk F T' W .nil) (s0 : 0 ≤ s) (s1 : s < (F.length : Int) - 1) :
  T ((z_search_run F T' W s 4611686018427387904 4611686018427387904 18446744073709551615).bind fun y => z_search_state_all F T' W y.1 y.2.1 y.2.2.1 y.2.2.2.1 y.2.2.2.2.1 y.2.2.2.2.2.1 y.2.2.2.2.2.2) (DistL F T' W s) := by
 obtain ⟨m1, m2⟩ := hc.small
 obtain ⟨q1, _⟩ := hc.shp
 refine T_bindr _ (p_run hc s0 s1) ?_
 rintro _ ⟨h, a, cs, c, hp, S, rfl, lc, C, hb, _, _⟩
 dsimp only
 refine T_mono (p_all (by omega) (by omega) lc) fun l ⟨l1, l2⟩ => ⟨l1, ?_⟩
 have e : LD l = DC cs := by
  funext v
  unfold LD
  by_cases hv : 0 ≤ v ∧ v < (F.length : Int) - 1
  ·rw [l2 v hv.1 hv.2]
   cases hd : DC cs v with
   | none => rw [if_neg (fun k => k.2.2 rfl)]
   | some k =>
    have := hb v k hd
    rw [if_pos ⟨hv.1, by omega, by simp; omega⟩]; rfl
  ·rw [if_neg (by omega)]
   cases hd : DC cs v with
   | none => rfl
   | some k => have := DC_rng hd; omega
 rw [e]; exact C
theorem sq_small {n : Int} (n0 : 0 ≤ n) (n1 : n ≤ 65536) : 0 ≤ n * n ∧ n * n ≤ 4294967296 := by
 have h1 : n * n ≤ 65536 * 65536 := Int.mul_le_mul n1 n1 n0 (by omega)
 have h2 : 0 ≤ n * n := Int.mul_nonneg n0 n0
 omega
theorem p_Matrix (hl : F.length ≤ 17592186044160) (ht : T'.length ≤ 17592186044160) : T (z_search_Matrix F T' W) fun r => MatA F T' W r.1 r.2 := by
 unfold z_search_Matrix
 refine T_bindr _ (p_Check hl ht) fun er hc => ?_
 rw [T_ite]
 refine ⟨fun he => ?_, fun he => by simp only [T_some]; exact .bad _ hc he⟩
 subst he
 obtain ⟨m1, m2⟩ := hc.small
 obtain ⟨q1, _⟩ := hc.shp
 have hsq := sq_small (n := (F.length : Int) - 1) (by omega) (by omega)
 rw [p_nodes8 (by omega), Option.bind_some, T_G]
 refine ⟨by omega, ?_⟩
 rw [T_ite]
 refine ⟨fun h => by simp only [T_some]; exact .limit hc h, fun h => ?_⟩
 refine T_bindr (MatL F T' W ((F.length : Int) - 1)) ?_ fun L hL => by simp only [T_some]; exact .ok L hc h hL
 refine T_loop (fun z => 0 ≤ z.1 ∧ z.1 ≤ (F.length : Int) - 1 ∧ MatL F T' W z.1 z.2) (fun z => ((F.length : Int) - z.1).toNat) ?_ ⟨by simp, by simp; omega, rfl, fun i i0 i1 => by dsimp only at i1; omega⟩
 rintro ⟨i, l⟩ ⟨i0, i1, hM⟩
 dsimp only at *
 unfold z_search_Matrix_l0
 rw [T_ite]
 refine ⟨fun hi => ?_, fun hi => by simp only [T_some, Sum.elim_inr]; rwa [show (F.length : Int) - 1 = i from by omega]⟩
 rw [show z_search_free = some () from rfl, Option.bind_some]
 obtain ⟨x, hx, hD⟩ := p_runAll hc i0 hi
 obtain ⟨y, h1, h2⟩ := bind_some hx
 rw [h1, Option.bind_some, h2, Option.bind_some]
 have := hM.1
 simp only [T_G, T_some, Sum.elim_inl]
 exact ⟨by omega, by omega, ⟨by omega, by omega, hM.next i0 hD⟩, by omega⟩
end Go.Vd

/-! (Mx) -/

set_option linter.unusedVariables false
set_option linter.unusedSimpArgs false
namespace Go.Vd
variable {F T' W : List Int} {s : Int}
theorem p_DocMatrix (hl : F.length ≤ 17592186044160) : T (z_viaductref08_DocMatrix F T' W) fun r => ∃ er, MatA F T' W r.1 er ∧ r.2 = (er.code, er.pls) := by
 unfold z_viaductref08_DocMatrix
 refine T_bindr _ (p_DocCheck hl) ?_
 rintro _ ⟨er, hc, rfl⟩
 dsimp only
 rw [p_Bad, Option.bind_some, T_ite]
 refine ⟨fun h => ?_, fun h => ?_⟩
 ·simp only [T_some]
  exact ⟨er, .bad _ hc (hc.bad.1 (by simpa using h)), rfl⟩
 have he : er = .nil := Classical.not_not.1 fun k => h (by simpa using hc.bad.2 k)
 subst he
 obtain ⟨m1, m2⟩ := hc.small
 obtain ⟨q1, _⟩ := hc.shp
 have hsq := sq_small (n := (F.length : Int) - 1) (by omega) (by omega)
 rw [T_G, T_G, T_ite]
 refine ⟨by omega, by omega, fun h => ?_, fun h => ?_⟩
 ·rw [p_E, Option.bind_some]
  simp only [T_some]
  exact ⟨.no 9, .limit hc h, rfl⟩
 refine T_bindr (MatL F T' W ((F.length : Int) - 1)) ?_ fun L hL => by simp only [T_some]; exact ⟨.nil, .ok L hc h hL, rfl⟩
 refine T_loop (fun z => 0 ≤ z.2 ∧ z.2 ≤ (F.length : Int) - 1 ∧ MatL F T' W z.2 z.1) (fun z => ((F.length : Int) - z.2).toNat) ?_ ⟨by simp, by simp; omega, rfl, fun i i0 i1 => by dsimp only at i1; omega⟩
 rintro ⟨l, i⟩ ⟨i0, i1, hM⟩
 dsimp only at *
 unfold z_viaductref08_DocMatrix_l0
 rw [T_ite]
 refine ⟨fun hi => ?_, fun hi => by simp only [T_some, Sum.elim_inr]; rwa [show (F.length : Int) - 1 = i from by omega]⟩
 refine T_bindr _ (p_BF hc i0 hi) fun x hD => ?_
 have := hM.1
 simp only [T_G, T_some, Sum.elim_inl]
 exact ⟨by omega, by omega, ⟨by omega, by omega, hM.next i0 hD⟩, by omega⟩
theorem p_SameRow {a b : List Int} (ha : a.length ≤ 1000000000000) : z_viaductref04_SameRow a b = some (decide (a = b)) := by
 refine T_eq.1 ?_
 unfold z_viaductref04_SameRow
 rw [T_ite]
 refine ⟨fun hl => ?_, fun hl => by simp only [T_some]; exact (same_ne hl).symm⟩
 refine T_binds (fun _ => a = b) ?_ fun _ h => by simp [h]
 refine T_loop (fun i => 0 ≤ i ∧ i ≤ (a.length : Int) ∧ ∀ j : Int, 0 ≤ j → j < i → gt a j = gt b j) (fun i => ((a.length : Int) - i).toNat) ?_ ⟨by simp, by simp, fun j j0 j1 => by omega⟩
 rintro i ⟨i0, i1, h⟩
 unfold z_viaductref04_SameRow_l0
 simp only [T_ite, T_G, T_map, T_some, Sum.elim_inl, Sum.elim_inr]
 refine ⟨fun hi => ⟨i0, by omega, fun e => ⟨by omega, ⟨by omega, by omega, same_next h e⟩, by omega⟩, fun e => (same_at e i0 hi).symm⟩, fun hi => of_decide_eq_true (same_all h hl (by omega))⟩
theorem list_gt' {E : Type} [Inhabited E] {l m : List E} (hl : l.length = m.length) (h : ∀ j : Int, 0 ≤ j → j < (l.length : Int) → gt l j = gt m j) : l = m := by
 refine List.ext_getElem hl fun j h1 h2 => ?_
 have := h (j : Int) (by omega) (by omega)
 rwa [gt_nat h1, gt_nat h2] at this
theorem p_SameMatrix {a b : List (List Int)} (ha : a.length ≤ 1000000000000) (hb : ∀ x ∈ a, x.length ≤ 1000000000000) : z_viaductref04_SameMatrix a b = some (decide (a = b)) := by
 refine T_eq.1 ?_
 unfold z_viaductref04_SameMatrix
 rw [T_ite]
 refine ⟨fun hl => ?_, fun hl => by simp only [T_some]; exact (decide_eq_false fun e => hl (by rw [e])).symm⟩
 refine T_binds (fun _ => a = b) ?_ fun _ h => by simp [h]
 refine T_loop (fun i => 0 ≤ i ∧ i ≤ (a.length : Int) ∧ ∀ j : Int, 0 ≤ j → j < i → gt a j = gt b j) (fun i => ((a.length : Int) - i).toNat) ?_ ⟨by simp, by simp, fun j j0 j1 => by omega⟩
 rintro i ⟨i0, i1, h⟩
 unfold z_viaductref04_SameMatrix_l0
 rw [T_ite]
 refine ⟨fun hi => ?_, fun hi => ?_⟩
 ·rw [T_G, T_G, p_SameRow (hb _ (gt_mem i0 hi)), Option.bind_some, T_ite]
  simp only [T_G, T_map, T_some, Sum.elim_inl, Sum.elim_inr]
  refine ⟨i0, by omega, fun e => ?_, fun e => ⟨by omega, ⟨by omega, by omega, fun j j0 j1 => ?_⟩, by omega⟩⟩
  ·have e' : ¬ gt a i = gt b i := by simpa using e
   exact (decide_eq_false fun k => e' (by rw [k])).symm
  ·by_cases hj : j = i
   ·subst hj; simpa using e
   ·exact h j j0 (by omega)
 ·simp only [T_some, Sum.elim_inr]
  exact list_gt' (by omega) fun j j0 j1 => h j j0 (by omega)
theorem MatA.uniq {L M : List (List Int)} {er er' : Er} (cu : ∀ a b, Chk F T' W a → Chk F T' W b → a = b) (h : MatA F T' W L er) (k : MatA F T' W M er') : L = M ∧ er = er' := by
 cases h with
 | bad _ c1 c2 =>
  cases k with
  | bad _ k1 k2 => exact ⟨rfl, cu _ _ c1 k1⟩
  | limit k1 _ => exact absurd (cu _ _ c1 k1) c2
  | ok _ k1 _ _ => exact absurd (cu _ _ c1 k1) c2
 | limit c1 c2 =>
  cases k with
  | bad _ k1 k2 => exact absurd (cu _ _ k1 c1) k2
  | limit _ _ => exact ⟨rfl, rfl⟩
  | ok _ _ k2 _ => exact absurd c2 k2
 | ok _ c1 c2 c3 =>
  cases k with
  | bad _ k1 k2 => exact absurd (cu _ _ k1 c1) k2
  | limit _ k2 => exact absurd k2 c2
  | ok _ _ _ k3 =>
   refine ⟨list_gt' (by have := c3.1; have := k3.1; omega) fun j j0 j1 => ?_, rfl⟩
   have := c3.1
   exact (c3.2 j j0 (by omega)).uniq (k3.2 j j0 (by omega))
theorem MatA.rows {L : List (List Int)} {er : Er} (h : MatA F T' W L er) (hl : F.length ≤ 17592186044160) : L.length ≤ 100000 ∧ ∀ x ∈ L, x.length ≤ 100000 := by
 cases h with
 | bad _ _ _ => simp
 | limit _ _ => simp
 | ok _ c1 c2 c3 =>
  obtain ⟨m1, m2⟩ := c1.small
  refine ⟨by have := c3.1; omega, fun x hx => ?_⟩
  obtain ⟨i, hi, rfl⟩ := List.getElem_of_mem hx
  have := c3.1
  have h2 := (c3.2 i (by omega) (by omega)).len
  rw [gt_nat hi] at h2
  omega
end Go.Vd

/-! (Mx2) -/

set_option linter.unusedVariables false
set_option linter.unusedSimpArgs false
namespace Go.Vd
variable {F T' W : List Int} {s : Int}
theorem p_DocFrom (hl : F.length ≤ 17592186044160) : T (z_viaductref08_DocFrom F T' W s) fun r => ∃ er, FromA F T' W s r.1 er ∧ r.2 = (er.code, er.pls) := by
 unfold z_viaductref08_DocFrom
 refine T_bindr _ (p_refNode hl) ?_
 rintro _ ⟨er, h, rfl⟩
 dsimp only
 rw [p_Bad, Option.bind_some, T_ite]
 rcases h with ⟨h1, h2⟩ | ⟨h1, rfl, h3⟩ | ⟨h1, rfl, s0, s1⟩
 ·refine ⟨fun _ => by simp only [T_some]; exact ⟨er, .bad _ h1 h2, rfl⟩, fun k => absurd (by simpa using h1.bad.2 h2) k⟩
 ·refine ⟨fun _ => by simp only [T_some]; exact ⟨.no 7, .node h1 h3, rfl⟩, fun k => absurd (by simp [Er.code]) k⟩
 ·refine ⟨fun k => by simp [Er.code, Er.pls] at k, fun _ => T_bindr _ (p_BF h1 s0 s1) fun L hL => ?_⟩
  simp only [T_some]
  exact ⟨.nil, .ok L h1 s0 s1 hL, rfl⟩
theorem FromA.uniq {l m : List Int} {er er' : Er} (cu : ∀ a b, Chk F T' W a → Chk F T' W b → a = b) (h : FromA F T' W s l er) (k : FromA F T' W s m er') : l = m ∧ er = er' := by
 cases h with
 | bad _ c1 c2 =>
  cases k with
  | bad _ k1 k2 => exact ⟨rfl, cu _ _ c1 k1⟩
  | node k1 _ => exact absurd (cu _ _ c1 k1) c2
  | ok _ k1 _ _ _ => exact absurd (cu _ _ c1 k1) c2
 | node c1 c2 =>
  cases k with
  | bad _ k1 k2 => exact absurd (cu _ _ k1 c1) k2
  | node _ _ => exact ⟨rfl, rfl⟩
  | ok _ _ k2 k3 _ => exact absurd ⟨k2, k3⟩ c2
 | ok _ c1 c2 c3 c4 =>
  cases k with
  | bad _ k1 k2 => exact absurd (cu _ _ k1 c1) k2
  | node _ k2 => exact absurd ⟨c2, c3⟩ k2
  | ok _ _ _ _ k4 => exact ⟨c4.uniq k4, rfl⟩
theorem FromA.len {l : List Int} {er : Er} (h : FromA F T' W s l er) : l.length ≤ 100000 := by
 cases h with
 | bad _ _ _ => simp
 | node _ _ => simp
 | ok _ c1 _ _ c4 => have := c1.small.1; have := c4.len; omega
theorem FromA.err {l : List Int} {er : Er} (h : FromA F T' W s l er) : (Chk F T' W er) ∨ er = .no 7 := by
 cases h with
 | bad _ c _ => exact .inl c
 | node _ _ => exact .inr rfl
 | ok _ c _ _ _ => exact .inl c
theorem MatA.err {L : List (List Int)} {er : Er} (h : MatA F T' W L er) : (Chk F T' W er) ∨ er = .no 9 := by
 cases h with
 | bad _ c _ => exact .inl c
 | limit _ _ => exact .inr rfl
 | ok _ c _ _ => exact .inl c
end Go.Vd

/-! (Mo0) -/

namespace Go.Vd
theorem gt_setE {E : Type} [Inhabited E] {l : List E} {i j : Int} {v : E} (i0 : 0 ≤ i) (i1 : i < (l.length : Int)) (j0 : 0 ≤ j) : gt (l.set i.toNat v) j = if j = i then v else gt l j := by
 unfold gt
 rw [List.getD_eq_getElem?_getD, List.getD_eq_getElem?_getD, List.getElem?_set]
 by_cases h : j = i
 ·subst h; rw [if_pos rfl, if_pos rfl, if_pos (by omega)]; rfl
 ·rw [if_neg h, if_neg (by omega)]
end Go.Vd

/-! (ChkU) -/

namespace Go.Vd
variable {F T' W l : List Int}
theorem Chk.uniq {er er' : Er} (h : Chk F T' W er) (k : Chk F T' W er') : er = er' := by
 cases h with
 | shape h1 =>
  cases k with
  | shape _ => rfl
  | limit k1 _ => exact absurd k1 h1
  | mono v k1 => exact absurd k1 h1
  | arc v i k1 => exact absurd k1 h1
  | ok k1 => exact absurd k1 h1
 | limit h1 h2 =>
  cases k with
  | shape k1 => exact absurd h1 k1
  | limit _ _ => rfl
  | mono v _ k2 => exact absurd k2 h2
  | arc v i _ k2 => exact absurd k2 h2
  | ok _ k2 => exact absurd k2 h2
 | mono v h1 h2 h3 h4 h5 h6 =>
  cases k with
  | shape k1 => exact absurd h1 k1
  | limit _ k2 => exact absurd h2 k2
  | mono v' _ _ k3 k4 k5 k6 =>
   have : v = v' := by
    rcases Int.lt_trichotomy v v' with q | q | q
    ·have := k6 v h3 q; omega
    ·exact q
    ·have := h6 v' k3 q; omega
   rw [this]
  | arc v' i _ _ k3 => have := k3 v h3 h4; omega
  | ok _ _ k3 => have := k3 v h3 h4; omega
 | arc v i h1 h2 h3 h4 h5 h6 =>
  cases k with
  | shape k1 => exact absurd h1 k1
  | limit _ k2 => exact absurd h2 k2
  | mono v' _ _ k3 k4 k5 k6 => have := h3 v' k3 k4; omega
  | arc v' i' _ _ _ k4 k5 k6 =>
   have e : i = i' := by
    rcases Int.lt_trichotomy i i' with q | q | q
    ·exact absurd (k6 v i h4 q) h5
    ·exact q
    ·exact absurd (h6 v' i' k4 q) k5
   subst e
   rw [In.uniq h3 h4 k4]
  | ok _ _ _ k4 => exact absurd (k4 v i h4) h5
 | ok h1 h2 h3 h4 =>
  cases k with
  | shape k1 => exact absurd h1 k1
  | limit _ k2 => exact absurd h2 k2
  | mono v' _ _ k3 k4 k5 k6 => have := h3 v' k3 k4; omega
  | arc v' i' _ _ _ k4 k5 k6 => exact absurd (h4 v' i' k4) k5
  | ok => rfl
end Go.Vd

/-! (PrO8) -/

set_option linter.unusedVariables false
set_option linter.unusedSimpArgs false
namespace Go.Vd
variable {F T' W l : List Int} {s t : Int}
theorem p_of08 (h1 : F.length ≤ 17592186043904) (h2 : T'.length ≤ 17592186043904) (h3 : W.length ≤ 17592186043904) : z_viaductlaw08_of F T' W = some (F, T', W) := by
 simp [z_viaductlaw08_of, z_viaductref05_Twin, p_TwinInts h1, p_TwinInts h2, p_TwinInts h3]
end Go.Vd

/-! (PrSf) -/

set_option linter.unusedVariables false
set_option linter.unusedSimpArgs false
namespace Go.Vd
variable {F T' W l : List Int} {s t : Int}
theorem p_few08 (h1 : F.length ≤ 17592186043904) : T (z_viaductlaw08_few F T' W) fun _ => True := by
 unfold z_viaductlaw08_few
 refine T_bindr _ (p_DocCheck (by omega)) ?_
 rintro _ ⟨er, hc, rfl⟩
 rw [p_Bad, Option.bind_some]
 simp
end Go.Vd

/-! (PrSearchMemory) -/

set_option linter.unusedVariables false
set_option linter.unusedSimpArgs false
namespace Go.Vd
variable {F T' W l : List Int} {s t : Int}
theorem PathA.len {p : List Int} {er : Er} (h : PathA F T' W s t p er) : p.length ≤ 1000000 := by
 cases h with
 | bad _ _ _ => simp
 | node _ _ => simp
 | none _ _ _ _ _ _ => simp
 | ok _ _ _ _ _ _ _ _ _ P => have := P.small; omega
theorem p_CsrSame (h1 : F.length ≤ 1152921504606846976) (h2 : T'.length ≤ 1152921504606846976) (h3 : W.length ≤ 1152921504606846976) : z_viaductref05_Same F T' W F T' W = some true := by
 unfold z_viaductref05_Same
 simp [p_SameInts h1, p_SameInts h2, p_SameInts h3]
theorem p_m0 {y : List Int × Er} (hl : y.1.length ≤ 1000000) : T (loopO (fun zz_ => z_viaductlaw08_SearchMemory_l0 y zz_.1 zz_.2) (y.1, 0)) fun _ => True := by
 refine T_loop (fun z => 0 ≤ z.2 ∧ z.2 ≤ (y.1.length : Int) ∧ z.1.length = y.1.length) (fun z => ((y.1.length : Int) - z.2).toNat) ?_ ⟨by simp, by simp, rfl⟩
 rintro ⟨a, i⟩ ⟨i0, i1, la⟩
 dsimp only at *
 unfold z_viaductlaw08_SearchMemory_l0
 rw [T_ite]
 refine ⟨fun hlt => ?_, fun hge => by simp⟩
 simp only [T_G, T_some, Sum.elim_inl, List.length_set]
 exact ⟨⟨i0, by omega⟩, by omega, ⟨by omega, by omega, la⟩, by omega⟩
theorem p_m1 {y : List Int × Er} (hl : y.1.length ≤ 1000000) : T (loopO (fun zz_ => z_viaductlaw08_SearchMemory_l1 y zz_.1 zz_.2) (0, y.1)) fun _ => True := by
 refine T_loop (fun z => 0 ≤ z.1 ∧ z.1 ≤ (y.1.length : Int) ∧ z.2.length = y.1.length) (fun z => ((y.1.length : Int) - z.1).toNat) ?_ ⟨by simp, by simp, rfl⟩
 rintro ⟨i, a⟩ ⟨i0, i1, la⟩
 dsimp only at *
 unfold z_viaductlaw08_SearchMemory_l1
 rw [T_ite]
 refine ⟨fun hlt => ?_, fun hge => by simp⟩
 simp only [T_G, T_some, Sum.elim_inl, List.length_set]
 exact ⟨⟨i0, by omega⟩, by omega, ⟨by omega, by omega, la⟩, by omega⟩
theorem p_m2 {L : List (List Int)} {i : Int} (i0 : 0 ≤ i) (i1 : i < (L.length : Int)) (hb : (gt L i).length ≤ 1000000) :
  T (loopO (fun zz_ => z_viaductlaw08_SearchMemory_l2 i L zz_.1 zz_.2) (0, L)) fun o => o.length = L.length ∧ (gt o i).length = (gt L i).length ∧ (∀ j, 0 ≤ j → j ≠ i → gt o j = gt L j) ∧ ∀ k, 0 ≤ k → k < ((gt o i).length : Int) → gt (gt o i) k = 78 := by
 refine T_loop (fun z => 0 ≤ z.1 ∧ z.1 ≤ ((gt L i).length : Int) ∧ z.2.length = L.length ∧ (gt z.2 i).length = (gt L i).length ∧ (∀ j, 0 ≤ j → j ≠ i → gt z.2 j = gt L j) ∧ ∀ k, 0 ≤ k → k < z.1 → gt (gt z.2 i) k = 78) (fun z => (((gt L i).length : Int) - z.1).toNat) ?_ ⟨by simp, by simp, rfl, rfl, fun _ _ _ => rfl, fun k _ _ => by dsimp only at *; omega⟩
 rintro ⟨k, o⟩ ⟨k0, k1, l1, l2, l3, l4⟩
 dsimp only at *
 unfold z_viaductlaw08_SearchMemory_l2
 rw [T_ite]
 refine ⟨fun hlt => ?_, fun hge => by simp only [T_some, Sum.elim_inr]; exact ⟨l1, l2, l3, fun q q0 q1 => l4 q q0 (by omega)⟩⟩
 have hs : ∀ (v : List Int) (j : Int), 0 ≤ j → gt (o.set i.toNat v) j = if j = i then v else gt o j := fun v j j0 => gt_setE i0 (by omega) j0
 simp only [T_G, T_some, Sum.elim_inl, List.length_set]
 refine ⟨by omega, ⟨k0, by omega⟩, by omega, ⟨by omega, by omega, l1, ?_, fun j j0 hj => ?_, fun q q0 q1 => ?_⟩, by omega⟩
 ·rw [hs _ i i0, if_pos rfl, List.length_set]; exact l2
 ·rw [hs _ j j0, if_neg hj]; exact l3 j j0 hj
 ·rw [hs _ i i0, if_pos rfl, gt_setE k0 (by omega) q0]
  split
  ·rfl
  ·exact l4 q q0 (by omega)
theorem p_m3 {y : List (List Int) × Er} (hl : y.1.length ≤ 1000000) (hr : ∀ x ∈ y.1, x.length ≤ 1000000) :
  T (loopO (fun zz_ => z_viaductlaw08_SearchMemory_l3 y zz_.1 zz_.2) (0, y.1)) (Sum.elim (fun _ => False) fun o => o.length = y.1.length ∧ (∀ j, 0 ≤ j → j < (y.1.length : Int) → (gt o j).length ≤ 1000000) ∧ ∀ j, 0 ≤ j → j < (y.1.length : Int) → ∀ k, 0 ≤ k → k < ((gt o j).length : Int) → gt (gt o j) k = 78) := by
 refine T_loop (fun z => 0 ≤ z.1 ∧ z.1 ≤ (y.1.length : Int) ∧ z.2.length = y.1.length ∧ (∀ j, 0 ≤ j → j < (y.1.length : Int) → (gt z.2 j).length ≤ 1000000) ∧ ∀ j, 0 ≤ j → j < z.1 → ∀ k, 0 ≤ k → k < ((gt z.2 j).length : Int) → gt (gt z.2 j) k = 78) (fun z => ((y.1.length : Int) - z.1).toNat) ?_ ⟨by simp, by simp, rfl, fun j j0 j1 => ?_, fun j _ _ => by dsimp only at *; omega⟩
 rotate_left
 ·have hj : j.toNat < y.1.length := by omega
  have : gt y.1 j = y.1[j.toNat] := by simp [gt, List.getD_eq_getElem?_getD, List.getElem?_eq_getElem hj]
  show (gt y.1 j).length ≤ _
  rw [this]; exact hr _ (List.getElem_mem hj)
 rintro ⟨i, o⟩ ⟨i0, i1, l1, l2, l3⟩
 dsimp only at *
 unfold z_viaductlaw08_SearchMemory_l3
 rw [T_ite]
 refine ⟨fun hlt => ?_, fun hge => by simp only [T_some, Sum.elim_inr]; exact ⟨l1, l2, fun j j0 j1 => l3 j j0 (by omega)⟩⟩
 simp only [T_G]
 refine ⟨⟨i0, by omega⟩, ?_⟩
 have hb := l2 i i0 hlt
 refine T_bindr _ (p_m2 i0 (by omega) hb) ?_
 rintro p ⟨p1, p2, p3, p4⟩
 have e2 : ([1, 2] : List Int).length = 2 := rfl
 simp only [T_G, e2]
 refine ⟨by omega, by omega, ⟨by omega, by omega⟩, ?_⟩
 rw [if_pos (by rw [List.length_append, e2]; omega)]
 simp only [T_G, T_some, Sum.elim_inl]
 refine ⟨by omega, ⟨by omega, by omega, by omega, fun j j0 j1 => ?_, fun j j0 j1 k k0 k1 => ?_⟩, by omega⟩
 ·by_cases e : j = i
  ·subst e; omega
  ·rw [p3 j j0 e]; exact l2 j j0 j1
 ·by_cases e : j = i
  ·subst e; exact p4 k k0 k1
  ·rw [p3 j j0 e] at k1 ⊢
   exact l3 j j0 (by omega) k k0 k1
theorem p_m5 {o : List (List Int)} (hl : o.length ≤ 1000000) (hr : ∀ j, 0 ≤ j → j < (o.length : Int) → (gt o j).length ≤ 1000000) (h : ∀ j, 0 ≤ j → j < (o.length : Int) → ∀ k, 0 ≤ k → k < ((gt o j).length : Int) → gt (gt o j) k = 78) :
  T (loopO (fun zz_ => z_viaductlaw08_SearchMemory_l5 o zz_) 0) (Sum.elim (fun _ => False) fun _ => True) := by
 refine T_loop (fun i => 0 ≤ i ∧ i ≤ (o.length : Int)) (fun i => ((o.length : Int) - i).toNat) ?_ ⟨by simp, by simp⟩
 rintro i ⟨i0, i1⟩
 unfold z_viaductlaw08_SearchMemory_l5
 rw [T_ite]
 refine ⟨fun hlt => ?_, fun hge => by simp⟩
 have hb := hr i i0 hlt
 simp only [T_G]
 refine ⟨i0, ?_⟩
 refine T_binds (fun _ => True) ?_ ?_
 ·refine T_loop (fun k => 0 ≤ k ∧ k ≤ ((gt o i).length : Int)) (fun k => (((gt o i).length : Int) - k).toNat) ?_ ⟨by simp, by simp⟩
  rintro k ⟨k0, k1⟩
  unfold z_viaductlaw08_SearchMemory_l4
  rw [T_ite]
  refine ⟨fun hk => ?_, fun hge => by simp⟩
  rw [if_pos (h i i0 hlt k k0 hk)]
  simp only [T_G, T_some, Sum.elim_inl]
  omega
 ·intro _ _
  simp only [T_G, T_some, Sum.elim_inl]
  omega
theorem p_SearchMemory (h1 : F.length ≤ 17592186043904) (h2 : T'.length ≤ 17592186043904) (h3 : W.length ≤ 17592186043904) : z_viaductlaw08_SearchMemory F T' W s t = some true := by
 refine T_eq.1 ?_
 unfold z_viaductlaw08_SearchMemory
 refine T_bindr _ (p_few08 h1) fun b _ => ?_
 rw [T_ite]
 refine ⟨fun _ => by simp, fun _ => ?_⟩
 have cu : ∀ a b, Chk F T' W a → Chk F T' W b → a = b := fun _ _ x y => x.uniq y
 rw [p_of08 h1 h2 h3, Option.bind_some]
 dsimp only
 obtain ⟨⟨p, er⟩, qF, hF⟩ := p_From (F := F) (T' := T') (W := W) (s := s) (by omega) (by omega) (p_Check (by omega) (by omega))
 obtain ⟨⟨L, er2⟩, qM, hM⟩ := p_Matrix (F := F) (T' := T') (W := W) (by omega) (by omega)
 obtain ⟨⟨P, er3⟩, qP, hP⟩ := p_Path (F := F) (T' := T') (W := W) (s := s) (t := t) (by omega) (by omega) fun l hl => p_Reverse hl
 dsimp only at hF hM hP
 have lF := hF.len
 have lM := hM.rows (by omega)
 have lP := hP.len
 rw [qF, Option.bind_some, Option.bind_some, qM, Option.bind_some, Option.bind_some, qP, Option.bind_some, Option.bind_some]
 refine T_bindr _ (p_Bounded (by omega) (by omega) (p_Check (by omega) (by omega))) fun _ _ => ?_
 rw [p_CsrSame (by omega) (by omega) (by omega), Option.bind_some]
 simp only [Bool.not_true, Bool.false_eq_true, if_false]
 refine T_bindr _ (p_m0 (y := (p, er)) (by dsimp only; omega)) fun _ _ => ?_
 refine T_bindr _ (p_m1 (y := (P, er3)) (by dsimp only; omega)) fun _ _ => ?_
 refine T_binds (fun o => o.length = L.length ∧ (∀ j, 0 ≤ j → j < (L.length : Int) → (gt o j).length ≤ 1000000) ∧ ∀ j, 0 ≤ j → j < (L.length : Int) → ∀ k, 0 ≤ k → k < ((gt o j).length : Int) → gt (gt o j) k = 78) (T_mono (p_m3 (y := (L, er2)) (by have := lM.1; dsimp only; omega) (fun x hx => by have := lM.2 x hx; omega)) ?_) ?_
 ·rintro (_ | o) h
  ·exact h.elim
  ·exact h
 rintro o ⟨o1, o2, o3⟩
 refine T_binds (fun _ => True) (T_mono (p_m5 (o := o) (by have := lM.1; omega) (fun j j0 j1 => o2 j j0 (by omega)) (fun j j0 j1 => o3 j j0 (by omega))) ?_) fun _ _ => ?_
 ·rintro (_ | _) h
  ·exact h.elim
  ·trivial
 refine T_bindr _ (p_DocFrom (by omega)) ?_
 rintro ⟨q, _⟩ ⟨er4, hB, rfl⟩
 dsimp only at *
 obtain ⟨rfl, rfl⟩ := hF.uniq cu hB
 refine T_bindr _ (p_DocMatrix (by omega)) ?_
 rintro ⟨M, _⟩ ⟨er5, hB2, rfl⟩
 dsimp only at *
 obtain ⟨rfl, rfl⟩ := hM.uniq cu hB2
 refine T_bindr _ (p_DocPath (by omega)) ?_
 rintro _ ⟨d, er6, hD, rfl⟩
 dsimp only
 rw [p_SameRow (by omega), Option.bind_some, decide_eq_true rfl, if_pos rfl, p_SameMatrix (by have := lM.1; omega) (fun x hx => by have := lM.2 x hx; omega), Option.bind_some, decide_eq_true rfl, if_pos rfl, T_ite]
 refine ⟨fun he => ?_, fun _ => by simp⟩
 cases hP with
 | bad _ c1 c2 => exact absurd he c2
 | node c1 c2 => cases he
 | none D c1 c2 c3 c4 c5 => cases he
 | ok D _ d' c1 c2 c3 c4 c5 c6 c7 =>
  cases hD with
  | bad _ k1 k2 => exact absurd (k1.uniq c1) k2
  | node _ k => exact absurd ⟨c2, c3⟩ k
  | none L _ _ _ k4 k5 =>
   rw [← c4.uniq k4.cd t, c6] at k5; cases k5
  | ok L _ _ _ _ k4 k5 =>
   rw [← c4.uniq k4.cd t, c6] at k5
   cases k5
   rw [p_rPath c1 c7 c4.src c6 c5]
   simp
end Go.Vd
