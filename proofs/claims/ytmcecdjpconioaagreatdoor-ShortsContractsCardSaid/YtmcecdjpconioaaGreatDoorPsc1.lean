/- The document's search over an overlay. Plain Lean: no program here. -/
import Derived.Test.YtmcecdjpconioaaGreatDoorPsc0
import Derived.Test.YtmcecdjpconioaaGreatDoorPscISc
set_option linter.unusedVariables false
set_option linter.unusedSimpArgs false
set_option linter.unusedSectionVars false
/-! (WtG) -/

set_option linter.unusedVariables false
set_option linter.unusedSimpArgs false
set_option maxHeartbeats 1000000
namespace Go.Vd
variable {nodes : List Nod} {alive arcs : Int} {A : List Bool} {M : List OAr} {u v skip hops most settles c N : Int} {goals : List Int}
theorem Zns {n : Nat} {x : Int} (x0 : 0 ≤ x) (x1 : x < (n : Int)) {E : Type} [Inhabited E] {e : E} : gt (List.replicate n e) x = e := by
 unfold gt
 rw [List.getD_eq_getElem?_getD, List.getElem?_replicate, if_pos (by omega)]; rfl
theorem Zkp {E : Type} [Inhabited E] {l : List E} {i j : Int} {v : E} (i0 : 0 ≤ i) (i1 : i < (l.length : Int)) (j0 : 0 ≤ j) : gt (l.set i.toNat v) j = if j = i then v else gt l j := by
 unfold gt
 rw [List.getD_eq_getElem?_getD, List.getD_eq_getElem?_getD, List.getElem?_set]
 by_cases h : j = i
 ·subst h; rw [if_pos rfl, if_pos (by omega), if_pos rfl]; rfl
 ·rw [if_neg (by omega), if_neg h]
theorem Zoe (h : OvR nodes alive arcs A M) : T (Zcb A M skip) fun rows => rows.length = A.length /\ ∀ v, 0 ≤ v -> v < (A.length : Int) -> gt rows v = Zc5 M skip v := by
 have hsm := h.sm
 unfold Zcb
 rw [T_G]
 refine ⟨by omega, ?_⟩
 refine Zm (fun rows => rows.length = A.length /\ ∀ v, 0 ≤ v -> v < (A.length : Int) -> gt rows v = Zc5 M skip v) ?_ fun r k => by simpa using k
 refine ZS (fun z => 0 ≤ z.1 /\ z.1 ≤ (A.length : Int) /\ z.2.length = A.length /\ (∀ v, 0 ≤ v -> v < z.1 -> gt z.2 v = Zc5 M skip v) /\ ∀ v, z.1 ≤ v -> v < (A.length : Int) -> gt z.2 v = []) (fun z => ((A.length : Int) - z.1).toNat) ?_ ⟨by simp, by simp, by simp, fun v v0 v1 => by dsimp only at v1; omega, fun v v0 v1 => Zns v0 (by simpa using v1)⟩
 rintro ⟨i, rows⟩ ⟨i0, i1, hl, h1, h2⟩
 dsimp only at *
 unfold Zbg
 rw [List.length_replicate, Zs]
 refine ⟨fun hlt => ?_, fun hge => ?_⟩
 rotate_left
 ·simp only [Zd, Sum.elim_inr]
  exact ⟨hl, fun v v0 v1 => h1 v v0 (by omega)⟩
 rw [Zje h.kd h.lb, Option.bind_some]
 have hol := h.outLen i
 refine Zm (fun r => r.length = A.length /\ gt r i = Zc5 M skip i /\ ∀ v, 0 ≤ v -> v < (A.length : Int) -> v ≠ i -> gt r v = gt rows v) ?_ ?_
 ·refine ZS (fun z => 0 ≤ z.1 /\ z.1 ≤ ((Zz M i).length : Int) /\ z.2.length = A.length /\ gt z.2 i = (((Zz M i).take z.1.toNat).filter fun h => decide (h.1 ≠ skip)).map (fun h => (h.1, h.2.1)) /\ ∀ v, 0 ≤ v -> v < (A.length : Int) -> v ≠ i -> gt z.2 v = gt rows v) (fun z => (((Zz M i).length : Int) - z.1).toNat) ?_ ⟨by simp, by simp, hl, by simpa using h2 i (by omega) hlt, fun _ _ _ _ => rfl⟩
  rintro ⟨j, r⟩ ⟨j0, j1, kl, k1, k2⟩
  dsimp only at *
  unfold Zbb
  rw [Zs]
  refine ⟨fun hj => ?_, fun hj => ?_⟩
  rotate_left
  ·simp only [Zd, Sum.elim_inr]
   rw [List.take_of_length_le (by omega)] at k1
   exact ⟨kl, k1, k2⟩
  have hs := ZcC j0 hj
  have hrl : (gt r i).length ≤ (Zz M i).length := by
   rw [k1, List.length_map]
   exact Nat.le_trans (List.length_filter_le _ _) (by rw [List.length_take]; omega)
  rw [T_G]
  refine ⟨j0, ?_⟩
  rw [Zs]
  refine ⟨fun he => ?_, fun he => ?_⟩
  ·simp only [T_G, Zd, Sum.elim_inl]
   refine ⟨by omega, ⟨by omega, by omega, kl, ?_, k2⟩, by omega⟩
   rw [hs, List.filter_append, List.filter_cons, if_neg (by simp [he]), k1]; simp
  ·simp only [T_G, Zd, Sum.elim_inl]
   refine ⟨by omega, by omega, by omega, ⟨by omega, by omega, by simpa using kl, ?_, fun v v0 v1 hv => ?_⟩, by omega⟩
   ·rw [Zkp i0 (by omega) i0, if_pos rfl, k1, hs, List.filter_append, List.filter_cons, if_pos (by simp [he])]; simp
   ·rw [Zkp i0 (by omega) v0, if_neg hv]; exact k2 v v0 v1 hv
 ·rintro r ⟨kl, k1, k2⟩
  simp only [T_G, Zd, Sum.elim_inl]
  refine ⟨by omega, ⟨by omega, by omega, kl, fun v v0 v1 => ?_, fun v v0 v1 => ?_⟩, by omega⟩
  ·by_cases e : v = i
   ·rw [e]; exact k1
   ·rw [k2 v v0 (by omega) e]; exact h1 v v0 (by omega)
  ·rw [k2 v (by omega) v1 (by omega)]; exact h2 v (by omega) v1
theorem Znc (h : OvR nodes alive arcs A M) (hu : ZJ A u) (hg : goals.length ≤ 10000000000000) (hl : ∀ j, 0 ≤ j -> j < (goals.length : Int) -> ZJ A (gt goals j)) (hset : settles ≤ 9223372036854775807) :
  T (Zca A M u skip goals most hops settles) fun l => ∃ Lf, WR (Zc5 M skip) hops settles most 0 (ZdE u) Lf /\ l = goals.map (far Lf) := by
 have hsm := h.sm
 unfold Zca
 refine Zm _ (Zoe (skip := skip) h) ?_
 rintro rows ⟨r1, r2⟩
 refine Zm _ (Zom (n := A.length) (row := Zc5 M skip) (hops := hops) (most := most) (settles := settles) (by omega) (by omega) (fun v v0 v1 => ⟨r2 v v0 v1, h.rowLen v⟩) h.rowOk hu.1 hu.2.1 hset) ?_
 rintro ⟨Ds, Hs, Has, St⟩ ⟨Lf, hR, hLf, B⟩
 dsimp only at *
 have lD := B.lD; have lA := B.lA
 dsimp only at lD lA
 refine Zm (fun l => l = goals.map (far Lf)) ?_ fun l e => by simp only [Zd]; exact ⟨Lf, hR, e⟩
 refine ZS (fun z => 0 ≤ z.2 /\ z.2 ≤ (goals.length : Int) /\ z.1 = (goals.take z.2.toNat).map (far Lf)) (fun z => ((goals.length : Int) - z.2).toNat) ?_ ⟨by simp, by simp, by simp⟩
 rintro ⟨l, i⟩ ⟨i0, i1, e⟩
 dsimp only at *
 have hll : l.length ≤ goals.length := by rw [e, List.length_map, List.length_take]; omega
 unfold Zbm
 rw [Zs]
 refine ⟨fun hlt => ?_, fun hge => ?_⟩
 rotate_left
 ·simp only [Zd, Sum.elim_inr]
  rw [e, List.take_of_length_le (by omega)]
 have hs := ZcC i0 hlt
 obtain ⟨w0, w1, _⟩ := hl i i0 hlt
 simp only [T_G]
 refine ⟨i0, by omega, ?_⟩
 rw [Zs]
 refine ⟨fun hx => ?_, fun hx => ?_⟩
 ·simp only [T_G, Zd, Sum.elim_inl]
  refine ⟨by omega, by omega, by omega, ⟨by omega, by omega, ?_⟩, by omega⟩
  have hf : far Lf (gt goals i) = gt Ds (gt goals i) := by
   rw [← hLf]; unfold far Zay
   dsimp only
   have hc : 0 ≤ gt goals i /\ gt goals i < (A.length : Int) /\ gt Has (gt goals i) = true := ⟨w0, w1, hx⟩
   simp [hc]
  rw [hs, List.map_append, e, List.map_cons, List.map_nil, hf]
 ·simp only [T_G, Zd, Sum.elim_inl]
  refine ⟨by omega, by omega, ⟨by omega, by omega, ?_⟩, by omega⟩
  have hf : far Lf (gt goals i) = 18446744073709551615 := by
   rw [← hLf]; unfold far Zay
   dsimp only
   have hc : ¬ (0 ≤ gt goals i /\ gt goals i < (A.length : Int) /\ gt Has (gt goals i) = true) := fun k => hx k.2.2
   simp [hx]
  rw [hs, List.map_append, e, List.map_cons, List.map_nil, hf]
end Go.Vd

/-! (OvN) -/

set_option linter.unusedVariables false
set_option linter.unusedSimpArgs false
set_option maxHeartbeats 1000000
namespace Go.Vd
variable {l : List Hf} {L : List OAr} {B : List Bool} {v wt via N : Int} {A M : List A3}
theorem p_rIn (h : KD L) (hl : L.length ≤ 1000000) : ZcF B L v = some (inL L v) := by
 refine Zd1.1 ?_
 unfold ZcF
 refine Zm (fun o => o = inL L v) ?_ fun o e => by simp only [Zd]; exact e
 refine ZS (fun z => 0 ≤ z.1 /\ z.1 ≤ (L.length : Int) /\ z.2 = inL (L.take z.1.toNat) v) (fun z => ((L.length : Int) - z.1).toNat) ?_ ⟨by simp, by simp, rfl⟩
 rintro ⟨i, o⟩ ⟨i0, i1, e⟩
 dsimp only at *
 subst e
 unfold Zb0
 rw [Zs]
 refine ⟨fun hlt => ?_, fun hge => by simp only [Zd, Sum.elim_inr]; rw [List.take_of_length_le (by omega)]⟩
 have hs := Za7 i0 hlt
 have hk1 : KD (L.take i.toNat) := List.Pairwise.sublist (List.take_sublist _ _) h
 have hk2 : KD (L.take (i + 1).toNat) := List.Pairwise.sublist (List.take_sublist _ _) h
 have hlen := ZhX hk1 v
 have hlen2 : (L.take i.toNat).length ≤ L.length := by rw [List.length_take]; omega
 rw [hs] at hk2
 have hsn := ZjO (L.take i.toNat) (gt L i) v
 rw [← hs] at hsn
 have hno := (List.pairwise_append.1 hk2).2.2
 rw [T_G, Zs]
 refine ⟨i0, fun hv => ?_, fun hv => ?_⟩
 ·rw [Zl0 (Zdl _ _) (fun x hx hxe => hno _ ((Za3 hk1).1 hx) _ (List.mem_singleton.2 rfl) ⟨hxe, hv.symm⟩) (by omega), Option.bind_some]
  simp only [T_G, Zd, Sum.elim_inl]
  exact ⟨by omega, ⟨by omega, by omega, by rw [hsn, if_pos hv.symm]⟩, by omega⟩
 ·simp only [T_G, Zd, Sum.elim_inl]
  exact ⟨by omega, ⟨by omega, by omega, by rw [hsn, if_neg (fun e => hv e.symm)]⟩, by omega⟩
end Go.Vd

/-! (OvF) -/

set_option linter.unusedVariables false
set_option linter.unusedSimpArgs false
set_option maxHeartbeats 1000000
namespace Go.Vd
variable {l : List Hf} {L : List OAr} {B : List Bool} {v wt via N : Int} {A M : List A3}
theorem ZnX (n0 : 0 ≤ N) (n1 : N ≤ 65536) (hM : M.length ≤ 262144) (hw : ∀ a ∈ M, 0 ≤ a.2.2 /\ a.2.2 ≤ 2147483647) : Zcm N M = some (List.replicate N.toNat true, M.map up4) := by
 refine Zd1.1 ?_
 unfold Zcm
 rw [T_G]
 refine ⟨by omega, ?_⟩
 refine Zm (fun o => o = List.replicate N.toNat true) ?_ ?_
 ·refine ZS (fun z => 0 ≤ z.1 /\ z.1 ≤ N /\ z.2.length = N.toNat /\ ∀ j, 0 ≤ j -> j < z.1 -> gt z.2 j = true) (fun z => (N - z.1).toNat) ?_ ⟨by simp, by simp; exact n0, by simp, fun j j0 j1 => by dsimp only at j1; omega⟩
  rintro ⟨i, o⟩ ⟨i0, i1, ol, h⟩
  dsimp only at *
  unfold ZbE
  rw [List.length_replicate, Zs]
  refine ⟨fun hlt => ?_, fun hge => ?_⟩
  ·simp only [T_G, Zd, Sum.elim_inl]
   refine ⟨⟨i0, by omega⟩, by omega, ⟨by omega, by omega, by simpa using ol, fun j j0 j1 => ?_⟩, by omega⟩
   rw [ZcU i0 (by omega) j0]
   by_cases q : j = i
   ·rw [if_pos q]
   ·rw [if_neg q]; exact h j j0 (by omega)
  ·simp only [Zd, Sum.elim_inr]
   refine ZmI (by rw [ol, List.length_replicate]) fun j j0 j1 => ?_
   rw [h j j0 (by omega), ZfH j0 (by omega)]
 ·rintro _ rfl
  refine Zm (fun o => o = M.map up4) ?_ fun o e => by simp only [Zd]; rw [e]
  refine ZS (fun z => 0 ≤ z.1 /\ z.1 ≤ (M.length : Int) /\ z.2 = (M.take z.1.toNat).map up4) (fun z => ((M.length : Int) - z.1).toNat) ?_ ⟨by simp, by simp, rfl⟩
  rintro ⟨i, o⟩ ⟨i0, i1, e⟩
  dsimp only at *
  subst e
  unfold Zbp
  rw [Zs]
  refine ⟨fun hlt => ?_, fun hge => by simp only [Zd, Sum.elim_inr]; rw [List.take_of_length_le (by omega)]⟩
  have hm : gt M i ∈ M := by
   unfold gt
   rw [List.getD_eq_getElem?_getD, List.getElem?_eq_getElem (by omega)]
   exact List.getElem_mem _
  have hb := hw _ hm
  simp only [T_G, Zd, Sum.elim_inl, List.length_map, List.length_take]
  refine ⟨i0, by omega, by omega, by omega, ⟨by omega, by omega, ?_⟩, by omega⟩
  rw [Za7 i0 hlt, List.map_append]; rfl
theorem Zmw (hc : GChk N A .nil) : T (ZbI N A) fun r => ∃ M, Nrm A M /\ M.length ≤ A.length /\ r = (List.replicate N.toNat true, M.map up4, 0, []) := by
 unfold ZbI
 obtain ⟨n0, n1, n2⟩ := hc.small
 refine Zm _ ZmD ?_
 rintro ⟨n, M, c, ps⟩ ⟨er, hO, e1, e2⟩
 dsimp only at *
 cases hO with
 | bad _ c n => exact absurd (c.uniq hc) n
 | ok _ _ hM hl =>
  subst e1; subst e2
  rw [ZiZ, Option.bind_some, if_neg (by simp [Er.code, Er.pls]), ZnX n0 n1 (by omega) (fun a ha => by have := hc.arcs a (hM.sub a ha).1; omega), Option.bind_some]
  simp only [Zd]
  exact ⟨M, hM, hl, rfl⟩
end Go.Vd

/-! (OvH) -/

set_option linter.unusedVariables false
set_option linter.unusedSimpArgs false
set_option maxHeartbeats 1000000
namespace Go.Vd
variable {L : List OAr} {A : List Bool} {u v w wt via : Int}
theorem Zl1 (hl : L.length ≤ 1000000) : T (ZbD A L u w) fun r => Wt L u w r.1 r.2 := by
 unfold ZbD
 refine Zcf (fun _ => ∀ a ∈ L, ¬ (a.1 = u /\ a.2.1 = w)) ?_ fun _ h => by simp only [Zd]; exact .inr ⟨rfl, rfl, h⟩
 refine ZS (fun i => 0 ≤ i /\ i ≤ (L.length : Int) /\ ∀ a ∈ L.take i.toNat, ¬ (a.1 = u /\ a.2.1 = w)) (fun i => ((L.length : Int) - i).toNat) ?_ ⟨by simp, by simp, fun a ha => by simp at ha⟩
 rintro i ⟨i0, i1, h⟩
 unfold ZaW
 rw [Zs]
 refine ⟨fun hlt => ?_, fun hge => ?_⟩
 ·have hm : gt L i ∈ L := by
   unfold gt
   rw [List.getD_eq_getElem?_getD, List.getElem?_eq_getElem (by omega)]
   exact List.getElem_mem _
  have hs := Za7 i0 hlt
  have nx : ¬ ((gt L i).1 = u /\ (gt L i).2.1 = w) -> ∀ a ∈ L.take (i + 1).toNat, ¬ (a.1 = u /\ a.2.1 = w) := fun hn a ha => by
   rw [hs] at ha
   rcases List.mem_append.1 ha with ha | ha
   ·exact h a ha
   ·rw [List.mem_singleton.1 ha]; exact hn
  simp only [T_G, Zs, Zd9, Zd, Sum.elim_inl, Sum.elim_inr]
  exact ⟨i0, fun e1 => ⟨fun e2 => .inl ⟨rfl, _, hm, e1, e2, rfl⟩, fun e2 => ⟨by omega, ⟨by omega, by omega, nx fun e => e2 e.2⟩, by omega⟩⟩, fun e1 => ⟨by omega, ⟨by omega, by omega, nx fun e => e1 e.1⟩, by omega⟩⟩
 ·simp only [Zd, Sum.elim_inr]
  rw [List.take_of_length_le (by omega)] at h
  exact h
end Go.Vd

/-! (ShG) -/

set_option linter.unusedVariables false
set_option linter.unusedSimpArgs false
set_option maxHeartbeats 1000000
namespace Go.Vd
variable {nodes : List Nod} {alive arcs : Int} {A : List Bool} {M : List OAr} {u v skip hops settles c N i : Int} {a : Hf} {I : List Hf}
def ZeR (a : Hf) (l : List Hf) : List Int := (l.filter fun b => decide (b.1 ≠ a.1)).map fun b => b.2.1
theorem ZlD {l : List Hf} {b : Hf} : ZeR a (l ++ [b]) = ZeR a l ++ (if b.1 = a.1 then [] else [b.2.1]) := by
 unfold ZeR
 rw [List.filter_append, List.map_append]
 by_cases e : b.1 = a.1
 ·rw [if_pos e, List.filter_cons, if_neg (by simp [e])]; rfl
 ·rw [if_neg e, List.filter_cons, if_pos (by simp [e])]; rfl
theorem ZnG {l : List Hf} {j : Int} (j0 : 0 ≤ j) (j1 : j < ((Z6 a l).length : Int)) : ((ZeR a l).length = (Z6 a l).length) /\ a.2.1 + gt (ZeR a l) j = (gt (Z6 a l) j).2.2 := by
 unfold ZeR Z6 at *
 rw [List.length_map] at j1
 refine ⟨by rw [List.length_map, List.length_map], ?_⟩
 unfold gt
 rw [List.getD_eq_getElem?_getD, List.getD_eq_getElem?_getD, List.getElem?_map, List.getElem?_map, List.getElem?_eq_getElem (by omega)]; rfl
theorem Zmm (h : OvR nodes alive arcs A M) (ha : a ∈ inL M v) (hI : gt I i = a) :
  T (ZN (fun zz_ => Zau I i (Zz M v) zz_.1 zz_.2.1 zz_.2.2.1 zz_.2.2.2) ([], [], 0, 0)) fun r => r = ((Z6 a (Zz M v)).map (fun s => s.2.1), ZeR a (Zz M v), ZdW (Z6 a (Zz M v))) := by
 have hol := h.outLen v
 have hae := h.en _ ((Za3 h.kd).1 ha)
 dsimp only at hae
 refine ZS (fun z => 0 ≤ z.2.2.2 /\ z.2.2.2 ≤ ((Zz M v).length : Int) /\ z.1 = (Z6 a ((Zz M v).take z.2.2.2.toNat)).map (fun s => s.2.1) /\ z.2.1 = ZeR a ((Zz M v).take z.2.2.2.toNat) /\ z.2.2.1 = ZdW (Z6 a ((Zz M v).take z.2.2.2.toNat))) (fun z => (((Zz M v).length : Int) - z.2.2.2).toNat) ?_ ⟨by simp, by simp, by simp [Z6], by simp [ZeR], by simp [ZdW, Z6]⟩
 rintro ⟨gl, ws, mo, j⟩ ⟨j0, j1, e1, e2, e3⟩
 dsimp only at *
 have hgl : gl.length ≤ (Zz M v).length := by rw [e1, List.length_map]; exact Nat.le_trans Zc8 (by rw [List.length_take]; omega)
 have hwl : ws.length ≤ (Zz M v).length := by
  rw [e2]; unfold ZeR
  rw [List.length_map]
  exact Nat.le_trans (List.length_filter_le _ _) (by rw [List.length_take]; omega)
 unfold Zau
 rw [hI, Zs]
 refine ⟨fun hlt => ?_, fun hge => ?_⟩
 rotate_left
 ·simp only [Zd, Sum.elim_inr]
  rw [List.take_of_length_le (by omega)] at e1 e2 e3
  rw [e1, e2, e3]
 have hm := Zex j0 hlt
 have hen := h.en _ ((Z3 h.kd).1 hm)
 have hs := ZcC j0 hlt
 generalize gt (Zz M v) j = b at *
 dsimp only at hen
 have hsn := ZhD (a := a) (l := (Zz M v).take j.toNat) (b := b)
 have hso := ZlD (a := a) (l := (Zz M v).take j.toNat) (b := b)
 rw [← hs] at hsn hso
 rw [T_G]
 refine ⟨j0, ?_⟩
 rw [Zs]
 refine ⟨fun he => ?_, fun he => ?_⟩
 ·rw [if_pos he, List.append_nil] at hsn hso
  simp only [T_G, Zd, Sum.elim_inl]
  exact ⟨by omega, ⟨by omega, by omega, by rw [hsn]; exact e1, by rw [hso]; exact e2, by rw [hsn]; exact e3⟩, by omega⟩
 ·rw [if_neg he] at hsn hso
  simp only [T_G, Zd, Sum.elim_inl]
  refine ⟨by omega, by omega, by omega, by omega, ⟨by omega, by omega, ?_, ?_, ?_⟩, by omega⟩
  ·rw [hsn, List.map_append, ← e1]; rfl
  ·rw [hso, ← e2]
  ·rw [hsn, ZhQ, ← e3]
theorem Zml {O : List (Int × Int × Int)} {ws : List Int} {mo : Int} {L : Lab} {l7 : List (Int × Int × Int)} (h : OvR nodes alive arcs A M) (hI : gt I i = a) (hO : O.length ≤ 1000000) (hl7 : l7.length ≤ 1000000000000) (ha : 0 ≤ a.2.1 /\ a.2.1 ≤ 140737488355328) (hw : ws.length = O.length /\ ∀ j, 0 ≤ j -> j < (O.length : Int) -> a.2.1 + gt ws j = (gt O j).2.2 /\ (gt O j).1 = a.1 /\ 0 ≤ (gt O j).2.2 /\ (gt O j).2.2 ≤ 281474976710656) :
  T (ZN (fun zz_ => Zat A M I i (O.map (fun s => s.2.1), ws, mo) ((O.map (fun s => s.2.1)).map (far L)) zz_.1 zz_.2) (0, l7)) fun r => r = l7 ++ O.filter (Zde M L) := by
 refine ZS (fun z => 0 ≤ z.1 /\ z.1 ≤ (O.length : Int) /\ z.2 = l7 ++ (O.take z.1.toNat).filter (Zde M L)) (fun z => ((O.length : Int) - z.1).toNat) ?_ ⟨by simp, by simp, by simp⟩
 rintro ⟨j, l⟩ ⟨j0, j1, e⟩
 dsimp only at *
 have hll : l.length ≤ l7.length + O.length := by rw [e, List.length_append]; exact Nat.add_le_add_left (Nat.le_trans (List.length_filter_le _ _) (by rw [List.length_take]; omega)) _
 have lm : (O.map (fun s => s.2.1)).length = O.length := List.length_map ..
 have lm2 : ((O.map (fun s => s.2.1)).map (far L)).length = O.length := by rw [List.length_map, List.length_map]
 unfold Zat
 dsimp only
 rw [hI, lm, lm2, Zs]
 refine ⟨fun hlt => ?_, fun hge => ?_⟩
 rotate_left
 ·simp only [Zd, Sum.elim_inr]
  rw [List.take_of_length_le (by omega)] at e
  exact e
 have hfar : gt ((O.map (fun s => s.2.1)).map (far L)) j = far L (gt O j).2.1 := by
  unfold gt
  rw [List.getD_eq_getElem?_getD, List.getD_eq_getElem?_getD, List.getElem?_map, List.getElem?_map, List.getElem?_eq_getElem (by omega)]; rfl
 have hgl : gt (O.map (fun s => s.2.1)) j = (gt O j).2.1 := by
  unfold gt
  rw [List.getD_eq_getElem?_getD, List.getD_eq_getElem?_getD, List.getElem?_map, List.getElem?_eq_getElem (by omega)]; rfl
 have hs := ZcC j0 hlt
 obtain ⟨w1, w2, w3, w4⟩ := hw.2 j j0 hlt
 have hwl := hw.1
 rw [hfar, hgl, w1]
 generalize gt O j = s at *
 rw [T_G, T_G, T_G]
 refine ⟨j0, by omega, by omega, ?_⟩
 refine Zm _ (Zl1 (A := A) (u := a.1) (w := s.2.1) h.lb) ?_
 rintro ⟨x, b⟩ hW
 have hk := Zku (L := L) (s := s) h.kd (by rw [w2]; exact hW)
 dsimp only
 refine Zm (fun o => o = Zde M L s) ?_ ?_
 ·rw [Zs]
  refine ⟨fun c1 => ?_, fun c1 => ?_⟩
  rotate_left
  ·simp only [Zd]
   refine (Bool.eq_false_iff.2 fun k => c1 (hk.1 k).1).symm
  rw [Zs]
  refine ⟨fun c2 => ?_, fun c2 => ?_⟩
  ·rw [Zs]
   refine ⟨fun c3 => ?_, fun c3 => ?_⟩
   ·simp only [Zd]
    exact (Bool.eq_false_iff.2 fun k => (hk.1 k).2.2 ⟨c2, c3⟩).symm
   ·simp only [T_G, Zd]
    refine ⟨by omega, ?_⟩
    rw [Bool.eq_iff_iff, decide_eq_true_iff, hk]
    exact ⟨fun q => ⟨c1, q, fun k => c3 k.2⟩, fun q => q.2.1⟩
  ·simp only [T_G, Zd]
   refine ⟨by omega, ?_⟩
   rw [Bool.eq_iff_iff, decide_eq_true_iff, hk]
   exact ⟨fun q => ⟨c1, q, fun k => c2 k.1⟩, fun q => q.2.1⟩
 rintro _ rfl
 rw [Zs]
 refine ⟨fun q => ?_, fun q => ?_⟩
 ·simp only [T_G, Zd, Sum.elim_inl, List.length_cons, List.length_nil]
  refine ⟨by omega, by omega, ⟨by omega, by omega, ?_⟩, by omega⟩
  rw [hs, List.filter_append, ← List.append_assoc, ← e, List.filter_cons, if_pos q, ← w2]; rfl
 ·simp only [T_G, Zd, Sum.elim_inl]
  refine ⟨by omega, ⟨by omega, by omega, ?_⟩, by omega⟩
  rw [hs, List.filter_append, ← List.append_assoc, ← e, List.filter_cons, if_neg q]; simp
theorem Zlj (h : OvR nodes alive arcs A M) (k : Nat) : (((inL M v).take k).flatMap (Zan M v hops settles)).length ≤ 1000000000000 := by
 rw [List.length_flatMap]
 have : ∀ l : List Hf, ((l.map fun a => (Zan M v hops settles a).length).sum) ≤ l.length * 1000000 := fun l => by
  induction l with
  | nil => simp
  | cons x l ih =>
   have : (Zan M v hops settles x).length ≤ 1000000 := by
    unfold Zan
    exact Nat.le_trans (List.length_filter_le _ _) (Nat.le_trans Zc8 (h.outLen v))
   simp only [List.map_cons, List.sum_cons, List.length_cons]
   omega
 have := this ((inL M v).take k)
 have h2 := h.inLen v
 rw [List.length_take] at this
 omega
theorem ZlU (h : OvR nodes alive arcs A M) {x1 x2 x3 : Int} : T (ZbF A M v hops settles x1 x2 x3) fun r => r = Zb5 M v (bnd hops) (bnd settles) := by
 have hil := h.inLen v
 have hol := h.outLen v
 unfold ZbF Zcx ZbT
 simp only [Option.bind_some]
 rw [p_rIn h.kd h.lb, Option.bind_some]
 refine Zm (fun l => l = Zb5 M v (bnd hops) (bnd settles)) ?_ fun l e => by simp only [Zd]; exact e
 refine ZS (fun z => 0 ≤ z.1 /\ z.1 ≤ ((inL M v).length : Int) /\ z.2 = ((inL M v).take z.1.toNat).flatMap (Zan M v (bnd hops) (bnd settles))) (fun z => (((inL M v).length : Int) - z.1).toNat) ?_ ⟨by simp, by simp, by simp⟩
 rintro ⟨i, l⟩ ⟨i0, i1, e⟩
 dsimp only at *
 unfold ZaY
 dsimp only
 rw [Zs]
 refine ⟨fun hlt => ?_, fun hge => ?_⟩
 rotate_left
 ·simp only [Zd, Sum.elim_inr]
  rw [List.take_of_length_le (by omega)] at e
  exact e
 have hm : gt (inL M v) i ∈ inL M v := Zex i0 hlt
 have hs := ZcC i0 hlt
 have hl1 := Zlj (v := v) (hops := bnd hops) (settles := bnd settles) h i.toNat
 rw [← e] at hl1
 have hae := h.en _ ((Za3 h.kd).1 hm)
 dsimp only at hae
 rw [T_G]
 refine ⟨i0, ?_⟩
 rw [Zje h.kd h.lb, Option.bind_some]
 refine Zm _ (Zmm h hm rfl) ?_
 rintro _ rfl
 dsimp only
 have hopl : (Z6 (gt (inL M v) i) (Zz M v)).length ≤ (Zz M v).length := Zc8
 have hlv : ∀ j, 0 ≤ j -> j < (((Z6 (gt (inL M v) i) (Zz M v)).map (fun s => s.2.1)).length : Int) -> ZJ A (gt ((Z6 (gt (inL M v) i) (Zz M v)).map (fun s => s.2.1)) j) := fun j j0 j1 => by
  obtain ⟨s, hs', e'⟩ := List.mem_map.1 (Zex j0 j1)
  rw [← e']; exact (Zhs h hs').1
 refine Zm _ (Znc (u := (gt (inL M v) i).1) (skip := v) (hops := bnd hops) (settles := bnd settles) (most := ZdW (Z6 (gt (inL M v) i) (Zz M v))) h ⟨hae.1, hae.2.1, hae.2.2.2.2.1⟩ (by rw [List.length_map]; omega) hlv Zly) ?_
 rintro seen ⟨Lf, hR, rfl⟩
 have hfin := hR.fin
 have hwo : (ZeR (gt (inL M v) i) (Zz M v)).length = (Z6 (gt (inL M v) i) (Zz M v)).length := by unfold ZeR Z6; rw [List.length_map, List.length_map]
 refine Zm _ (Zml (L := Lf) (l7 := l) h rfl (by omega) (by omega) ⟨by omega, by omega⟩ ⟨hwo, fun j j0 j1 => ?_⟩) ?_
 ·obtain ⟨_, q⟩ := ZnG (a := gt (inL M v) i) j0 j1
  have hmj := Zex j0 j1
  obtain ⟨b, hb, e'⟩ := List.mem_map.1 (show gt (Z6 (gt (inL M v) i) (Zz M v)) j ∈ ((Zz M v).filter fun b => decide (b.1 ≠ (gt (inL M v) i).1)).map _ from hmj)
  have hb' := h.en _ ((Z3 h.kd).1 (List.mem_filter.1 hb).1)
  dsimp only at hb'
  refine ⟨q, (Zhs h hmj).2, ?_, ?_⟩
  ·rw [← e']; dsimp only; omega
  ·rw [← e']; dsimp only; omega
 rintro _ rfl
 simp only [T_G, Zd, Sum.elim_inl]
 refine ⟨by omega, ⟨by omega, by omega, ?_⟩, by omega⟩
 rw [hs, List.flatMap_append, ← e]
 simp only [List.flatMap_cons, List.flatMap_nil, List.append_nil]
 unfold Zan
 rw [← hfin]
end Go.Vd

/-! (OvG) -/

set_option linter.unusedVariables false
set_option linter.unusedSimpArgs false
set_option maxHeartbeats 1000000
namespace Go.Vd
variable {L : List OAr} {A : List Bool} {u v w wt via : Int}
theorem Zg3 : Z5 A L v = some (decide (ZJ A v)) := by
 unfold Z5 ZJ
 by_cases h0 : v ≥ 0
 ·rw [if_pos h0]
  by_cases h1 : v < (A.length : Int)
  ·rw [if_pos h1]
   unfold G
   rw [if_pos h0]
   congr 1
   have h0' : 0 ≤ v := h0
   rw [Bool.eq_iff_iff]; simp [h0', h1]
  ·rw [if_neg h1]; simp [h1]
 ·rw [if_neg h0]
  have : ¬ 0 ≤ v := h0
  simp [this]
theorem Zmf : ZbB A L u w wt via = some (ZdF A u w wt via) := by
 unfold ZbB ZdF
 rw [Zg3, Option.bind_some]
 have e1 : ((if decide (ZJ A u) = true then ((Z5 A L w).bind fun y37 => some (!y37)) else (some true)) : Option Bool) = some (decide (¬ (ZJ A u /\ ZJ A w))) := by
  by_cases hu : ZJ A u
  ·rw [decide_eq_true hu, if_pos rfl, Zg3, Option.bind_some]
   by_cases hw : ZJ A w <;> simp [hu, hw]
  ·rw [decide_eq_false hu, if_neg (by decide)]; simp [hu]
 rw [e1, Option.bind_some]
 by_cases hl : ¬ (ZJ A u /\ ZJ A w)
 ·rw [if_pos (decide_eq_true hl), if_pos hl]; rfl
 rw [if_neg (by simpa using hl), if_neg hl]
 by_cases huw : u = w
 ·rw [if_pos huw, if_pos huw]; rfl
 rw [if_neg huw, if_neg huw]
 by_cases hwt : wt > 140737488355328
 ·rw [if_pos hwt, if_pos hwt]; rfl
 rw [if_neg hwt, if_neg hwt]
 have e2 : ((if via = (-1) then (some false) else (if via < 0 then (some true) else (if via ≥ (A.length : Int) then (some true) else (G (0 ≤ via /\ via < (A.length : Int)) (some (gt A via)))))) : Option Bool) = some (decide (via < -1 ∨ (A.length : Int) ≤ via ∨ (0 ≤ via /\ ZJ A via))) := by
  by_cases q1 : via = -1
  ·rw [if_pos q1]
   have a1 : ¬ via < -1 := by omega
   have a2 : ¬ (A.length : Int) ≤ via := by omega
   have a3 : ¬ 0 ≤ via := by omega
   simp [a1, a2, a3]
  rw [if_neg q1]
  by_cases q2 : via < 0
  ·rw [if_pos q2]
   have a1 : via < -1 := by omega
   simp [a1]
  rw [if_neg q2]
  by_cases q3 : via ≥ (A.length : Int)
  ·rw [if_pos q3]
   have a1 : (A.length : Int) ≤ via := q3
   simp [a1]
  rw [if_neg q3]
  unfold G
  rw [if_pos ⟨by omega, by omega⟩]
  congr 1
  have a1 : ¬ via < -1 := by omega
  have a2 : ¬ (A.length : Int) ≤ via := q3
  have a3 : 0 ≤ via := by omega
  have a4 : via < (A.length : Int) := by omega
  rw [Bool.eq_iff_iff]; simp [ZJ, a1, a2, a3, a4]
 rw [e2, Option.bind_some]
 by_cases hv : via < -1 ∨ (A.length : Int) ≤ via ∨ (0 ≤ via /\ ZJ A via)
 ·rw [if_pos (decide_eq_true hv), if_pos hv]; rfl
 ·rw [if_neg (by simpa using hv), if_neg hv]
theorem Zh6 (hl : L.length ≤ 1000000) : T (Zby A L u w wt via) fun r => ((∃ a ∈ L, a.1 = u /\ a.2.1 = w /\ a.2.2.1 ≤ wt) /\ r = (L, false)) ∨ ((∀ a ∈ L, a.1 = u -> a.2.1 = w -> wt < a.2.2.1) /\ r = (Zej L (u, w, wt, via), true)) := by
 unfold Zby
 refine Zcf (fun p => p = L.filter (fun x => decide (¬ (x.1 = u /\ x.2.1 = w))) /\ ∀ a ∈ L, a.1 = u -> a.2.1 = w -> wt < a.2.2.1) ?_ ?_
 ·refine ZS (fun z => 0 ≤ z.1 /\ z.1 ≤ (L.length : Int) /\ z.2 = (L.take z.1.toNat).filter (fun x => decide (¬ (x.1 = u /\ x.2.1 = w))) /\ ∀ a ∈ L.take z.1.toNat, a.1 = u -> a.2.1 = w -> wt < a.2.2.1) (fun z => ((L.length : Int) - z.1).toNat) ?_ ⟨by simp, by simp, rfl, fun a ha => by simp at ha⟩
  rintro ⟨i, p⟩ ⟨i0, i1, e, h⟩
  dsimp only at *
  subst e
  unfold Zbu
  rw [Zs]
  refine ⟨fun hlt => ?_, fun hge => ?_⟩
  ·have hm : gt L i ∈ L := by
    unfold gt
    rw [List.getD_eq_getElem?_getD, List.getElem?_eq_getElem (by omega)]
    exact List.getElem_mem _
   have hs := Za7 i0 hlt
   have hf : ((L.take i.toNat).filter (fun x => decide (¬ (x.1 = u /\ x.2.1 = w)))).length ≤ L.length := Nat.le_trans (List.length_filter_le _ _) (by rw [List.length_take]; omega)
   rw [T_G]
   refine ⟨i0, ?_⟩
   refine Zm (fun b => b = decide ((gt L i).1 = u /\ (gt L i).2.1 = w)) ?_ ?_
   ·by_cases q : (gt L i).1 = u <;> simp [q]
   ·rintro _ rfl
    rw [Zs]
    refine ⟨fun hk => ?_, fun hk => ?_⟩
    ·have hk' := of_decide_eq_true hk
     rw [Zs]
     refine ⟨fun hle => ?_, fun hle => ?_⟩
     ·simp only [Zd9, Zd, Sum.elim_inr, Sum.elim_inl]
      exact .inl ⟨⟨_, hm, hk'.1, hk'.2, hle⟩, trivial⟩
     ·simp only [T_G, Zd, Sum.elim_inl]
      refine ⟨by omega, ⟨by omega, by omega, ?_, fun a ha => ?_⟩, by omega⟩
      ·rw [hs, List.filter_append, List.filter_cons, if_neg (by simp [hk'.1, hk'.2])]; simp
      ·rw [hs] at ha
       rcases List.mem_append.1 ha with ha | ha
       ·exact h a ha
       ·rw [List.mem_singleton.1 ha]; exact fun _ _ => by omega
    ·have hk' : ¬ ((gt L i).1 = u /\ (gt L i).2.1 = w) := fun e => hk (decide_eq_true e)
     simp only [T_G, Zd, Sum.elim_inl]
     refine ⟨by omega, by omega, ⟨by omega, by omega, ?_, fun a ha => ?_⟩, by omega⟩
     ·rw [hs, List.filter_append, List.filter_cons, if_pos (decide_eq_true hk')]; simp
     ·rw [hs] at ha
      rcases List.mem_append.1 ha with ha | ha
      ·exact h a ha
      ·rw [List.mem_singleton.1 ha]; exact fun e1 e2 => absurd ⟨e1, e2⟩ hk'
  ·simp only [Zd, Sum.elim_inr]
   have e : L.take i.toNat = L := List.take_of_length_le (by omega)
   rw [e] at h ⊢
   exact ⟨rfl, h⟩
 ·rintro p ⟨rfl, h⟩
  have hf : (L.filter (fun x => decide (¬ (x.1 = u /\ x.2.1 = w)))).length ≤ L.length := List.length_filter_le _ _
  simp only [T_G, Zd]
  exact ⟨by omega, .inr ⟨h, rfl⟩⟩
theorem Ziv (hl : L.length ≤ 1000000) (hA : A.length ≤ 65536) (hv : ZJ A v) : ZaM A L v = some (A.set v.toNat false, Zb4 L v) := by
 refine Zd1.1 ?_
 unfold ZaM
 have hv1 := hv.2.1
 simp only [T_G, List.nil_append]
 refine ⟨by omega, ⟨hv.1, hv1⟩, ?_⟩
 refine Zm (fun p => p = Zb4 L v) ?_ fun p e => by simp only [Zd]; rw [e]
 refine ZS (fun z => 0 ≤ z.1 /\ z.1 ≤ (L.length : Int) /\ z.2 = Zb4 (L.take z.1.toNat) v) (fun z => ((L.length : Int) - z.1).toNat) ?_ ⟨by simp, by simp, rfl⟩
 rintro ⟨i, p⟩ ⟨i0, i1, e⟩
 dsimp only at *
 subst e
 unfold ZaQ
 rw [Zs]
 refine ⟨fun hlt => ?_, fun hge => by simp only [Zd, Sum.elim_inr]; rw [List.take_of_length_le (by omega)]⟩
 have hs := Za7 i0 hlt
 have hf : (Zb4 (L.take i.toNat) v).length ≤ L.length := Nat.le_trans (List.length_filter_le _ _) (by rw [List.length_take]; omega)
 rw [T_G]
 refine ⟨i0, ?_⟩
 refine Zm (fun b => b = decide ((gt L i).1 ≠ v /\ (gt L i).2.1 ≠ v)) ?_ ?_
 ·by_cases q : (gt L i).1 = v <;> simp [q]
 ·rintro _ rfl
  rw [Zs]
  refine ⟨fun hk => ?_, fun hk => ?_⟩
  ·simp only [T_G, Zd, Sum.elim_inl]
   refine ⟨by omega, by omega, ⟨by omega, by omega, ?_⟩, by omega⟩
   rw [hs]; unfold Zb4
   rw [List.filter_append, List.filter_cons, if_pos hk]; rfl
  ·simp only [T_G, Zd, Sum.elim_inl]
   refine ⟨by omega, ⟨by omega, by omega, ?_⟩, by omega⟩
   rw [hs]; unfold Zb4
   rw [List.filter_append, List.filter_cons, if_neg hk]; simp
end Go.Vd

/-! (Ld13) -/

set_option linter.unusedVariables false
set_option linter.unusedSimpArgs false
set_option maxHeartbeats 1000000
namespace Go.Vd
variable {nodes : List Nod} {alive arcs : Int} {A : List Bool} {L : List OAr} {N : Int} {Arcs : List A3}
abbrev Stp := Int × Int × Int × Int × Int
abbrev Zlc (script : List Stp) : Prop := ∀ x ∈ script, (0 ≤ x.1 /\ x.1 ≤ 255) /\ (-9223372036854775808 ≤ x.2.1 /\ x.2.1 ≤ 9223372036854775807) /\ (-9223372036854775808 ≤ x.2.2.1 /\ x.2.2.1 ≤ 9223372036854775807) /\ (0 ≤ x.2.2.2.1 /\ x.2.2.2.1 ≤ 18446744073709551615) /\ (-9223372036854775808 ≤ x.2.2.2.2 /\ x.2.2.2.2 ≤ 9223372036854775807)
def LdR (n : Nat) (r : List Nod × Int × Int × List Bool × List OAr) : Prop := OvR r.1 r.2.1 r.2.2.1 r.2.2.2.1 r.2.2.2.2 /\ r.2.2.2.2.length ≤ 2060 /\ r.2.2.2.1.length = n
theorem Znr {script : List Stp} (hs : Zlc script) (hl : (script.length : Int) ≤ 60) (h : OvR nodes alive arcs A L) (hb : L.length ≤ 2000) :
  T (ZN (fun zz_ => ZaF script zz_.1 zz_.2.1 zz_.2.2.1 zz_.2.2.2.1 zz_.2.2.2.2.1 zz_.2.2.2.2.2) (0, nodes, alive, arcs, A, L)) (LdR A.length) := by
 refine ZS (fun z => 0 ≤ z.1 /\ z.1 ≤ (script.length : Int) /\ OvR z.2.1 z.2.2.1 z.2.2.2.1 z.2.2.2.2.1 z.2.2.2.2.2 /\ (z.2.2.2.2.2.length : Int) ≤ 2000 + z.1 /\ z.2.2.2.2.1.length = A.length) (fun z => ((script.length : Int) - z.1).toNat) ?_ ⟨by simp, by simp, h, by simp; omega, rfl⟩
 rintro ⟨i, o, al, ar, B, M⟩ ⟨i0, i1, ho, hM, hB⟩
 dsimp only at *
 clear h hb
 unfold ZaF
 rw [Zs]
 refine ⟨fun hlt => ?_, fun hge => ?_⟩
 rotate_left
 ·simp only [Zd, Sum.elim_inr]
  exact ⟨ho, by dsimp only; omega, hB⟩
 have hm : gt script i ∈ script := by
  unfold gt
  rw [List.getD_eq_getElem?_getD, List.getElem?_eq_getElem (by omega)]
  exact List.getElem_mem _
 obtain ⟨_, b1, b2, b3, b4⟩ := hs _ hm
 generalize gt script i = st at *
 obtain ⟨kd, u, w, wt, via⟩ := st
 dsimp only at *
 rw [T_G]
 refine ⟨i0, ?_⟩
 refine Zm (fun r => OvR r.1 al r.2.1 B r.2.2 /\ (r.2.2.length : Int) ≤ 2000 + (i + 1)) ?_ ?_
 ·rw [Zs]
  refine ⟨fun _ => ?_, fun _ => ?_⟩
  ·have hlb := ho.lb
   refine Zm _ (Zl2 (u := u) (via := via) ho (by omega) b2.1 b2.2 b3.1) ?_
   intro r hr
   rw [Zmf, Option.bind_some, ZiZ, Option.bind_some]
   cases hr with
   | bad hn =>
    rw [if_neg (by simp [hn])]
    simp only [Zd]
    exact ⟨ho, by omega⟩
   | less a hc a1 a2 a3 a4 =>
    rw [hc, if_pos (by simp)]
    refine Zm _ (Zh6 hlb) ?_
    rintro r (⟨_, rfl⟩ | ⟨hn, rfl⟩)
    ·simp only [Zd]
     exact ⟨ho, by omega⟩
    ·have := hn a a1 a2 a3; omega
   | put o' ar' hc hless h2 =>
    have hpl := Zkq ho.kd (u, w, wt, via)
    have hpl2 : (Zej M (u, w, wt, via)).length ≤ M.length + 1 := by rw [hpl]; split <;> omega
    rw [hc, if_pos (by simp)]
    refine Zm _ (Zh6 hlb) ?_
    rintro r (⟨⟨a, a1, a2, a3, a4⟩, rfl⟩ | ⟨hn, rfl⟩)
    ·have := hless a a1 a2 a3; omega
    ·simp only [Zd]
     exact ⟨h2, by omega⟩
  ·simp only [Zd]
   exact ⟨ho, by omega⟩
 ·rintro ⟨o1, ar1, M1⟩ ⟨h1, l1⟩
  dsimp only at *
  rw [Zs]
  refine ⟨fun _ => ?_, fun _ => ?_⟩
  ·refine Zm _ (Zi6 (v := u) h1) ?_
   intro r hr
   rw [Zg3, Option.bind_some]
   cases hr with
   | bad hn =>
    rw [decide_eq_false hn, if_neg (by decide)]
    simp only [T_G, Zd, Sum.elim_inl]
    exact ⟨by omega, ⟨by omega, by omega, h1, by omega, hB⟩, by omega⟩
   | ok o' hv h' =>
    have hrl : (Zb4 M1 u).length ≤ M1.length := List.length_filter_le _ _
    rw [decide_eq_true hv, if_pos rfl, Ziv h1.lb h1.sm hv, Option.bind_some]
    simp only [T_G, Zd, Sum.elim_inl]
    exact ⟨by omega, ⟨by omega, by omega, h', by omega, by rw [List.length_set]; exact hB⟩, by omega⟩
  ·simp only [T_G, Zd, Sum.elim_inl]
   exact ⟨by omega, ⟨by omega, by omega, h1, by omega, hB⟩, by omega⟩
theorem Zm7 {script : List Stp} (hs : Zlc script) : T (Zb7 N Arcs script) fun r => r = .inl () ∨ (GChk N Arcs .nil /\ N ≤ 12 /\ ∃ y, r = .inr y /\ LdR N.toNat y) := by
 unfold Zb7
 refine Zm (fun b => b = false -> (GChk N Arcs .nil /\ N ≤ 12 /\ (Arcs.length : Int) ≤ 2000) /\ (script.length : Int) ≤ 60) ?_ ?_
 ·refine Zm _ p_Few fun f hf => ?_
  rw [Zs]
  refine ⟨fun h => ?_, fun h => ?_⟩
  ·simp only [Zd]
   intro hd
   exact ⟨hf.1 h, by simpa using hd⟩
  ·simp only [Zd]
   intro hd; cases hd
 ·intro b hb
  rw [Zs]
  refine ⟨fun _ => by simp, fun hb' => ?_⟩
  obtain ⟨⟨hc, hN, ha⟩, hl⟩ := hb (by simpa using hb')
  refine Zm _ ZmM ?_
  intro r hr
  cases hr with
  | bad er c n => exact absurd (c.uniq hc) n
  | ok M nodes _ k l h =>
   rw [Sum.elim_inr]
   refine Zm _ (Zmw hc) ?_
   rintro r ⟨M', k', l', rfl⟩
   obtain rfl := k.uniq k'
   dsimp only
   refine Zm _ (Znr hs hl h (by rw [List.length_map]; omega)) ?_
   rintro ⟨a1, a2, a3, a4, a5⟩ hL
   simp only [Zd]
   refine .inr ⟨hc, hN, _, rfl, ?_⟩
   rw [List.length_replicate] at hL
   exact hL
end Go.Vd

/-! (Wk0) -/

set_option linter.unusedVariables false
set_option linter.unusedSimpArgs false
namespace Go.Vd
variable {N i j d : Int} {A L : List A3}
inductive Wk (A : List A3) : Int -> Int -> Int -> Prop
 | refl (i : Int) : Wk A i i 0
 | step (i u d x w : Int) : Wk A i u d -> (u, x, w) ∈ A -> Wk A i x (d + w)
end Go.Vd

/-! (ShD) -/

set_option linter.unusedVariables false
set_option linter.unusedSimpArgs false
set_option maxHeartbeats 1000000
namespace Go.Vd
variable {nodes : List Nod} {alive arcs : Int} {A : List Bool} {M : List OAr} {u v w x y d skip hops settles most c N W : Int} {L L' : Lab} {row : Int -> List (Int × Int)} {X : List A3}
def a3 (M : List OAr) : List A3 := M.map fun a => (a.1, a.2.1, a.2.2.1)
theorem Zoo {x y w : Int} : (x, y, w) ∈ a3 M ↔ ∃ a ∈ M, a.1 = x /\ a.2.1 = y /\ a.2.2.1 = w := by
 unfold a3
 rw [List.mem_map]
 constructor
 ·rintro ⟨a, ha, e⟩
  simp only [Prod.mk.injEq] at e
  exact ⟨a, ha, e.1, e.2.1, e.2.2⟩
 ·rintro ⟨a, ha, rfl, rfl, rfl⟩
  exact ⟨a, ha, rfl⟩
theorem WR.wk (h : WR row hops settles most c L L') (hr : ∀ x, x ≠ skip -> ∀ b ∈ row x, b.1 ≠ skip /\ (x, b.1, b.2) ∈ X) : (∀ x y, L x = some y -> x ≠ skip /\ Wk X u x y.1) -> ∀ x y, L' x = some y -> x ≠ skip /\ Wk X u x y.1 := by
 induction h with
 | full => exact fun k => k
 | none => exact fun k => k
 | far => exact fun k => k
 | go c L v y L' _ hp _ _ ih =>
  intro hL
  refine ih ?_
  obtain ⟨v1, v2⟩ := hL v y hp.1
  have h1 : ∀ x z, lup L v (y.1, y.2.1, 1) x = some z -> x ≠ skip /\ Wk X u x z.1 := fun x z hz => by
   unfold lup at hz
   by_cases e : x = v
   ·rw [if_pos e] at hz; cases hz; rw [e]; exact ⟨v1, v2⟩
   ·rw [if_neg e] at hz; exact hL x z hz
  have key : ∀ (l : List (Int × Int)) (K : Lab), (∀ b ∈ l, b.1 ≠ skip /\ (v, b.1, b.2) ∈ X) -> (∀ x z, K x = some z -> x ≠ skip /\ Wk X u x z.1) -> ∀ x z, l.foldl (ZdM y.1 y.2.1) K x = some z -> x ≠ skip /\ Wk X u x z.1 := by
   intro l
   induction l with
   | nil => intro K _ hK; exact hK
   | cons b l ih2 =>
    intro K hl hK
    refine ih2 _ (fun b' hb' => hl b' (by simp [hb'])) fun x z hz => ?_
    unfold ZdM at hz
    split at hz
    ·unfold lup at hz
     by_cases e : x = b.1
     ·rw [if_pos e] at hz; cases hz
      obtain ⟨b1, b2⟩ := hl b (by simp)
      rw [e]
      exact ⟨b1, v2.step _ _ _ _ _ b2⟩
     ·rw [if_neg e] at hz; exact hK x z hz
    ·exact hK x z hz
  unfold Ze1
  split
  ·exact h1
  ·exact key _ _ (hr v v1) h1
theorem Znw (h : KD M) : ∀ x, x ≠ skip -> ∀ b ∈ Zc5 M skip x, b.1 ≠ skip /\ (x, b.1, b.2) ∈ a3 (Zb4 M skip) := fun x hx b hb => by
 unfold Zc5 at hb
 obtain ⟨z, hz, rfl⟩ := List.mem_map.1 hb
 obtain ⟨h1, h2⟩ := List.mem_filter.1 hz
 have h3 := of_decide_eq_true h2
 exact ⟨h3, Zoo.2 ⟨(x, z), ZeC.2 ⟨(Z3 h).1 h1, hx, h3⟩, rfl, rfl, rfl⟩⟩
theorem Zn6 (h : OvR nodes alive arcs A M) (hu : ZJ A u) (hus : u ≠ skip) (hset : settles ≤ 9223372036854775807) {z : Int × Int × Int} (hz : Zh4 M skip hops settles most u x = some z) : x ≠ skip /\ Wk (a3 (Zb4 M skip)) u x z.1 := by
 obtain ⟨r, _, hR⟩ := ZmV (skip := skip) (hops := hops) (most := most) h hu.1 hu.2.1 hset
 have := hR.wk (u := u) (Znw h.kd) fun x y hy => by
  unfold ZdE lup at hy
  by_cases e : x = u
  ·rw [if_pos e] at hy; cases hy; rw [e]; exact ⟨hus, .refl _⟩
  ·rw [if_neg e] at hy; cases hy
 rw [hR.fin] at this
 exact this x z hz
end Go.Vd

/-! (ShF) -/

set_option linter.unusedVariables false
set_option linter.unusedSimpArgs false
set_option maxHeartbeats 1000000
namespace Go.Vd
variable {nodes : List Nod} {alive arcs : Int} {A : List Bool} {M : List OAr} {u v x skip hops settles most b : Int} {L : Lab} {s : Int × Int × Int} {X : List A3}
theorem Zk3 (h1 : s.2.2 ≤ 140737488355328) (h2 : far L s.2.1 > s.2.2) (h3 : ∀ x ∈ M, x.1 = s.1 -> x.2.1 = s.2.1 -> ¬ x.2.2.1 ≤ s.2.2) : Zde M L s = true := by
 unfold Zde
 rw [decide_eq_true_iff]
 exact ⟨h1, h2, fun ⟨x, a, b, c, d⟩ => h3 x a b c d⟩
theorem ZjQ (h : OvR nodes alive arcs A M) (hu : ZJ A u) (hus : u ≠ skip) (hset : settles ≤ 9223372036854775807) (hb : b < 18446744073709551615) (k : ∀ d, Wk (a3 (Zb4 M skip)) u x d -> b < d) : far (Zh4 M skip hops settles most u) x > b := by
 unfold far
 split
 ·rename_i hs
  obtain ⟨z, hz⟩ := Option.isSome_iff_exists.1 hs
  rw [hz]
  exact k _ (Zn6 h hu hus hset hz).2
 ·exact hb
theorem Zjo {P : Int -> Int -> Prop} (h0 : P u 0) (hs : ∀ x d, P x d -> ∀ a ∈ X, a.1 = x -> P a.2.1 (d + a.2.2)) {d : Int} (k : Wk X u x d) : P x d := by
 induction k with
 | refl => exact h0
 | step p e q t _ hm ih => exact hs _ _ ih _ hm rfl
abbrev f4A : List A3 := [(0, 1, 4), (1, 2, 1), (0, 2, 9), (2, 3, 2)]
abbrev f4M : List A3 := [(0, 1, 4), (0, 2, 9), (1, 2, 1), (2, 3, 2)]
abbrev f4O : List OAr := [(0, 1, 4, -1), (0, 2, 9, -1), (1, 2, 1, -1), (2, 3, 2, -1)]
abbrev A4 : List Bool := [true, true, true, true]
theorem f4N : Nrm f4A f4M := by
 refine ⟨by simp [f4M, ltk], fun a ha => ?_, fun a ha _ => ⟨a, ?_, rfl, rfl⟩⟩
 ·simp [f4M] at ha
  rcases ha with rfl | rfl | rfl | rfl <;> simp [f4A, Z7]
 ·simp [f4A] at ha
  rcases ha with rfl | rfl | rfl | rfl <;> simp [f4M]
theorem f4C : GChk 4 f4A .nil := .of_arcs (by decide) (by decide) (by decide) fun a ha => by
 simp [f4A] at ha
 rcases ha with rfl | rfl | rfl | rfl <;> simp
theorem lv4 (h0 : 0 ≤ v) (h1 : v < 4) : ZJ A4 v := by
 have : v = 0 ∨ v = 1 ∨ v = 2 ∨ v = 3 := by omega
 rcases this with rfl | rfl | rfl | rfl <;> exact ⟨by decide, by decide, rfl⟩
theorem need2 (h : OvR nodes alive arcs A4 f4O) : Zb5 f4O 2 5 5 = [(0, 3, 11), (1, 3, 3)] := by
 have i2 : inL f4O 2 = [(0, 9, -1), (1, 1, -1)] := by decide
 have o2 : Zz f4O 2 = [(3, 2, -1)] := by decide
 have q0 : Z6 (0, 9, -1) [(3, 2, -1)] = [(0, 3, 11)] := by decide
 have q1 : Z6 (1, 1, -1) [(3, 2, -1)] = [(1, 3, 3)] := by decide
 have ha : a3 (Zb4 f4O 2) = [(0, 1, 4)] := by decide
 unfold Zb5
 rw [i2]
 simp only [List.flatMap_cons, List.flatMap_nil]
 unfold Zan
 rw [o2, q0, q1]
 rw [List.filter_cons, if_pos (Zk3 (by decide) (ZjQ h (lv4 (by decide) (by decide)) (by decide) (by decide) (by decide) fun d k => ?_) (by decide)), List.filter_cons, if_pos (Zk3 (by decide) (ZjQ h (lv4 (by decide) (by decide)) (by decide) (by decide) (by decide) fun d k => ?_) (by decide))]
 ·rfl
 ·rw [ha] at k
  have := Zjo (P := fun x _ => x = 1) rfl (fun x d hx a ha e => by rw [List.mem_singleton.1 ha] at e; dsimp only at e; omega) k
  exact absurd this (by decide)
 ·rw [ha] at k
  have := Zjo (P := fun x _ => x = 0 ∨ x = 1) (.inl rfl) (fun x d hx a ha e => by rw [List.mem_singleton.1 ha]; exact .inr rfl) k
  exact absurd this (by decide)
theorem need1 (h : OvR nodes alive arcs A4 f4O) : Zb5 f4O 1 5 5 = [(0, 2, 5)] := by
 have i1 : inL f4O 1 = [(0, 4, -1)] := by decide
 have o1 : Zz f4O 1 = [(2, 1, -1)] := by decide
 have q0 : Z6 (0, 4, -1) [(2, 1, -1)] = [(0, 2, 5)] := by decide
 have ha : a3 (Zb4 f4O 1) = [(0, 2, 9), (2, 3, 2)] := by decide
 unfold Zb5
 rw [i1]
 simp only [List.flatMap_cons, List.flatMap_nil]
 unfold Zan
 rw [o1, q0]
 rw [List.filter_cons, if_pos (Zk3 (by decide) (ZjQ h (lv4 (by decide) (by decide)) (by decide) (by decide) (by decide) fun d k => ?_) (by decide))]
 ·rfl
 ·rw [ha] at k
  have := Zjo (P := fun x d => (x = 0 /\ d = 0) ∨ (x = 2 /\ d = 9) ∨ (x = 3 /\ d = 11)) (.inl ⟨rfl, rfl⟩) (fun x d hx a ha e => by
   simp only [List.mem_cons, List.not_mem_nil, or_false] at ha
   rcases ha with rfl | rfl <;> dsimp only at e ⊢ <;> omega) k
  dsimp only at this ⊢
  omega
theorem Zl9 (h : OvR nodes alive arcs A M) {x1 x2 x3 : Int} : T (Zdy nodes alive arcs v hops settles x1 x2 x3) fun r => (¬ ZJ A v /\ r = (0, .no 7)) ∨ (ZJ A v /\ r = (((Zb5 M v (bnd hops) (bnd settles)).length : Int) - (inL M v).length - (Zz M v).length, .nil)) := by
 have hil := h.inLen v
 have hol := h.outLen v
 unfold Zdy
 have hll : (Zb5 M v (bnd hops) (bnd settles)).length ≤ 1000000000000 := by
  unfold Zb5
  rw [List.length_flatMap]
  have : ∀ l : List Hf, ((l.map fun a => (Zan M v (bnd hops) (bnd settles) a).length).sum) ≤ l.length * 1000000 := fun l => by
   induction l with
   | nil => simp
   | cons x l ih =>
    have : (Zan M v (bnd hops) (bnd settles) x).length ≤ 1000000 := by
     unfold Zan
     exact Nat.le_trans (List.length_filter_le _ _) (Nat.le_trans Zc8 hol)
    simp only [List.map_cons, List.sum_cons, List.length_cons]
    omega
  have := this (inL M v)
  omega
 refine Zm _ (Zga h) ?_
 rintro r (⟨hv, rfl⟩ | ⟨hv, rfl⟩)
 ·dsimp only
  rw [if_neg (by decide)]
  simp only [Zd]
  exact .inl ⟨hv, trivial⟩
 ·dsimp only
  rw [if_pos rfl, p_In h, Option.bind_some, T_G]
  refine ⟨by omega, ?_⟩
  rw [Zi1 h, Option.bind_some, T_G]
  refine ⟨by omega, ?_⟩
  simp only [Zd]
  exact .inr ⟨hv, trivial⟩
end Go.Vd

/-! (PrAw13) -/

set_option linter.unusedVariables false
set_option linter.unusedSimpArgs false
set_option maxHeartbeats 1000000
namespace Go.Vd
theorem Zl8 : ZbR = some true := by
 refine Zd1.1 ?_
 unfold ZbR Zc3
 rw [Option.bind_some]
 refine Zm _ (ZmM (N := 4) (Arcs := f4A)) ?_
 intro r hr
 cases hr with
 | bad er c n => exact absurd (c.uniq f4C) n
 | ok M nodes c k l h =>
 obtain rfl : M = f4M := k.uniq f4N
 rw [Sum.elim_inr]
 have hA : List.replicate (4 : Int).toNat true = A4 := rfl
 have hM : f4M.map up4 = f4O := rfl
 rw [hA, hM] at h
 have b5 : bnd 5 = 5 := rfl
 refine Zm _ (Zga (v := 1) (hops := 5) (settles := 5) h) ?_
 rintro r1 (⟨hn, _⟩ | ⟨_, rfl⟩)
 ·exact absurd (lv4 (by decide) (by decide)) hn
 refine Zm _ (Zl9 (v := 2) (hops := 5) (settles := 5) h) ?_
 rintro r3 (⟨hn, _⟩ | ⟨_, rfl⟩)
 ·exact absurd (lv4 (by decide) (by decide)) hn
 rw [b5, need2 h, need1 h]
 dsimp only
 have e3 : ((([(0, 3, 11), (1, 3, 3)] : List (Int × Int × Int)).length : Int) - (inL f4O 2).length - (Zz f4O 2).length) = -1 := by decide
 rw [e3, if_pos rfl, if_pos rfl, if_pos rfl, ZlT (by simp), Option.bind_some, ZjF (by simp)]
 simp
end Go.Vd

/-! (OvL) -/

set_option linter.unusedVariables false
set_option linter.unusedSimpArgs false
set_option maxHeartbeats 1000000
namespace Go.Vd
variable {L : List OAr} {A : List Bool} {u v w wt via : Int}
theorem ZnW (hA : A.length ≤ 65536) : Zct A L = some ((A.filter id).length : Int) := by
 refine Zd1.1 ?_
 unfold Zct
 refine Zm (fun n => n = ((A.filter id).length : Int)) ?_ fun n e => by simp only [Zd]; exact e
 refine ZS (fun z => 0 ≤ z.2 /\ z.2 ≤ (A.length : Int) /\ z.1 = (((A.take z.2.toNat).filter id).length : Int)) (fun z => ((A.length : Int) - z.2).toNat) ?_ ⟨by simp, by simp, rfl⟩
 rintro ⟨n, i⟩ ⟨i0, i1, e⟩
 dsimp only at *
 subst e
 unfold Zbz
 rw [Zs]
 refine ⟨fun hlt => ?_, fun hge => by simp only [Zd, Sum.elim_inr]; rw [List.take_of_length_le (by omega)]⟩
 have hs := Za7 i0 hlt
 have f2 : ((A.take i.toNat).filter id).length ≤ A.length := Nat.le_trans (List.length_filter_le _ _) (by rw [List.length_take]; omega)
 rw [T_G, Zs]
 refine ⟨i0, fun hg => ?_, fun hg => ?_⟩
 ·simp only [T_G, Zd, Sum.elim_inl]
  refine ⟨by omega, by omega, ⟨by omega, by omega, ?_⟩, by omega⟩
  rw [hs, List.filter_append, hg]; simp
 ·have hg' : gt A i = false := by simpa using hg
  simp only [T_G, Zd, Sum.elim_inl]
  refine ⟨by omega, ⟨by omega, by omega, ?_⟩, by omega⟩
  rw [hs, List.filter_append, hg']; simp
end Go.Vd

/-! (PrSm13) -/

set_option linter.unusedVariables false
set_option linter.unusedSimpArgs false
set_option maxHeartbeats 1000000
namespace Go.Vd
variable {nodes : List Nod} {alive arcs : Int} {A : List Bool} {M : List OAr}
theorem ZmE (h : OvR nodes alive arcs A M) : Zb8 nodes alive arcs A M = some true := by
 refine Zd1.1 ?_
 have hsm := h.sm
 unfold Zb8 Zcv Zci
 rw [Option.bind_some, ZnW hsm, Option.bind_some, if_pos h.al, Option.bind_some, Option.bind_some, if_neg (by simp [h.ar])]
 refine Zcf (fun _ => True) ?_ fun _ _ => by simp
 refine ZS (fun i => 0 ≤ i /\ i ≤ (A.length : Int)) (fun i => ((A.length : Int) - i).toNat) ?_ ⟨by simp, by simp⟩
 rintro i ⟨i0, i1⟩
 unfold Zbe
 rw [Zs]
 refine ⟨fun hlt => ?_, fun hge => by simp⟩
 have hol := h.outLen i
 rw [Zi1 h, Option.bind_some, Zje h.kd h.lb, Option.bind_some]
 refine Zm (fun o => o = false) ?_ ?_
 ·rw [if_pos rfl, T_G]
  refine ⟨i0, ?_⟩
  rw [ZdD h, Option.bind_some]
  simp only [Zd]
  have : decide (ZJ A i) = gt A i := by
   cases hA : gt A i with
   | true => exact decide_eq_true ⟨i0, hlt, hA⟩
   | false => exact decide_eq_false fun k => by have := k.2.2; rw [hA] at this; cases this
  rw [this]; simp
 rintro _ rfl
 rw [if_neg (by decide)]
 refine Zcf (fun _ => True) ?_ fun _ _ => ?_
 rotate_left
 ·simp only [T_G, Zd, Sum.elim_inl]
  exact ⟨by omega, ⟨by omega, by omega⟩, by omega⟩
 refine ZS (fun j => 0 ≤ j /\ j ≤ ((Zz M i).length : Int)) (fun j => (((Zz M i).length : Int) - j).toNat) ?_ ⟨by simp, by simp⟩
 rintro j ⟨j0, j1⟩
 unfold Zbk
 rw [Zs]
 refine ⟨fun hj => ?_, fun hj => by simp⟩
 rw [T_G, T_G, if_pos rfl, if_pos rfl, if_pos rfl]
 simp only [T_G, Zd, Sum.elim_inl]
 exact ⟨j0, hj, by omega, ⟨by omega, by omega⟩, by omega⟩
end Go.Vd

/-! (PrShortsContracts) -/

set_option linter.unusedVariables false
set_option linter.unusedSimpArgs false
set_option maxHeartbeats 1000000
namespace Go.Vd
variable {N v hops settles x1 x2 x3 : Int} {Arcs : List A3} {nodes : List Nod} {alive arcs : Int} {A : List Bool} {M : List OAr}
theorem Zki (h : OvR nodes alive arcs A M) : (Zb5 M v hops settles).length ≤ M.length * M.length := by
 have h1 := ZhX h.kd v
 have h2 := ZgY h.kd v
 have : ∀ l : List Hf, (l.map fun a => (Zan M v hops settles a).length).sum ≤ l.length * M.length := fun l => by
  induction l with
  | nil => simp
  | cons x l ih =>
   have : (Zan M v hops settles x).length ≤ M.length := by
    unfold Zan
    exact Nat.le_trans (List.length_filter_le _ _) (Nat.le_trans Zc8 h2)
   simp only [List.map_cons, List.sum_cons, List.length_cons, Nat.add_mul, Nat.one_mul]
   omega
 unfold Zb5
 rw [List.length_flatMap]
 exact Nat.le_trans (this _) (Nat.mul_le_mul_right _ h1)
theorem Zmo {v : Int} {M : List OAr} {s : Int × Int × Int} : (Zd0 v M s).length ≤ M.length + 1 := by
 unfold Zd0
 split
 ·omega
 ·unfold Zej
  rw [List.length_append]
  have := List.length_filter_le (fun x : OAr => decide (¬ (x.1 = s.1 /\ x.2.1 = s.2.1))) M
  simp only [List.length_cons, List.length_nil]
  exact Nat.add_le_add_right this 1
theorem Zlr {v : Int} : ∀ {l : List (Int × Int × Int)} {M : List OAr}, (l.foldl (Zd0 v) M).length ≤ M.length + l.length := by
 intro l
 induction l with
 | nil => simp
 | cons s l ih =>
  intro M
  have h1 := ih (M := Zd0 v M s)
  have h2 := Zmo (v := v) (M := M) (s := s)
  simp only [List.foldl_cons, List.length_cons]
  omega
theorem ZjW (h : OvR nodes alive arcs A M) (hM : M.length ≤ 800) (hv : ZJ A v) : T (Za4 A M v hops settles x1 x2 x3) fun r => r = (A.set v.toNat false, ZkK M v (bnd hops) (bnd settles), Zb5 M v (bnd hops) (bnd settles)) := by
 unfold Za4
 refine Zm _ (ZlU h) ?_
 rintro _ rfl
 rw [Ziv h.lb h.sm hv, Option.bind_some]
 dsimp only
 unfold ZkK
 have hl := Zki (v := v) (hops := bnd hops) (settles := bnd settles) h
 have h6 : M.length * M.length ≤ 800 * 800 := Nat.mul_le_mul hM hM
 have h7 : (Zb4 M v).length ≤ M.length := List.length_filter_le _ _
 generalize Zb5 M v (bnd hops) (bnd settles) = l at *
 refine Zm (fun o => o = l.foldl (Zd0 v) (Zb4 M v)) ?_ ?_
 ·refine ZS (fun z => 0 ≤ z.1 /\ z.1 ≤ (l.length : Int) /\ z.2 = (l.take z.1.toNat).foldl (Zd0 v) (Zb4 M v)) (fun z => ((l.length : Int) - z.1).toNat) ?_ ⟨by simp, by simp, by simp⟩
  rintro ⟨i, o⟩ ⟨i0, i1, ho⟩
  dsimp only at *
  unfold ZaC
  rw [Zs]
  refine ⟨fun hlt => ?_, fun hge => ?_⟩
  rotate_left
  ·simp only [Zd]
   rw [List.take_of_length_le (by omega)] at ho
   exact ho
  have hs := ZcC i0 hlt
  have h8 := Zlr (v := v) (l := l.take i.toNat) (M := Zb4 M v)
  rw [← ho, List.length_take] at h8
  rw [T_G]
  refine ⟨i0, ?_⟩
  refine Zm _ (Zh6 (by omega)) ?_
  rintro r (⟨hx, rfl⟩ | ⟨hn, rfl⟩)
  ·simp only [T_G, Zd]
   refine ⟨by omega, ⟨by omega, by omega, ?_⟩, by omega⟩
   rw [hs, List.foldl_append, ← ho]
   show o = Zd0 v o (gt l i)
   unfold Zd0
   rw [if_pos hx]
  ·simp only [T_G, Zd]
   refine ⟨by omega, ⟨by omega, by omega, ?_⟩, by omega⟩
   rw [hs, List.foldl_append, ← ho]
   show Zej o _ = Zd0 v o (gt l i)
   unfold Zd0
   rw [if_neg]
   rintro ⟨x, hx, e1, e2, e3⟩
   have := hn x hx e1 e2
   omega
 ·rintro _ rfl
  simp only [Zd]
theorem Zg8 {script : List Stp} {list : List Int} (hs : Zlc script) : Zak N Arcs script list hops settles x1 x2 x3 = some true := by
 refine Zd1.1 ?_
 unfold Zak
 rw [Zl8, Option.bind_some, if_neg (by decide)]
 refine Zm _ (Zm7 hs) ?_
 rintro r (rfl | ⟨hc, hN, ⟨o, al, ar, A, M⟩, rfl, h, hL, hA⟩)
 ·rw [Sum.elim_inl]
  simp
 rw [Sum.elim_inr]
 dsimp only at *
 rw [Zs]
 refine ⟨fun _ => by simp, fun hl => ?_⟩
 refine Zcf (fun _ => True) ?_ fun _ _ => by simp
 refine ZS (fun z => 0 ≤ z.2.2.1 /\ z.2.2.1 ≤ (list.length : Int) /\ OvR z.2.2.2.1 z.2.2.2.2.1 z.2.2.2.2.2 z.1 z.2.1 /\ z.1.length ≤ 12) (fun z => ((list.length : Int) - z.2.2.1).toNat) ?_ ⟨by simp, by simp, h, by dsimp only; omega⟩
 clear h hL hA
 rintro ⟨A, M, i, o, al, ar⟩ ⟨i0, i1, h, hA⟩
 dsimp only at *
 unfold Z8
 rw [Zs]
 refine ⟨fun hlt => ?_, fun hge => by simp⟩
 rw [T_G]
 refine ⟨i0, ?_⟩
 generalize gt list i = v
 have hfew := h.few
 have hsq : A.length * A.length ≤ 12 * 12 := Nat.mul_le_mul hA hA
 refine Zm _ (Zk4 h (by omega)) ?_
 intro r hr
 rw [Zg3, Option.bind_some]
 cases hr with
 | bad hv =>
  rw [decide_eq_false hv, if_pos (by decide), p_E, Option.bind_some]
  dsimp only
  rw [ZnZ (by decide), Option.bind_some, if_pos rfl, Option.bind_some, if_neg (by simp)]
  simp only [T_G, Zd, Sum.elim_inl]
  exact ⟨by omega, ⟨by omega, by omega, h, hA⟩, by omega⟩
 | ok nd al' ar' hv h' =>
  rw [decide_eq_true hv, if_neg (by decide)]
  refine Zm _ (ZjW h (by omega) hv) ?_
  rintro _ rfl
  dsimp only
  have hll := Zki (v := v) (hops := bnd hops) (settles := bnd settles) h
  have h6 : M.length * M.length ≤ 144 * 144 := Nat.mul_le_mul (by omega) (by omega)
  have hll2 : (Zb5 M v (bnd hops) (bnd settles)).length ≤ 1000000000000 := by omega
  rw [if_pos rfl, ZlT hll2, Option.bind_some, ZjF hll2, Option.bind_some, if_pos rfl, ZmE h', Option.bind_some, if_neg (by decide)]
  simp only [T_G, Zd, Sum.elim_inl]
  exact ⟨by omega, ⟨by omega, by omega, h', by rw [List.length_set]; exact hA⟩, by omega⟩
end Go.Vd
