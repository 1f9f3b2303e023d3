/- The shortcuts that the document has. Plain Lean: no program here. -/
import Derived.Test.YtnepbkkdhalbiaaGreatDoorPsn0
import Derived.Test.YtnepbkkdhalbiaaGreatDoorPsnISn
set_option linter.unusedVariables false
set_option linter.unusedSimpArgs false
set_option linter.unusedSectionVars false
/-! (ShG) -/

set_option linter.unusedVariables false
set_option linter.unusedSimpArgs false
set_option maxHeartbeats 1000000
namespace Go.Vd
variable {nodes : List Nod} {alive arcs : Int} {A : List Bool} {M : List OAr} {u v skip hops settles c N i : Int} {a : Hf} {I : List Hf}
def ZeG (a : Hf) (l : List Hf) : List Int := (l.filter fun b => decide (b.1 ≠ a.1)).map fun b => b.2.1
theorem ZlH {l : List Hf} {b : Hf} : ZeG a (l ++ [b]) = ZeG a l ++ (if b.1 = a.1 then [] else [b.2.1]) := by
 unfold ZeG
 rw [List.filter_append, List.map_append]
 by_cases e : b.1 = a.1
 ·rw [if_pos e, List.filter_cons, if_neg (by simp [e])]; rfl
 ·rw [if_neg e, List.filter_cons, if_pos (by simp [e])]; rfl
theorem Zne {l : List Hf} {j : Int} (j0 : 0 ≤ j) (j1 : j < ((Zaa a l).length : Int)) : ((ZeG a l).length = (Zaa a l).length) /\ a.2.1 + gt (ZeG a l) j = (gt (Zaa a l) j).2.2 := by
 unfold ZeG Zaa at *
 rw [List.length_map] at j1
 refine ⟨by rw [List.length_map, List.length_map], ?_⟩
 unfold gt
 rw [List.getD_eq_getElem?_getD, List.getD_eq_getElem?_getD, List.getElem?_map, List.getElem?_map, List.getElem?_eq_getElem (by omega)]; rfl
theorem Zmq (h : OvR nodes alive arcs A M) (ha : a ∈ inL M v) (hI : gt I i = a) :
  T (ZP (fun zz_ => Zao I i (Zz M v) zz_.1 zz_.2.1 zz_.2.2.1 zz_.2.2.2) ([], [], 0, 0)) fun r => r = ((Zaa a (Zz M v)).map (fun s => s.2.1), ZeG a (Zz M v), ZdT (Zaa a (Zz M v))) := by
 have hol := h.outLen v
 have hae := h.en _ ((Za5 h.kd).1 ha)
 dsimp only at hae
 refine ZU (fun z => 0 ≤ z.2.2.2 /\ z.2.2.2 ≤ ((Zz M v).length : Int) /\ z.1 = (Zaa a ((Zz M v).take z.2.2.2.toNat)).map (fun s => s.2.1) /\ z.2.1 = ZeG a ((Zz M v).take z.2.2.2.toNat) /\ z.2.2.1 = ZdT (Zaa a ((Zz M v).take z.2.2.2.toNat))) (fun z => (((Zz M v).length : Int) - z.2.2.2).toNat) ?_ ⟨by simp, by simp, by simp [Zaa], by simp [ZeG], by simp [ZdT, Zaa]⟩
 rintro ⟨gl, ws, mo, j⟩ ⟨j0, j1, e1, e2, e3⟩
 dsimp only at *
 have hgl : gl.length ≤ (Zz M v).length := by rw [e1, List.length_map]; exact Nat.le_trans ZdL (by rw [List.length_take]; omega)
 have hwl : ws.length ≤ (Zz M v).length := by
  rw [e2]; unfold ZeG
  rw [List.length_map]
  exact Nat.le_trans (List.length_filter_le _ _) (by rw [List.length_take]; omega)
 unfold Zao
 rw [hI, Zt]
 refine ⟨fun hlt => ?_, fun hge => ?_⟩
 rotate_left
 ·simp only [Zd, Sum.elim_inr]
  rw [List.take_of_length_le (by omega)] at e1 e2 e3
  rw [e1, e2, e3]
 have hm := ZeU j0 hlt
 have hen := h.en _ ((Z6 h.kd).1 hm)
 have hs := Zc6 j0 hlt
 generalize gt (Zz M v) j = b at *
 dsimp only at hen
 have hsn := ZhR (a := a) (l := (Zz M v).take j.toNat) (b := b)
 have hso := ZlH (a := a) (l := (Zz M v).take j.toNat) (b := b)
 rw [← hs] at hsn hso
 rw [T_G]
 refine ⟨j0, ?_⟩
 rw [Zt]
 refine ⟨fun he => ?_, fun he => ?_⟩
 ·rw [if_pos he, List.append_nil] at hsn hso
  simp only [T_G, Zd, Sum.elim_inl]
  exact ⟨by omega, ⟨by omega, by omega, by rw [hsn]; exact e1, by rw [hso]; exact e2, by rw [hsn]; exact e3⟩, by omega⟩
 ·rw [if_neg he] at hsn hso
  simp only [T_G, Zd, Sum.elim_inl]
  refine ⟨by omega, by omega, by omega, by omega, ⟨by omega, by omega, ?_, ?_, ?_⟩, by omega⟩
  ·rw [hsn, List.map_append, ← e1]; rfl
  ·rw [hso, ← e2]
  ·rw [hsn, ZhH, ← e3]
theorem Zl6 {O : List (Int × Int × Int)} {ws : List Int} {mo : Int} {L : Lab} {l7 : List (Int × Int × Int)} (h : OvR nodes alive arcs A M) (hI : gt I i = a) (hO : O.length ≤ 1000000) (hl7 : l7.length ≤ 1000000000000) (ha : 0 ≤ a.2.1 /\ a.2.1 ≤ 140737488355328) (hw : ws.length = O.length /\ ∀ j, 0 ≤ j -> j < (O.length : Int) -> a.2.1 + gt ws j = (gt O j).2.2 /\ (gt O j).1 = a.1 /\ 0 ≤ (gt O j).2.2 /\ (gt O j).2.2 ≤ 281474976710656) :
  T (ZP (fun zz_ => Zas A M I i (O.map (fun s => s.2.1), ws, mo) ((O.map (fun s => s.2.1)).map (far L)) zz_.1 zz_.2) (0, l7)) fun r => r = l7 ++ O.filter (Zdn M L) := by
 refine ZU (fun z => 0 ≤ z.1 /\ z.1 ≤ (O.length : Int) /\ z.2 = l7 ++ (O.take z.1.toNat).filter (Zdn M L)) (fun z => ((O.length : Int) - z.1).toNat) ?_ ⟨by simp, by simp, by simp⟩
 rintro ⟨j, l⟩ ⟨j0, j1, e⟩
 dsimp only at *
 have hll : l.length ≤ l7.length + O.length := by rw [e, List.length_append]; exact Nat.add_le_add_left (Nat.le_trans (List.length_filter_le _ _) (by rw [List.length_take]; omega)) _
 have lm : (O.map (fun s => s.2.1)).length = O.length := List.length_map ..
 have lm2 : ((O.map (fun s => s.2.1)).map (far L)).length = O.length := by rw [List.length_map, List.length_map]
 unfold Zas
 dsimp only
 rw [hI, lm, lm2, Zt]
 refine ⟨fun hlt => ?_, fun hge => ?_⟩
 rotate_left
 ·simp only [Zd, Sum.elim_inr]
  rw [List.take_of_length_le (by omega)] at e
  exact e
 have hfar : gt ((O.map (fun s => s.2.1)).map (far L)) j = far L (gt O j).2.1 := by
  unfold gt
  rw [List.getD_eq_getElem?_getD, List.getD_eq_getElem?_getD, List.getElem?_map, List.getElem?_map, List.getElem?_eq_getElem (by omega)]; rfl
 have hgl : gt (O.map (fun s => s.2.1)) j = (gt O j).2.1 := by
  unfold gt
  rw [List.getD_eq_getElem?_getD, List.getD_eq_getElem?_getD, List.getElem?_map, List.getElem?_eq_getElem (by omega)]; rfl
 have hs := Zc6 j0 hlt
 obtain ⟨w1, w2, w3, w4⟩ := hw.2 j j0 hlt
 have hwl := hw.1
 rw [hfar, hgl, w1]
 generalize gt O j = s at *
 rw [T_G, T_G, T_G]
 refine ⟨j0, by omega, by omega, ?_⟩
 refine Zl _ (ZlD (A := A) (u := a.1) (w := s.2.1) h.lb) ?_
 rintro ⟨x, b⟩ hW
 have hk := Zkl (L := L) (s := s) h.kd (by rw [w2]; exact hW)
 dsimp only
 refine Zl (fun o => o = Zdn M L s) ?_ ?_
 ·rw [Zt]
  refine ⟨fun c1 => ?_, fun c1 => ?_⟩
  rotate_left
  ·simp only [Zd]
   refine (Bool.eq_false_iff.2 fun k => c1 (hk.1 k).1).symm
  rw [Zt]
  refine ⟨fun c2 => ?_, fun c2 => ?_⟩
  ·rw [Zt]
   refine ⟨fun c3 => ?_, fun c3 => ?_⟩
   ·simp only [Zd]
    exact (Bool.eq_false_iff.2 fun k => (hk.1 k).2.2 ⟨c2, c3⟩).symm
   ·simp only [T_G, Zd]
    refine ⟨by omega, ?_⟩
    rw [Bool.eq_iff_iff, decide_eq_true_iff, hk]
    exact ⟨fun q => ⟨c1, q, fun k => c3 k.2⟩, fun q => q.2.1⟩
  ·simp only [T_G, Zd]
   refine ⟨by omega, ?_⟩
   rw [Bool.eq_iff_iff, decide_eq_true_iff, hk]
   exact ⟨fun q => ⟨c1, q, fun k => c2 k.1⟩, fun q => q.2.1⟩
 rintro _ rfl
 rw [Zt]
 refine ⟨fun q => ?_, fun q => ?_⟩
 ·simp only [T_G, Zd, Sum.elim_inl, List.length_cons, List.length_nil]
  refine ⟨by omega, by omega, ⟨by omega, by omega, ?_⟩, by omega⟩
  rw [hs, List.filter_append, ← List.append_assoc, ← e, List.filter_cons, if_pos q, ← w2]; rfl
 ·simp only [T_G, Zd, Sum.elim_inl]
  refine ⟨by omega, ⟨by omega, by omega, ?_⟩, by omega⟩
  rw [hs, List.filter_append, ← List.append_assoc, ← e, List.filter_cons, if_neg q]; simp
theorem Zgs (h : OvR nodes alive arcs A M) (k : Nat) : (((inL M v).take k).flatMap (Zbb M v hops settles)).length ≤ 1000000000000 := by
 rw [List.length_flatMap]
 have : ∀ l : List Hf, ((l.map fun a => (Zbb M v hops settles a).length).sum) ≤ l.length * 1000000 := fun l => by
  induction l with
  | nil => simp
  | cons x l ih =>
   have : (Zbb M v hops settles x).length ≤ 1000000 := by
    unfold Zbb
    exact Nat.le_trans (List.length_filter_le _ _) (Nat.le_trans ZdL (h.outLen v))
   simp only [List.map_cons, List.sum_cons, List.length_cons]
   omega
 have := this ((inL M v).take k)
 have h2 := h.inLen v
 rw [List.length_take] at this
 omega
theorem ZlY (h : OvR nodes alive arcs A M) {x1 x2 x3 : Int} : T (ZbA A M v hops settles x1 x2 x3) fun r => r = Zdj M v (bnd hops) (bnd settles) := by
 have hil := h.inLen v
 have hol := h.outLen v
 unfold ZbA Zct ZbR
 simp only [Option.bind_some]
 rw [ZmL h.kd h.lb, Option.bind_some]
 refine Zl (fun l => l = Zdj M v (bnd hops) (bnd settles)) ?_ fun l e => by simp only [Zd]; exact e
 refine ZU (fun z => 0 ≤ z.1 /\ z.1 ≤ ((inL M v).length : Int) /\ z.2 = ((inL M v).take z.1.toNat).flatMap (Zbb M v (bnd hops) (bnd settles))) (fun z => (((inL M v).length : Int) - z.1).toNat) ?_ ⟨by simp, by simp, by simp⟩
 rintro ⟨i, l⟩ ⟨i0, i1, e⟩
 dsimp only at *
 unfold ZaS
 dsimp only
 rw [Zt]
 refine ⟨fun hlt => ?_, fun hge => ?_⟩
 rotate_left
 ·simp only [Zd, Sum.elim_inr]
  rw [List.take_of_length_le (by omega)] at e
  exact e
 have hm : gt (inL M v) i ∈ inL M v := ZeU i0 hlt
 have hs := Zc6 i0 hlt
 have hl1 := Zgs (v := v) (hops := bnd hops) (settles := bnd settles) h i.toNat
 rw [← e] at hl1
 have hae := h.en _ ((Za5 h.kd).1 hm)
 dsimp only at hae
 rw [T_G]
 refine ⟨i0, ?_⟩
 rw [ZhM h.kd h.lb, Option.bind_some]
 refine Zl _ (Zmq h hm rfl) ?_
 rintro _ rfl
 dsimp only
 have hopl : (Zaa (gt (inL M v) i) (Zz M v)).length ≤ (Zz M v).length := ZdL
 have hlv : ∀ j, 0 ≤ j -> j < (((Zaa (gt (inL M v) i) (Zz M v)).map (fun s => s.2.1)).length : Int) -> ZH A (gt ((Zaa (gt (inL M v) i) (Zz M v)).map (fun s => s.2.1)) j) := fun j j0 j1 => by
  obtain ⟨s, hs', e'⟩ := List.mem_map.1 (ZeU j0 j1)
  rw [← e']; exact (Zhm h hs').1
 refine Zl _ (Zm7 (u := (gt (inL M v) i).1) (skip := v) (hops := bnd hops) (settles := bnd settles) (most := ZdT (Zaa (gt (inL M v) i) (Zz M v))) h ⟨hae.1, hae.2.1, hae.2.2.2.2.1⟩ (by rw [List.length_map]; omega) hlv ZlE) ?_
 rintro seen ⟨Lf, hR, rfl⟩
 have hfin := hR.fin
 have hwo : (ZeG (gt (inL M v) i) (Zz M v)).length = (Zaa (gt (inL M v) i) (Zz M v)).length := by unfold ZeG Zaa; rw [List.length_map, List.length_map]
 refine Zl _ (Zl6 (L := Lf) (l7 := l) h rfl (by omega) (by omega) ⟨by omega, by omega⟩ ⟨hwo, fun j j0 j1 => ?_⟩) ?_
 ·obtain ⟨_, q⟩ := Zne (a := gt (inL M v) i) j0 j1
  have hmj := ZeU j0 j1
  obtain ⟨b, hb, e'⟩ := List.mem_map.1 (show gt (Zaa (gt (inL M v) i) (Zz M v)) j ∈ ((Zz M v).filter fun b => decide (b.1 ≠ (gt (inL M v) i).1)).map _ from hmj)
  have hb' := h.en _ ((Z6 h.kd).1 (List.mem_filter.1 hb).1)
  dsimp only at hb'
  refine ⟨q, (Zhm h hmj).2, ?_, ?_⟩
  ·rw [← e']; dsimp only; omega
  ·rw [← e']; dsimp only; omega
 rintro _ rfl
 simp only [T_G, Zd, Sum.elim_inl]
 refine ⟨by omega, ⟨by omega, by omega, ?_⟩, by omega⟩
 rw [hs, List.flatMap_append, ← e]
 simp only [List.flatMap_cons, List.flatMap_nil, List.append_nil]
 unfold Zbb
 rw [← hfin]
end Go.Vd

/-! (OvG) -/

set_option linter.unusedVariables false
set_option linter.unusedSimpArgs false
set_option maxHeartbeats 1000000
namespace Go.Vd
variable {L : List OAr} {A : List Bool} {u v w wt via : Int}
theorem ZgZ : Z5 A L v = some (decide (ZH A v)) := by
 unfold Z5 ZH
 by_cases h0 : v ≥ 0
 ·rw [if_pos h0]
  by_cases h1 : v < (A.length : Int)
  ·rw [if_pos h1]
   unfold G
   rw [if_pos h0]
   congr 1
   have h0' : 0 ≤ v := h0
   rw [Bool.eq_iff_iff]; simp [h0', h1]
  ·rw [if_neg h1]; simp [h1]
 ·rw [if_neg h0]
  have : ¬ 0 ≤ v := h0
  simp [this]
theorem Zmh : ZbF A L u w wt via = some (Zeg A u w wt via) := by
 unfold ZbF Zeg
 rw [ZgZ, Option.bind_some]
 have e1 : ((if decide (ZH A u) = true then ((Z5 A L w).bind fun y37 => some (!y37)) else (some true)) : Option Bool) = some (decide (¬ (ZH A u /\ ZH A w))) := by
  by_cases hu : ZH A u
  ·rw [decide_eq_true hu, if_pos rfl, ZgZ, Option.bind_some]
   by_cases hw : ZH A w <;> simp [hu, hw]
  ·rw [decide_eq_false hu, if_neg (by decide)]; simp [hu]
 rw [e1, Option.bind_some]
 by_cases hl : ¬ (ZH A u /\ ZH A w)
 ·rw [if_pos (decide_eq_true hl), if_pos hl]; rfl
 rw [if_neg (by simpa using hl), if_neg hl]
 by_cases huw : u = w
 ·rw [if_pos huw, if_pos huw]; rfl
 rw [if_neg huw, if_neg huw]
 by_cases hwt : wt > 140737488355328
 ·rw [if_pos hwt, if_pos hwt]; rfl
 rw [if_neg hwt, if_neg hwt]
 have e2 : ((if via = (-1) then (some false) else (if via < 0 then (some true) else (if via ≥ (A.length : Int) then (some true) else (G (0 ≤ via /\ via < (A.length : Int)) (some (gt A via)))))) : Option Bool) = some (decide (via < -1 ∨ (A.length : Int) ≤ via ∨ (0 ≤ via /\ ZH A via))) := by
  by_cases q1 : via = -1
  ·rw [if_pos q1]
   have a1 : ¬ via < -1 := by omega
   have a2 : ¬ (A.length : Int) ≤ via := by omega
   have a3 : ¬ 0 ≤ via := by omega
   simp [a1, a2, a3]
  rw [if_neg q1]
  by_cases q2 : via < 0
  ·rw [if_pos q2]
   have a1 : via < -1 := by omega
   simp [a1]
  rw [if_neg q2]
  by_cases q3 : via ≥ (A.length : Int)
  ·rw [if_pos q3]
   have a1 : (A.length : Int) ≤ via := q3
   simp [a1]
  rw [if_neg q3]
  unfold G
  rw [if_pos ⟨by omega, by omega⟩]
  congr 1
  have a1 : ¬ via < -1 := by omega
  have a2 : ¬ (A.length : Int) ≤ via := q3
  have a3 : 0 ≤ via := by omega
  have a4 : via < (A.length : Int) := by omega
  rw [Bool.eq_iff_iff]; simp [ZH, a1, a2, a3, a4]
 rw [e2, Option.bind_some]
 by_cases hv : via < -1 ∨ (A.length : Int) ≤ via ∨ (0 ≤ via /\ ZH A via)
 ·rw [if_pos (decide_eq_true hv), if_pos hv]; rfl
 ·rw [if_neg (by simpa using hv), if_neg hv]
theorem Zkv (hl : L.length ≤ 1000000) : T (Zck A L u w wt via) fun r => ((∃ a ∈ L, a.1 = u /\ a.2.1 = w /\ a.2.2.1 ≤ wt) /\ r = (L, false)) ∨ ((∀ a ∈ L, a.1 = u -> a.2.1 = w -> wt < a.2.2.1) /\ r = (Ze6 L (u, w, wt, via), true)) := by
 unfold Zck
 refine ZcM (fun p => p = L.filter (fun x => decide (¬ (x.1 = u /\ x.2.1 = w))) /\ ∀ a ∈ L, a.1 = u -> a.2.1 = w -> wt < a.2.2.1) ?_ ?_
 ·refine ZU (fun z => 0 ≤ z.1 /\ z.1 ≤ (L.length : Int) /\ z.2 = (L.take z.1.toNat).filter (fun x => decide (¬ (x.1 = u /\ x.2.1 = w))) /\ ∀ a ∈ L.take z.1.toNat, a.1 = u -> a.2.1 = w -> wt < a.2.2.1) (fun z => ((L.length : Int) - z.1).toNat) ?_ ⟨by simp, by simp, rfl, fun a ha => by simp at ha⟩
  rintro ⟨i, p⟩ ⟨i0, i1, e, h⟩
  dsimp only at *
  subst e
  unfold Zby
  rw [Zt]
  refine ⟨fun hlt => ?_, fun hge => ?_⟩
  ·have hm : gt L i ∈ L := by
    unfold gt
    rw [List.getD_eq_getElem?_getD, List.getElem?_eq_getElem (by omega)]
    exact List.getElem_mem _
   have hs := Za3 i0 hlt
   have hf : ((L.take i.toNat).filter (fun x => decide (¬ (x.1 = u /\ x.2.1 = w)))).length ≤ L.length := Nat.le_trans (List.length_filter_le _ _) (by rw [List.length_take]; omega)
   rw [T_G]
   refine ⟨i0, ?_⟩
   refine Zl (fun b => b = decide ((gt L i).1 = u /\ (gt L i).2.1 = w)) ?_ ?_
   ·by_cases q : (gt L i).1 = u <;> simp [q]
   ·rintro _ rfl
    rw [Zt]
    refine ⟨fun hk => ?_, fun hk => ?_⟩
    ·have hk' := of_decide_eq_true hk
     rw [Zt]
     refine ⟨fun hle => ?_, fun hle => ?_⟩
     ·simp only [Zd3, Zd, Sum.elim_inr, Sum.elim_inl]
      exact .inl ⟨⟨_, hm, hk'.1, hk'.2, hle⟩, trivial⟩
     ·simp only [T_G, Zd, Sum.elim_inl]
      refine ⟨by omega, ⟨by omega, by omega, ?_, fun a ha => ?_⟩, by omega⟩
      ·rw [hs, List.filter_append, List.filter_cons, if_neg (by simp [hk'.1, hk'.2])]; simp
      ·rw [hs] at ha
       rcases List.mem_append.1 ha with ha | ha
       ·exact h a ha
       ·rw [List.mem_singleton.1 ha]; exact fun _ _ => by omega
    ·have hk' : ¬ ((gt L i).1 = u /\ (gt L i).2.1 = w) := fun e => hk (decide_eq_true e)
     simp only [T_G, Zd, Sum.elim_inl]
     refine ⟨by omega, by omega, ⟨by omega, by omega, ?_, fun a ha => ?_⟩, by omega⟩
     ·rw [hs, List.filter_append, List.filter_cons, if_pos (decide_eq_true hk')]; simp
     ·rw [hs] at ha
      rcases List.mem_append.1 ha with ha | ha
      ·exact h a ha
      ·rw [List.mem_singleton.1 ha]; exact fun e1 e2 => absurd ⟨e1, e2⟩ hk'
  ·simp only [Zd, Sum.elim_inr]
   have e : L.take i.toNat = L := List.take_of_length_le (by omega)
   rw [e] at h ⊢
   exact ⟨rfl, h⟩
 ·rintro p ⟨rfl, h⟩
  have hf : (L.filter (fun x => decide (¬ (x.1 = u /\ x.2.1 = w)))).length ≤ L.length := List.length_filter_le _ _
  simp only [T_G, Zd]
  exact ⟨by omega, .inr ⟨h, rfl⟩⟩
theorem Zlx (hl : L.length ≤ 1000000) (hA : A.length ≤ 65536) (hv : ZH A v) : ZbE A L v = some (A.set v.toNat false, Zc9 L v) := by
 refine ZdZ.1 ?_
 unfold ZbE
 have hv1 := hv.2.1
 simp only [T_G, List.nil_append]
 refine ⟨by omega, ⟨hv.1, hv1⟩, ?_⟩
 refine Zl (fun p => p = Zc9 L v) ?_ fun p e => by simp only [Zd]; rw [e]
 refine ZU (fun z => 0 ≤ z.1 /\ z.1 ≤ (L.length : Int) /\ z.2 = Zc9 (L.take z.1.toNat) v) (fun z => ((L.length : Int) - z.1).toNat) ?_ ⟨by simp, by simp, rfl⟩
 rintro ⟨i, p⟩ ⟨i0, i1, e⟩
 dsimp only at *
 subst e
 unfold ZaV
 rw [Zt]
 refine ⟨fun hlt => ?_, fun hge => by simp only [Zd, Sum.elim_inr]; rw [List.take_of_length_le (by omega)]⟩
 have hs := Za3 i0 hlt
 have hf : (Zc9 (L.take i.toNat) v).length ≤ L.length := Nat.le_trans (List.length_filter_le _ _) (by rw [List.length_take]; omega)
 rw [T_G]
 refine ⟨i0, ?_⟩
 refine Zl (fun b => b = decide ((gt L i).1 ≠ v /\ (gt L i).2.1 ≠ v)) ?_ ?_
 ·by_cases q : (gt L i).1 = v <;> simp [q]
 ·rintro _ rfl
  rw [Zt]
  refine ⟨fun hk => ?_, fun hk => ?_⟩
  ·simp only [T_G, Zd, Sum.elim_inl]
   refine ⟨by omega, by omega, ⟨by omega, by omega, ?_⟩, by omega⟩
   rw [hs]; unfold Zc9
   rw [List.filter_append, List.filter_cons, if_pos hk]; rfl
  ·simp only [T_G, Zd, Sum.elim_inl]
   refine ⟨by omega, ⟨by omega, by omega, ?_⟩, by omega⟩
   rw [hs]; unfold Zc9
   rw [List.filter_append, List.filter_cons, if_neg hk]; simp
end Go.Vd

/-! (Ld13) -/

set_option linter.unusedVariables false
set_option linter.unusedSimpArgs false
set_option maxHeartbeats 1000000
namespace Go.Vd
variable {nodes : List Nod} {alive arcs : Int} {A : List Bool} {L : List OAr} {N : Int} {Arcs : List A3}
abbrev Stp := Int × Int × Int × Int × Int
abbrev ZkY (script : List Stp) : Prop := ∀ x ∈ script, (0 ≤ x.1 /\ x.1 ≤ 255) /\ (-9223372036854775808 ≤ x.2.1 /\ x.2.1 ≤ 9223372036854775807) /\ (-9223372036854775808 ≤ x.2.2.1 /\ x.2.2.1 ≤ 9223372036854775807) /\ (0 ≤ x.2.2.2.1 /\ x.2.2.2.1 ≤ 18446744073709551615) /\ (-9223372036854775808 ≤ x.2.2.2.2 /\ x.2.2.2.2 ≤ 9223372036854775807)
def LdR (n : Nat) (r : List Nod × Int × Int × List Bool × List OAr) : Prop := OvR r.1 r.2.1 r.2.2.1 r.2.2.2.1 r.2.2.2.2 /\ r.2.2.2.2.length ≤ 2060 /\ r.2.2.2.1.length = n
theorem ZmY {script : List Stp} (hs : ZkY script) (hl : (script.length : Int) ≤ 60) (h : OvR nodes alive arcs A L) (hb : L.length ≤ 2000) :
  T (ZP (fun zz_ => ZaI script zz_.1 zz_.2.1 zz_.2.2.1 zz_.2.2.2.1 zz_.2.2.2.2.1 zz_.2.2.2.2.2) (0, nodes, alive, arcs, A, L)) (LdR A.length) := by
 refine ZU (fun z => 0 ≤ z.1 /\ z.1 ≤ (script.length : Int) /\ OvR z.2.1 z.2.2.1 z.2.2.2.1 z.2.2.2.2.1 z.2.2.2.2.2 /\ (z.2.2.2.2.2.length : Int) ≤ 2000 + z.1 /\ z.2.2.2.2.1.length = A.length) (fun z => ((script.length : Int) - z.1).toNat) ?_ ⟨by simp, by simp, h, by simp; omega, rfl⟩
 rintro ⟨i, o, al, ar, B, M⟩ ⟨i0, i1, ho, hM, hB⟩
 dsimp only at *
 clear h hb
 unfold ZaI
 rw [Zt]
 refine ⟨fun hlt => ?_, fun hge => ?_⟩
 rotate_left
 ·simp only [Zd, Sum.elim_inr]
  exact ⟨ho, by dsimp only; omega, hB⟩
 have hm : gt script i ∈ script := by
  unfold gt
  rw [List.getD_eq_getElem?_getD, List.getElem?_eq_getElem (by omega)]
  exact List.getElem_mem _
 obtain ⟨_, b1, b2, b3, b4⟩ := hs _ hm
 generalize gt script i = st at *
 obtain ⟨kd, u, w, wt, via⟩ := st
 dsimp only at *
 rw [T_G]
 refine ⟨i0, ?_⟩
 refine Zl (fun r => OvR r.1 al r.2.1 B r.2.2 /\ (r.2.2.length : Int) ≤ 2000 + (i + 1)) ?_ ?_
 ·rw [Zt]
  refine ⟨fun _ => ?_, fun _ => ?_⟩
  ·have hlb := ho.lb
   refine Zl _ (Zn5 (u := u) (via := via) ho (by omega) b2.1 b2.2 b3.1) ?_
   intro r hr
   rw [Zmh, Option.bind_some, ZgY, Option.bind_some]
   cases hr with
   | bad hn =>
    rw [if_neg (by simp [hn])]
    simp only [Zd]
    exact ⟨ho, by omega⟩
   | less a hc a1 a2 a3 a4 =>
    rw [hc, if_pos (by simp)]
    refine Zl _ (Zkv hlb) ?_
    rintro r (⟨_, rfl⟩ | ⟨hn, rfl⟩)
    ·simp only [Zd]
     exact ⟨ho, by omega⟩
    ·have := hn a a1 a2 a3; omega
   | put o' ar' hc hless h2 =>
    have hpl := Zkp ho.kd (u, w, wt, via)
    have hpl2 : (Ze6 M (u, w, wt, via)).length ≤ M.length + 1 := by rw [hpl]; split <;> omega
    rw [hc, if_pos (by simp)]
    refine Zl _ (Zkv hlb) ?_
    rintro r (⟨⟨a, a1, a2, a3, a4⟩, rfl⟩ | ⟨hn, rfl⟩)
    ·have := hless a a1 a2 a3; omega
    ·simp only [Zd]
     exact ⟨h2, by omega⟩
  ·simp only [Zd]
   exact ⟨ho, by omega⟩
 ·rintro ⟨o1, ar1, M1⟩ ⟨h1, l1⟩
  dsimp only at *
  rw [Zt]
  refine ⟨fun _ => ?_, fun _ => ?_⟩
  ·refine Zl _ (Zmj (v := u) h1) ?_
   intro r hr
   rw [ZgZ, Option.bind_some]
   cases hr with
   | bad hn =>
    rw [decide_eq_false hn, if_neg (by decide)]
    simp only [T_G, Zd, Sum.elim_inl]
    exact ⟨by omega, ⟨by omega, by omega, h1, by omega, hB⟩, by omega⟩
   | ok o' hv h' =>
    have hrl : (Zc9 M1 u).length ≤ M1.length := List.length_filter_le _ _
    rw [decide_eq_true hv, if_pos rfl, Zlx h1.lb h1.sm hv, Option.bind_some]
    simp only [T_G, Zd, Sum.elim_inl]
    exact ⟨by omega, ⟨by omega, by omega, h', by omega, by rw [List.length_set]; exact hB⟩, by omega⟩
  ·simp only [T_G, Zd, Sum.elim_inl]
   exact ⟨by omega, ⟨by omega, by omega, h1, by omega, hB⟩, by omega⟩
theorem Znl {script : List Stp} (hs : ZkY script) : T (Zb4 N Arcs script) fun r => r = .inl () ∨ (GChk N Arcs .nil /\ N ≤ 12 /\ ∃ y, r = .inr y /\ LdR N.toNat y) := by
 unfold Zb4
 refine Zl (fun b => b = false -> (GChk N Arcs .nil /\ N ≤ 12 /\ (Arcs.length : Int) ≤ 2000) /\ (script.length : Int) ≤ 60) ?_ ?_
 ·refine Zl _ p_Few fun f hf => ?_
  rw [Zt]
  refine ⟨fun h => ?_, fun h => ?_⟩
  ·simp only [Zd]
   intro hd
   exact ⟨hf.1 h, by simpa using hd⟩
  ·simp only [Zd]
   intro hd; cases hd
 ·intro b hb
  rw [Zt]
  refine ⟨fun _ => by simp, fun hb' => ?_⟩
  obtain ⟨⟨hc, hN, ha⟩, hl⟩ := hb (by simpa using hb')
  refine Zl _ ZmH ?_
  intro r hr
  cases hr with
  | bad er c n => exact absurd (c.uniq hc) n
  | ok M nodes _ k l h =>
   rw [Sum.elim_inr]
   refine Zl _ (Zmr hc) ?_
   rintro r ⟨M', k', l', rfl⟩
   obtain rfl := k.uniq k'
   dsimp only
   refine Zl _ (ZmY hs hl h (by rw [List.length_map]; omega)) ?_
   rintro ⟨a1, a2, a3, a4, a5⟩ hL
   simp only [Zd]
   refine .inr ⟨hc, hN, _, rfl, ?_⟩
   rw [List.length_replicate] at hL
   exact hL
end Go.Vd

/-! (ShB) -/

set_option linter.unusedVariables false
set_option linter.unusedSimpArgs false
set_option maxHeartbeats 1000000
namespace Go.Vd
variable {nodes : List Nod} {alive arcs : Int} {A : List Bool} {M : List OAr} {u v w skip hops settles c N : Int} {a : Hf}
end Go.Vd

/-! (Wk0) -/

set_option linter.unusedVariables false
set_option linter.unusedSimpArgs false
namespace Go.Vd
variable {N i j d : Int} {A L : List A3}
inductive Wk (A : List A3) : Int -> Int -> Int -> Prop
 | refl (i : Int) : Wk A i i 0
 | step (i u d x w : Int) : Wk A i u d -> (u, x, w) ∈ A -> Wk A i x (d + w)
end Go.Vd

/-! (ShD) -/

set_option linter.unusedVariables false
set_option linter.unusedSimpArgs false
set_option maxHeartbeats 1000000
namespace Go.Vd
variable {nodes : List Nod} {alive arcs : Int} {A : List Bool} {M : List OAr} {u v w x y d skip hops settles most c N W : Int} {L L' : Lab} {row : Int -> List (Int × Int)} {X : List A3}
def a3 (M : List OAr) : List A3 := M.map fun a => (a.1, a.2.1, a.2.2.1)
theorem Zn0 {x y w : Int} : (x, y, w) ∈ a3 M ↔ ∃ a ∈ M, a.1 = x /\ a.2.1 = y /\ a.2.2.1 = w := by
 unfold a3
 rw [List.mem_map]
 constructor
 ·rintro ⟨a, ha, e⟩
  simp only [Prod.mk.injEq] at e
  exact ⟨a, ha, e.1, e.2.1, e.2.2⟩
 ·rintro ⟨a, ha, rfl, rfl, rfl⟩
  exact ⟨a, ha, rfl⟩
theorem WR.wk (h : WR row hops settles most c L L') (hr : ∀ x, x ≠ skip -> ∀ b ∈ row x, b.1 ≠ skip /\ (x, b.1, b.2) ∈ X) : (∀ x y, L x = some y -> x ≠ skip /\ Wk X u x y.1) -> ∀ x y, L' x = some y -> x ≠ skip /\ Wk X u x y.1 := by
 induction h with
 | full => exact fun k => k
 | none => exact fun k => k
 | far => exact fun k => k
 | go c L v y L' _ hp _ _ ih =>
  intro hL
  refine ih ?_
  obtain ⟨v1, v2⟩ := hL v y hp.1
  have h1 : ∀ x z, lup L v (y.1, y.2.1, 1) x = some z -> x ≠ skip /\ Wk X u x z.1 := fun x z hz => by
   unfold lup at hz
   by_cases e : x = v
   ·rw [if_pos e] at hz; cases hz; rw [e]; exact ⟨v1, v2⟩
   ·rw [if_neg e] at hz; exact hL x z hz
  have key : ∀ (l : List (Int × Int)) (K : Lab), (∀ b ∈ l, b.1 ≠ skip /\ (v, b.1, b.2) ∈ X) -> (∀ x z, K x = some z -> x ≠ skip /\ Wk X u x z.1) -> ∀ x z, l.foldl (ZdJ y.1 y.2.1) K x = some z -> x ≠ skip /\ Wk X u x z.1 := by
   intro l
   induction l with
   | nil => intro K _ hK; exact hK
   | cons b l ih2 =>
    intro K hl hK
    refine ih2 _ (fun b' hb' => hl b' (by simp [hb'])) fun x z hz => ?_
    unfold ZdJ at hz
    split at hz
    ·unfold lup at hz
     by_cases e : x = b.1
     ·rw [if_pos e] at hz; cases hz
      obtain ⟨b1, b2⟩ := hl b (by simp)
      rw [e]
      exact ⟨b1, v2.step _ _ _ _ _ b2⟩
     ·rw [if_neg e] at hz; exact hK x z hz
    ·exact hK x z hz
  unfold Ze0
  split
  ·exact h1
  ·exact key _ _ (hr v v1) h1
theorem Znr (h : KD M) : ∀ x, x ≠ skip -> ∀ b ∈ ZcY M skip x, b.1 ≠ skip /\ (x, b.1, b.2) ∈ a3 (Zc9 M skip) := fun x hx b hb => by
 unfold ZcY at hb
 obtain ⟨z, hz, rfl⟩ := List.mem_map.1 hb
 obtain ⟨h1, h2⟩ := List.mem_filter.1 hz
 have h3 := of_decide_eq_true h2
 exact ⟨h3, Zn0.2 ⟨(x, z), Zes.2 ⟨(Z6 h).1 h1, hx, h3⟩, rfl, rfl, rfl⟩⟩
theorem ZnU (h : OvR nodes alive arcs A M) (hu : ZH A u) (hus : u ≠ skip) (hset : settles ≤ 9223372036854775807) {z : Int × Int × Int} (hz : Zin M skip hops settles most u x = some z) : x ≠ skip /\ Wk (a3 (Zc9 M skip)) u x z.1 := by
 obtain ⟨r, _, hR⟩ := ZmK (skip := skip) (hops := hops) (most := most) h hu.1 hu.2.1 hset
 have := hR.wk (u := u) (Znr h.kd) fun x y hy => by
  unfold ZdA lup at hy
  by_cases e : x = u
  ·rw [if_pos e] at hy; cases hy; rw [e]; exact ⟨hus, .refl _⟩
  ·rw [if_neg e] at hy; cases hy
 rw [hR.fin] at this
 exact this x z hz
end Go.Vd

/-! (ShF) -/

set_option linter.unusedVariables false
set_option linter.unusedSimpArgs false
set_option maxHeartbeats 1000000
namespace Go.Vd
variable {nodes : List Nod} {alive arcs : Int} {A : List Bool} {M : List OAr} {u v x skip hops settles most b : Int} {L : Lab} {s : Int × Int × Int} {X : List A3}
theorem Zk0 (h1 : s.2.2 ≤ 140737488355328) (h2 : far L s.2.1 > s.2.2) (h3 : ∀ x ∈ M, x.1 = s.1 -> x.2.1 = s.2.1 -> ¬ x.2.2.1 ≤ s.2.2) : Zdn M L s = true := by
 unfold Zdn
 rw [decide_eq_true_iff]
 exact ⟨h1, h2, fun ⟨x, a, b, c, d⟩ => h3 x a b c d⟩
theorem ZjQ (h : OvR nodes alive arcs A M) (hu : ZH A u) (hus : u ≠ skip) (hset : settles ≤ 9223372036854775807) (hb : b < 18446744073709551615) (k : ∀ d, Wk (a3 (Zc9 M skip)) u x d -> b < d) : far (Zin M skip hops settles most u) x > b := by
 unfold far
 split
 ·rename_i hs
  obtain ⟨z, hz⟩ := Option.isSome_iff_exists.1 hs
  rw [hz]
  exact k _ (ZnU h hu hus hset hz).2
 ·exact hb
theorem ZjL {P : Int -> Int -> Prop} (h0 : P u 0) (hs : ∀ x d, P x d -> ∀ a ∈ X, a.1 = x -> P a.2.1 (d + a.2.2)) {d : Int} (k : Wk X u x d) : P x d := by
 induction k with
 | refl => exact h0
 | step p e q t _ hm ih => exact hs _ _ ih _ hm rfl
abbrev f4A : List A3 := [(0, 1, 4), (1, 2, 1), (0, 2, 9), (2, 3, 2)]
abbrev f4M : List A3 := [(0, 1, 4), (0, 2, 9), (1, 2, 1), (2, 3, 2)]
abbrev f4O : List OAr := [(0, 1, 4, -1), (0, 2, 9, -1), (1, 2, 1, -1), (2, 3, 2, -1)]
abbrev A4 : List Bool := [true, true, true, true]
theorem f4N : Nrm f4A f4M := by
 refine ⟨by simp [f4M, ltk], fun a ha => ?_, fun a ha _ => ⟨a, ?_, rfl, rfl⟩⟩
 ·simp [f4M] at ha
  rcases ha with rfl | rfl | rfl | rfl <;> simp [f4A, Z4]
 ·simp [f4A] at ha
  rcases ha with rfl | rfl | rfl | rfl <;> simp [f4M]
theorem f4C : GChk 4 f4A .nil := .of_arcs (by decide) (by decide) (by decide) fun a ha => by
 simp [f4A] at ha
 rcases ha with rfl | rfl | rfl | rfl <;> simp
theorem lv4 (h0 : 0 ≤ v) (h1 : v < 4) : ZH A4 v := by
 have : v = 0 ∨ v = 1 ∨ v = 2 ∨ v = 3 := by omega
 rcases this with rfl | rfl | rfl | rfl <;> exact ⟨by decide, by decide, rfl⟩
theorem need2 (h : OvR nodes alive arcs A4 f4O) : Zdj f4O 2 5 5 = [(0, 3, 11), (1, 3, 3)] := by
 have i2 : inL f4O 2 = [(0, 9, -1), (1, 1, -1)] := by decide
 have o2 : Zz f4O 2 = [(3, 2, -1)] := by decide
 have q0 : Zaa (0, 9, -1) [(3, 2, -1)] = [(0, 3, 11)] := by decide
 have q1 : Zaa (1, 1, -1) [(3, 2, -1)] = [(1, 3, 3)] := by decide
 have ha : a3 (Zc9 f4O 2) = [(0, 1, 4)] := by decide
 unfold Zdj
 rw [i2]
 simp only [List.flatMap_cons, List.flatMap_nil]
 unfold Zbb
 rw [o2, q0, q1]
 rw [List.filter_cons, if_pos (Zk0 (by decide) (ZjQ h (lv4 (by decide) (by decide)) (by decide) (by decide) (by decide) fun d k => ?_) (by decide)), List.filter_cons, if_pos (Zk0 (by decide) (ZjQ h (lv4 (by decide) (by decide)) (by decide) (by decide) (by decide) fun d k => ?_) (by decide))]
 ·rfl
 ·rw [ha] at k
  have := ZjL (P := fun x _ => x = 1) rfl (fun x d hx a ha e => by rw [List.mem_singleton.1 ha] at e; dsimp only at e; omega) k
  exact absurd this (by decide)
 ·rw [ha] at k
  have := ZjL (P := fun x _ => x = 0 ∨ x = 1) (.inl rfl) (fun x d hx a ha e => by rw [List.mem_singleton.1 ha]; exact .inr rfl) k
  exact absurd this (by decide)
theorem need1 (h : OvR nodes alive arcs A4 f4O) : Zdj f4O 1 5 5 = [(0, 2, 5)] := by
 have i1 : inL f4O 1 = [(0, 4, -1)] := by decide
 have o1 : Zz f4O 1 = [(2, 1, -1)] := by decide
 have q0 : Zaa (0, 4, -1) [(2, 1, -1)] = [(0, 2, 5)] := by decide
 have ha : a3 (Zc9 f4O 1) = [(0, 2, 9), (2, 3, 2)] := by decide
 unfold Zdj
 rw [i1]
 simp only [List.flatMap_cons, List.flatMap_nil]
 unfold Zbb
 rw [o1, q0]
 rw [List.filter_cons, if_pos (Zk0 (by decide) (ZjQ h (lv4 (by decide) (by decide)) (by decide) (by decide) (by decide) fun d k => ?_) (by decide))]
 ·rfl
 ·rw [ha] at k
  have := ZjL (P := fun x d => (x = 0 /\ d = 0) ∨ (x = 2 /\ d = 9) ∨ (x = 3 /\ d = 11)) (.inl ⟨rfl, rfl⟩) (fun x d hx a ha e => by
   simp only [List.mem_cons, List.not_mem_nil, or_false] at ha
   rcases ha with rfl | rfl <;> dsimp only at e ⊢ <;> omega) k
  dsimp only at this ⊢
  omega
theorem Zhr (h : OvR nodes alive arcs A M) {x1 x2 x3 : Int} : T (Zc1 nodes alive arcs v hops settles x1 x2 x3) fun r => (¬ ZH A v /\ r = (0, .no 7)) ∨ (ZH A v /\ r = (((Zdj M v (bnd hops) (bnd settles)).length : Int) - (inL M v).length - (Zz M v).length, .nil)) := by
 have hil := h.inLen v
 have hol := h.outLen v
 unfold Zc1
 have hll : (Zdj M v (bnd hops) (bnd settles)).length ≤ 1000000000000 := by
  unfold Zdj
  rw [List.length_flatMap]
  have : ∀ l : List Hf, ((l.map fun a => (Zbb M v (bnd hops) (bnd settles) a).length).sum) ≤ l.length * 1000000 := fun l => by
   induction l with
   | nil => simp
   | cons x l ih =>
    have : (Zbb M v (bnd hops) (bnd settles) x).length ≤ 1000000 := by
     unfold Zbb
     exact Nat.le_trans (List.length_filter_le _ _) (Nat.le_trans ZdL hol)
    simp only [List.map_cons, List.sum_cons, List.length_cons]
    omega
  have := this (inL M v)
  omega
 refine Zl _ (ZeR h) ?_
 rintro r (⟨hv, rfl⟩ | ⟨hv, rfl⟩)
 ·dsimp only
  rw [if_neg (by decide)]
  simp only [Zd]
  exact .inl ⟨hv, trivial⟩
 ·dsimp only
  rw [if_pos rfl, p_In h, Option.bind_some, T_G]
  refine ⟨by omega, ?_⟩
  rw [ZiU h, Option.bind_some, T_G]
  refine ⟨by omega, ?_⟩
  simp only [Zd]
  exact .inr ⟨hv, trivial⟩
end Go.Vd

/-! (PrAw13) -/

set_option linter.unusedVariables false
set_option linter.unusedSimpArgs false
set_option maxHeartbeats 1000000
namespace Go.Vd
theorem Zln : ZbM = some true := by
 refine ZdZ.1 ?_
 unfold ZbM ZcW
 rw [Option.bind_some]
 refine Zl _ (ZmH (N := 4) (Arcs := f4A)) ?_
 intro r hr
 cases hr with
 | bad er c n => exact absurd (c.uniq f4C) n
 | ok M nodes c k l h =>
 obtain rfl : M = f4M := k.uniq f4N
 rw [Sum.elim_inr]
 have hA : List.replicate (4 : Int).toNat true = A4 := rfl
 have hM : f4M.map up4 = f4O := rfl
 rw [hA, hM] at h
 have b5 : bnd 5 = 5 := rfl
 refine Zl _ (ZeR (v := 1) (hops := 5) (settles := 5) h) ?_
 rintro r1 (⟨hn, _⟩ | ⟨_, rfl⟩)
 ·exact absurd (lv4 (by decide) (by decide)) hn
 refine Zl _ (Zhr (v := 2) (hops := 5) (settles := 5) h) ?_
 rintro r3 (⟨hn, _⟩ | ⟨_, rfl⟩)
 ·exact absurd (lv4 (by decide) (by decide)) hn
 rw [b5, need2 h, need1 h]
 dsimp only
 have e3 : ((([(0, 3, 11), (1, 3, 3)] : List (Int × Int × Int)).length : Int) - (inL f4O 2).length - (Zz f4O 2).length) = -1 := by decide
 rw [e3, if_pos rfl, if_pos rfl, if_pos rfl, Zi5 (by simp), Option.bind_some, Zhn (by simp)]
 simp
end Go.Vd

/-! (OvL) -/

set_option linter.unusedVariables false
set_option linter.unusedSimpArgs false
set_option maxHeartbeats 1000000
namespace Go.Vd
variable {L : List OAr} {A : List Bool} {u v w wt via : Int}
theorem Zog (hA : A.length ≤ 65536) : Zcl A L = some ((A.filter id).length : Int) := by
 refine ZdZ.1 ?_
 unfold Zcl
 refine Zl (fun n => n = ((A.filter id).length : Int)) ?_ fun n e => by simp only [Zd]; exact e
 refine ZU (fun z => 0 ≤ z.2 /\ z.2 ≤ (A.length : Int) /\ z.1 = (((A.take z.2.toNat).filter id).length : Int)) (fun z => ((A.length : Int) - z.2).toNat) ?_ ⟨by simp, by simp, rfl⟩
 rintro ⟨n, i⟩ ⟨i0, i1, e⟩
 dsimp only at *
 subst e
 unfold ZbB
 rw [Zt]
 refine ⟨fun hlt => ?_, fun hge => by simp only [Zd, Sum.elim_inr]; rw [List.take_of_length_le (by omega)]⟩
 have hs := Za3 i0 hlt
 have f2 : ((A.take i.toNat).filter id).length ≤ A.length := Nat.le_trans (List.length_filter_le _ _) (by rw [List.length_take]; omega)
 rw [T_G, Zt]
 refine ⟨i0, fun hg => ?_, fun hg => ?_⟩
 ·simp only [T_G, Zd, Sum.elim_inl]
  refine ⟨by omega, by omega, ⟨by omega, by omega, ?_⟩, by omega⟩
  rw [hs, List.filter_append, hg]; simp
 ·have hg' : gt A i = false := by simpa using hg
  simp only [T_G, Zd, Sum.elim_inl]
  refine ⟨by omega, ⟨by omega, by omega, ?_⟩, by omega⟩
  rw [hs, List.filter_append, hg']; simp
end Go.Vd

/-! (PrSm13) -/

set_option linter.unusedVariables false
set_option linter.unusedSimpArgs false
set_option maxHeartbeats 1000000
namespace Go.Vd
variable {nodes : List Nod} {alive arcs : Int} {A : List Bool} {M : List OAr}
theorem Zjs (h : OvR nodes alive arcs A M) : Zb3 nodes alive arcs A M = some true := by
 refine ZdZ.1 ?_
 have hsm := h.sm
 unfold Zb3 Zcv Zcg
 rw [Option.bind_some, Zog hsm, Option.bind_some, if_pos h.al, Option.bind_some, Option.bind_some, if_neg (by simp [h.ar])]
 refine ZcM (fun _ => True) ?_ fun _ _ => by simp
 refine ZU (fun i => 0 ≤ i /\ i ≤ (A.length : Int)) (fun i => ((A.length : Int) - i).toNat) ?_ ⟨by simp, by simp⟩
 rintro i ⟨i0, i1⟩
 unfold Zbe
 rw [Zt]
 refine ⟨fun hlt => ?_, fun hge => by simp⟩
 have hol := h.outLen i
 rw [ZiU h, Option.bind_some, ZhM h.kd h.lb, Option.bind_some]
 refine Zl (fun o => o = false) ?_ ?_
 ·rw [if_pos rfl, T_G]
  refine ⟨i0, ?_⟩
  rw [Zdx h, Option.bind_some]
  simp only [Zd]
  have : decide (ZH A i) = gt A i := by
   cases hA : gt A i with
   | true => exact decide_eq_true ⟨i0, hlt, hA⟩
   | false => exact decide_eq_false fun k => by have := k.2.2; rw [hA] at this; cases this
  rw [this]; simp
 rintro _ rfl
 rw [if_neg (by decide)]
 refine ZcM (fun _ => True) ?_ fun _ _ => ?_
 rotate_left
 ·simp only [T_G, Zd, Sum.elim_inl]
  exact ⟨by omega, ⟨by omega, by omega⟩, by omega⟩
 refine ZU (fun j => 0 ≤ j /\ j ≤ ((Zz M i).length : Int)) (fun j => (((Zz M i).length : Int) - j).toNat) ?_ ⟨by simp, by simp⟩
 rintro j ⟨j0, j1⟩
 unfold Zbc
 rw [Zt]
 refine ⟨fun hj => ?_, fun hj => by simp⟩
 rw [T_G, T_G, if_pos rfl, if_pos rfl, if_pos rfl]
 simp only [T_G, Zd, Sum.elim_inl]
 exact ⟨j0, hj, by omega, ⟨by omega, by omega⟩, by omega⟩
end Go.Vd

/-! (PrShortsNeeded) -/

set_option linter.unusedVariables false
set_option linter.unusedSimpArgs false
set_option maxHeartbeats 1000000
namespace Go.Vd
variable {N v hops settles x1 x2 x3 : Int} {Arcs : List A3} {nodes : List Nod} {alive arcs : Int} {A : List Bool} {M : List OAr}
theorem Zfo (h : OvR nodes alive arcs A M) : T (Zap A M v hops settles x1 x2 x3) fun r => (¬ ZH A v /\ r = ([], 7)) ∨ (ZH A v /\ r = (Zdj M v (bnd hops) (bnd settles), 0)) := by
 unfold Zap
 rw [ZgZ, Option.bind_some]
 by_cases hv : ZH A v
 ·rw [decide_eq_true hv, if_neg (by decide)]
  refine Zl _ (ZlY h) ?_
  rintro _ rfl
  simp only [Zd]
  exact .inr ⟨hv, trivial⟩
 ·rw [decide_eq_false hv, if_pos (by decide), p_E, Option.bind_some]
  simp only [Zd]
  exact .inl ⟨hv, trivial⟩
theorem Zis (h : OvR nodes alive arcs A M) : T (Zbi A M v hops settles x1 x2 x3) fun r => (¬ ZH A v /\ r = (0, 7)) ∨ (ZH A v /\ r = (((Zdj M v (bnd hops) (bnd settles)).length : Int) - (inL M v).length - (Zz M v).length, 0)) := by
 have hil := h.inLen v
 have hol := h.outLen v
 have hll := Zgs (v := v) (hops := bnd hops) (settles := bnd settles) h (inL M v).length
 rw [List.take_length] at hll
 unfold Zbi
 refine Zl _ (Zfo h) ?_
 rintro r (⟨hv, rfl⟩ | ⟨hv, rfl⟩)
 ·dsimp only
  rw [ZgY, Option.bind_some, if_pos (by decide)]
  simp only [Zd]
  exact .inl ⟨hv, trivial⟩
 ·dsimp only
  rw [ZgY, Option.bind_some, if_neg (by decide), ZmL h.kd h.lb, Option.bind_some, T_G]
  have hll2 : (Zdj M v (bnd hops) (bnd settles)).length ≤ 1000000000000 := hll
  refine ⟨by omega, ?_⟩
  rw [ZhM h.kd h.lb, Option.bind_some, T_G]
  refine ⟨by omega, ?_⟩
  simp only [Zd]
  exact .inr ⟨hv, trivial⟩
theorem Zii {script : List Stp} (hs : ZkY script) : Zaz N Arcs script v hops settles x1 x2 x3 = some true := by
 refine ZdZ.1 ?_
 unfold Zaz
 rw [Zln, Option.bind_some, if_neg (by decide)]
 refine Zl _ (Znl hs) ?_
 rintro r (rfl | ⟨hc, hN, ⟨o, al, ar, A, M⟩, rfl, h, hL, hA⟩)
 ·rw [Sum.elim_inl]
  simp
 rw [Sum.elim_inr]
 dsimp only at *
 have hll := Zgs (v := v) (hops := bnd hops) (settles := bnd settles) h (inL M v).length
 rw [List.take_length] at hll
 have hll2 : (Zdj M v (bnd hops) (bnd settles)).length ≤ 1000000000000 := hll
 by_cases hv : ZH A v
 ·refine Zl _ (ZeR h) ?_
  rintro r1 (⟨hn, _⟩ | ⟨_, rfl⟩)
  ·exact absurd hv hn
  refine Zl _ (Zfo h) ?_
  rintro r2 (⟨hn, _⟩ | ⟨_, rfl⟩)
  ·exact absurd hv hn
  dsimp only
  rw [Zi5 hll2, Option.bind_some, Zhn hll2, Option.bind_some, if_pos rfl, Zkj, Option.bind_some, Option.bind_some, if_neg (by decide)]
  refine Zl _ (Zhr h) ?_
  rintro r3 (⟨hn, _⟩ | ⟨_, rfl⟩)
  ·exact absurd hv hn
  refine Zl _ (Zis h) ?_
  rintro r4 (⟨hn, _⟩ | ⟨_, rfl⟩)
  ·exact absurd hv hn
  dsimp only
  rw [if_pos rfl, Zkj, Option.bind_some, if_pos rfl, Zjs h, Option.bind_some]
  simp
 ·refine Zl _ (ZeR h) ?_
  rintro r1 (⟨_, rfl⟩ | ⟨hn, _⟩)
  rotate_left
  ·exact absurd hn hv
  refine Zl _ (Zfo h) ?_
  rintro r2 (⟨_, rfl⟩ | ⟨hn, _⟩)
  rotate_left
  ·exact absurd hn hv
  dsimp only
  rw [Zi5 (by simp), Option.bind_some, Zhn (by simp), Option.bind_some, if_pos rfl, Zle (by decide), Option.bind_some, Option.bind_some, if_neg (by decide)]
  refine Zl _ (Zhr h) ?_
  rintro r3 (⟨_, rfl⟩ | ⟨hn, _⟩)
  rotate_left
  ·exact absurd hn hv
  refine Zl _ (Zis h) ?_
  rintro r4 (⟨_, rfl⟩ | ⟨hn, _⟩)
  rotate_left
  ·exact absurd hn hv
  dsimp only
  rw [if_pos rfl, Zle (by decide), Option.bind_some, if_pos rfl, Zjs h, Option.bind_some]
  simp
end Go.Vd
