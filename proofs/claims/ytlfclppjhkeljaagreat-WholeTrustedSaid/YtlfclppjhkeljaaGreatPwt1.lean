/- Links laid out; the ranks of links; the nodes along them. Plain Lean: no program here. -/
import Derived.Test.YtlfclppjhkeljaaGreatPwt0
import Derived.Test.YtlfclppjhkeljaaGreatPwtIWt
set_option linter.unusedVariables false
set_option linter.unusedSimpArgs false
set_option linter.unusedSectionVars false
/-! (UnB) -/

set_option linter.unusedVariables false
set_option linter.unusedSimpArgs false
set_option maxHeartbeats 1000000
namespace Go.Vd
variable {F N UF DF l t0 ranks : List Int} {B U D : List B4} {all : List E7} {i r u v d : Int}
theorem Zi4 (h : U.length + D.length ≤ 100000000000000) (i0 : 0 ≤ i) (i1 : i < (U.length : Int) + D.length) : ZcA N UF U DF D i = some (lnk U D i) := by
 unfold ZcA lnk G
 by_cases q : i < (U.length : Int)
 ·rw [if_pos q, if_pos q, if_pos i0]
 ·rw [if_neg q, if_neg q, if_pos (by omega), if_pos (by omega)]
theorem Zjy {E : Type} [Inhabited E] {l : List E} {i : Int} (i0 : 0 ≤ i) (i1 : i < (l.length : Int)) : l.drop i.toNat = gt l i :: l.drop (i + 1).toNat := by
 rw [show (i + 1).toNat = i.toNat + 1 by omega, List.drop_eq_getElem_cons (by omega)]
 unfold gt
 rw [List.getD_eq_getElem?_getD, List.getElem?_eq_getElem (by omega)]; rfl
theorem ZlH (hl : l.length ≤ 1000000) : T (Zz (fun zz_ => ZbW l zz_.1 zz_.2) ([], (l.length : Int) - 1)) fun s => s = l.reverse := by
 refine ZH (fun z => -1 ≤ z.2 /\ z.2 < (l.length : Int) /\ z.1 = (l.drop (z.2 + 1).toNat).reverse) (fun z => (z.2 + 1).toNat) ?_ ⟨by dsimp only; omega, by dsimp only; omega, by simp⟩
 rintro ⟨s, i⟩ ⟨i0, i1, hs⟩
 dsimp only at *
 unfold ZbW
 rw [Zq]
 refine ⟨fun hge => ?_, fun hlt => ?_⟩
 ·have : s.length ≤ l.length := by rw [hs, List.length_reverse, List.length_drop]; omega
  simp only [T_G, Zc, Sum.elim_inl]
  refine ⟨by omega, by omega, by omega, ⟨by omega, by omega, ?_⟩, by omega⟩
  rw [show i - 1 + 1 = i by omega, Zjy (by omega) i1, List.reverse_cons, hs]
 ·simp only [Zc, Sum.elim_inr]
  obtain rfl : i = -1 := by omega
  rw [hs]; rfl
theorem InF.exN (h : InF N UF U DF D all) (hU : WL U) (hD : WL D) (i0 : 0 ≤ i) (i1 : i < (all.length : Int)) (hp : ¬ PlX all i) : exF all N.length i = exF all N.length (lfE (gt all i)) ++ exF all N.length (rgE (gt all i)) := by
 have := h.at1 i0 i1
 rw [← h.exS hU hD i0 i1 (by omega), ZhU, if_neg hp]
theorem exF_p (hp : PlX all i) : ∀ {m : Nat}, exF all m i = [i] := by
 intro m
 cases m with
 | zero => rfl
 | succ m => rw [ZhU, if_pos hp]
def stS (all : List E7) (n : Nat) (s : List Int) : Nat := (s.map fun j => 2 * (exF all n j).length - 1).sum
theorem p_lay (h : InF N UF U DF D all) (hU : WL U) (hD : WL D) (hl : ∀ j ∈ l, 0 ≤ j /\ j < (all.length : Int)) (sm : l.length ≤ 1000000) (sh : (exL all N.length l).length ≤ 131072) : Zdo N UF U DF D l = some (exL all N.length l, .nil) := by
 refine Ze2.1 ?_
 have hx := h.X.len
 have hs := h.sm.2
 unfold Zdo
 rw [T_G]
 refine ⟨by omega, Zo _ (ZlH sm) ?_⟩
 rintro _ rfl
 refine Za0 (fun o => o = exL all N.length l) ?_ fun o ho => by simp only [Zc]; rw [ho]
 refine ZH (fun z => (∀ j ∈ z.2, 0 ≤ j /\ j < (all.length : Int)) /\ z.1 ++ exL all N.length z.2.reverse = exL all N.length l /\ z.2.length ≤ 1131072 - z.1.length) (fun z => stS all N.length z.2) ?_ ⟨fun j hj => hl j (by simpa using hj), by simp, by simp; omega⟩
 rintro ⟨o, s⟩ ⟨hj, he, hc⟩
 dsimp only at *
 have hol : o.length ≤ 131072 := by
  have := congrArg List.length he
  rw [List.length_append] at this; omega
 unfold ZcG
 rcases List.eq_nil_or_concat s with rfl | ⟨s, j, hsj⟩
 ·rw [if_neg (by simp)]
  simp only [Zc, Sum.elim_inr]
  simpa [exL] using he
 rw [List.concat_eq_append] at hsj
 subst hsj
 obtain ⟨j0, j1⟩ := hj j (by simp)
 have e1 : gt (s ++ [j]) (((s ++ [j]).length : Int) - 1) = j := by
  rw [ZdN (by simp) (by simp; omega), if_pos (by simp)]
 have e2 : (s ++ [j]).take (((s ++ [j]).length : Int) - 1).toNat = s := by
  rw [show (((s ++ [j]).length : Int) - 1).toNat = s.length by simp]; simp
 rw [e1, e2]
 simp only [List.length_append, List.length_cons, List.length_nil] at hc ⊢
 rw [if_pos (by omega)]
 simp only [T_G]
 refine ⟨by omega, by omega, by omega, by omega, ?_⟩
 rw [Zi4 (by omega) j0 (by omega), Option.bind_some]
 obtain ⟨k1, k2, k3, k4⟩ := h.X.lk j0 j1
 rw [← k3, ← k4]
 have hst : stS all N.length (s ++ [j]) = stS all N.length s + (2 * (exF all N.length j).length - 1) := by unfold stS; simp
 have hxe : exL all N.length (s ++ [j]).reverse = exF all N.length j ++ exL all N.length s.reverse := by unfold exL; simp
 rw [hxe] at he
 rw [hst]
 have hp1 := (Zeq (all := all) (m := N.length) (i := j)).1
 by_cases hp : PlX all j
 ·rw [if_pos hp.1]
  rw [exF_p hp] at he ⊢
  have : o.length + 1 ≤ 131072 := by
   have := congrArg List.length he
   simp only [List.length_append, List.length_cons, List.length_nil] at this; omega
  rw [if_neg (by omega)]
  simp only [T_G, Zc, Sum.elim_inl]
  refine ⟨by omega, ⟨fun x hx => hj x (by simp [hx]), by simpa using he, by simp; omega⟩, by simp⟩
 ·obtain ⟨⟨a1, a2, a3⟩, ⟨b1, b2, b3⟩, _⟩ := h.kids hU hD j0 j1 hp
  unfold lfE at a1 a2 a3
  unfold rgE at b1 b2 b3
  rw [if_neg (by omega)]
  have hx := h.exN hU hD j0 j1 hp
  unfold lfE rgE at hx
  rw [hx] at he ⊢
  have p1 := (Zeq (all := all) (m := N.length) (i := (gt all j).2.2.1)).1
  have p2 := (Zeq (all := all) (m := N.length) (i := (gt all j).2.2.2.1)).1
  have hrest : s.length ≤ (exL all N.length s.reverse).length := by
   unfold exL
   rw [List.length_flatMap]
   have : ∀ q : List Int, q.length ≤ (q.map fun a => (exF all N.length a).length).sum := fun q => by
    induction q with
    | nil => simp
    | cons a q ih => have := (Zeq (all := all) (m := N.length) (i := a)).1; simp only [List.map_cons, List.sum_cons, List.length_cons]; omega
   simpa using this s.reverse
  have hlen := congrArg List.length he
  simp only [List.length_append] at hlen
  simp only [T_G, Zc, Sum.elim_inl]
  refine ⟨by omega, by omega, by omega, ⟨fun x hx => ?_, ?_, by simp only [List.length_append, List.length_cons, List.length_nil]; omega⟩, ?_⟩
  ·rcases List.mem_append.1 hx with q | q
   ·exact hj x (by simp [q])
   ·simp only [List.mem_cons, List.not_mem_nil, or_false] at q
    rcases q with rfl | rfl
    ·exact ⟨b1, b2⟩
    ·exact ⟨a1, a2⟩
  ·rw [← he]
   unfold exL; simp
  ·unfold stS
   simp only [List.map_append, List.sum_append, List.map_cons, List.map_nil, List.sum_cons, List.sum_nil, List.length_append]
   omega
theorem Zjl : Zb6 = ZaS := rfl
theorem ZhZ (u0 : 0 ≤ u) (hu : (t0.length : Int) = u) (hul : u ≤ 1048576) (hf : Fst F (B.length : Int)) (hF : (F.length : Int) = N.length + 1) (hn : N.length ≤ 65536) (hl : B.length ≤ 1048576) :
  T (Zz (fun zz_ => ZaS N F zz_.1 zz_.2) (0, t0)) fun o => (o.length : Int) = u + B.length /\ (∀ i, 0 ≤ i -> i < u -> gt o i = gt t0 i) /\ RkT F u (B.length : Int) o := by
 refine ZH (fun z => 0 ≤ z.1 /\ z.1 ≤ (N.length : Int) /\ (z.2.length : Int) = u + gt F z.1 /\ (∀ i, 0 ≤ i -> i < u -> gt z.2 i = gt t0 i) /\ RkT F u (gt F z.1) z.2) (fun z => ((N.length : Int) - z.1).toNat) ?_ ⟨by simp, by simp, by simp [hf.z, hu], fun i _ _ => rfl, fun i i0 i1 => by dsimp only at i1; rw [hf.z] at i1; omega⟩
 rintro ⟨q, y⟩ ⟨q0, q1, hy, hk, ht⟩
 dsimp only at *
 unfold ZaS
 rw [Zq]
 refine ⟨fun hq => ?_, fun hq => ?_⟩
 rotate_left
 ·have e : q = (F.length : Int) - 1 := by omega
  rw [e, hf.e] at hy ht
  simp only [Zc, Sum.elim_inr]
  exact ⟨hy, hk, ht⟩
 have m1 := hf.up q q0 (by omega)
 have m0 := hf.le (a := 0) (b := q) (by omega) q0 (by omega)
 have m2 := hf.le (a := q + 1) (b := (F.length : Int) - 1) (by omega) (by omega) (by omega)
 rw [hf.z] at m0
 rw [hf.e] at m2
 simp only [T_G]
 refine ⟨by omega, by omega, by omega, by omega, Zo (fun o => (o.length : Int) = u + gt F (q + 1) /\ (∀ i, 0 ≤ i -> i < u -> gt o i = gt t0 i) /\ RkT F u (gt F (q + 1)) o) ?_ ?_⟩
 ·refine ZH (fun z => 0 ≤ z.2 /\ z.2 ≤ gt F (q + 1) - gt F q /\ (z.1.length : Int) = u + (gt F q + z.2) /\ (∀ i, 0 ≤ i -> i < u -> gt z.1 i = gt t0 i) /\ RkT F u (gt F q + z.2) z.1) (fun z => (gt F (q + 1) - gt F q - z.2).toNat) ?_ ⟨by simp, by dsimp only; omega, by simpa using hy, hk, by simpa using ht⟩
  rintro ⟨y, j⟩ ⟨j0, j1, hy, hk, ht⟩
  dsimp only at *
  unfold Zb4
  simp only [T_G, Zq, Zc, Sum.elim_inl, Sum.elim_inr]
  refine ⟨fun hj => ⟨by omega, by omega, ⟨by omega, by omega, by simp; omega, fun i i0 i1 => ?_, fun i i0 i1 r hr => ?_⟩, by omega⟩, fun hj => ?_⟩
  ·rw [ZdN i0 (by omega), if_neg (by omega)]; exact hk i i0 i1
  ·rw [ZdN (by omega) (by omega), hy]
   by_cases e : i = gt F q + j
   ·rw [if_pos (by omega)]
    have : Rk F i q := ⟨q0, by omega, by omega, by omega⟩
    exact hf.uniq this hr
   ·rw [if_neg (by omega)]; exact ht i i0 (by omega) r hr
  ·have e : gt F q + j = gt F (q + 1) := by omega
   rw [← e]; exact ⟨hy, hk, ht⟩
 ·rintro y' ⟨h1, h2, h3⟩
  simp only [T_G, Zc, Sum.elim_inl]
  exact ⟨by omega, ⟨by omega, by omega, h1, h2, h3⟩, by omega⟩
theorem Zlg (h : InF N UF U DF D all) : T (ZcT N UF U DF D) fun x => Zh6 x all := by
 have hX := h.X
 have hl := hX.len
 obtain ⟨n1, m1⟩ := h.sm
 obtain ⟨nU, nD⟩ := h.ln
 unfold ZcT
 refine Zo _ (ZhZ (N := N) (t0 := []) (u := 0) (by omega) rfl (by omega) h.fU nU (by omega) (by omega)) fun t0 ⟨a1, _, a2⟩ => ?_
 rw [Zjl]
 refine Zo _ (ZhZ (N := N) (u := (U.length : Int)) (by omega) (by omega) (by omega) h.fD nD (by omega) (by omega)) fun t ⟨b1, b2, b3⟩ => ?_
 simp only [Zc]
 refine ⟨by omega, fun i i0 i1 => ?_⟩
 obtain ⟨r, h1, h2⟩ := hX.at' i i0 i1
 rw [h2]
 unfold RkX at h1
 by_cases q : i < (U.length : Int)
 ·rw [if_pos q] at h1
  have := a2 i i0 q r h1
  rw [Int.zero_add] at this
  rw [b2 i i0 q, this]; rfl
 ·rw [if_neg q] at h1
  have := b3 (i - U.length) (by omega) (by omega) r h1
  rw [show (U.length : Int) + (i - U.length) = i from by omega] at this
  rw [this]; rfl
theorem ZkZ (h : InF N UF U DF D all) (hN : W32 N) (hU : WL U) (hD : WL D) (hr : Zh6 ranks all) (c : Ch all l u v d) (sm : l.length ≤ 1000000) (ne : l ≠ []) : ZcY N UF U DF D ranks l = some (gt N u :: hds N all l) := by
 refine Ze2.1 ?_
 have hX := h.X
 have hl := hX.len
 obtain ⟨n1, m1⟩ := h.sm
 have hrl := hr.1
 unfold ZcY
 refine Zo (fun o => o = gt N u :: hds N all l) ?_ fun o e => by simp only [Zc]; exact e
 have h0 : tlE (gt all (gt l 0)) = u := by
  cases c with
  | nil => exact absurd rfl ne
  | cons i v d l _ _ _ => rfl
 refine ZH (fun z => 0 ≤ z.1 /\ z.1 ≤ (l.length : Int) /\ z.2 = if z.1 = 0 then [] else gt N u :: hds N all (l.take z.1.toNat)) (fun z => ((l.length : Int) - z.1).toNat) ?_ ⟨by simp, by simp, by simp⟩
 rintro ⟨i, o⟩ ⟨i0, i1, ho⟩
 dsimp only at *
 unfold Zb8
 rw [Zq]
 refine ⟨fun hlt => ?_, fun hge => ?_⟩
 rotate_left
 ·simp only [Zc, Sum.elim_inr]
  have : 0 < l.length := List.length_pos_iff.2 ne
  rw [if_neg (by omega), List.take_of_length_le (by omega)] at ho
  exact ho
 have hm := c.mem _ (Zah (xs := l) i0 hlt)
 obtain ⟨k1, k2, k3, k4⟩ := hX.lk hm.1 hm.2
 obtain ⟨g1, g2, g3, g4, g5⟩ := h.at1 hm.1 hm.2
 have tr := h.tlr hm.1 hm.2
 have hri := hr.2 _ hm.1 hm.2
 have hri' : gt ranks (gt l i) = rkE (gt all (gt l i)) := hri
 have ht : hds N all (l.take (i + 1).toNat) = hds N all (l.take i.toNat) ++ [gt N (hdE (gt all (gt l i)))] := by
  unfold hds
  rw [show (i + 1).toNat = i.toNat + 1 from by omega, List.take_add_one, List.map_append]
  congr 1
  have : l[i.toNat]?.toList = [gt l i] := by
   unfold gt
   rw [List.getD_eq_getElem?_getD, List.getElem?_eq_getElem (by omega)]; rfl
  rw [this]; rfl
 have q1 := hN _ (Zah (xs := N) (i := tlE (gt all (gt l i))) (by omega) (by omega))
 have q2 := hN _ (Zah (xs := N) (i := hdE (gt all (gt l i))) (by omega) (by omega))
 have hol : o.length ≤ l.length + 1 := by
  rw [ho]
  split
  ·simp
  ·unfold hds; rw [List.length_cons, List.length_map, List.length_take]; omega
 simp only [T_G]
 refine ⟨i0, by omega, ?_⟩
 rw [Zi4 (by omega) hm.1 (by omega), Option.bind_some, ← k1]
 simp only [T_G]
 refine ⟨by omega, Zo (fun p => p = (tlE (gt all (gt l i)), hdE (gt all (gt l i)))) ?_ ?_⟩
 ·simp only [Zq, Zc, Prod.mk.injEq]
  exact ⟨fun q => ⟨by omega, by omega⟩, fun q => ⟨by omega, by omega⟩⟩
 rintro _ rfl
 dsimp only
 refine Zo (fun o' => o' = gt N u :: hds N all (l.take i.toNat)) ?_ ?_
 ·rw [Zq]
  refine ⟨fun e => ?_, fun e => ?_⟩
  ·have hi : i = 0 := by
    by_cases q : i = 0
    ·exact q
    ·rw [if_neg q] at ho; rw [ho] at e; simp at e; omega
   simp only [T_G, Zc]
   refine ⟨by omega, by omega, by omega, ?_⟩
   subst hi
   rw [if_pos rfl] at ho
   rw [ho, h0]; rfl
  ·simp only [Zc]
   by_cases q : i = 0
   ·rw [if_pos q] at ho; rw [ho] at e; exact absurd rfl e
   ·rw [if_neg q] at ho; exact ho
 rintro _ rfl
 have hol2 : (gt N u :: hds N all (l.take i.toNat)).length ≤ l.length + 1 := by unfold hds; rw [List.length_cons, List.length_map, List.length_take]; omega
 simp only [T_G, Zc, Sum.elim_inl]
 refine ⟨by omega, by omega, by omega, by omega, ⟨by omega, by omega, ?_⟩, by omega⟩
 rw [if_neg (by omega), ht]; rfl
end Go.Vd

/-! (UnC) -/

set_option linter.unusedVariables false
set_option linter.unusedSimpArgs false
set_option maxHeartbeats 1000000
namespace Go.Vd
variable {N UF DF P : List Int} {U D : List B4} {all : List E7} {L : List A3} {s t w a b : Int}
structure PthOk (L : List A3) (s t : Int) (P : List Int) (w : Int) : Prop where
 ne : P ≠ []
 nd : P.Nodup
 hd : gt P 0 = s
 ls : gt P ((P.length : Int) - 1) = t
 sw : SW (Zef L) P ((P.length : Int) - 1) w
theorem Zlf {l : List Int} (h : l ≠ []) : l.head? = some (gt l 0) := by
 cases l with
 | nil => exact absurd rfl h
 | cons x l => rfl
theorem Zli {l : List Int} {x : Int} (h : l.head? = some x) : gt l 0 = x := by
 cases l with
 | nil => cases h
 | cons y l => cases h; rfl
theorem Zk6 {l : List Int} (h : l ≠ []) : l.getLast? = some (gt l ((l.length : Int) - 1)) := by
 have : l.getLast? = some (l.getLast h) := List.getLast?_eq_some_getLast h
 rw [this, Zf1 this]
theorem Zk1 {n : Nat} : ∀ {l : List Int}, (exL all n l).length ≤ l.length * 2 ^ n := by
 intro l
 induction l with
 | nil => simp [exL]
 | cons i l ih =>
  have := (Zeq (all := all) (m := n) (i := i)).2
  have e : exL all n (i :: l) = exF all n i ++ exL all n l := rfl
  rw [e, List.length_append, List.length_cons, Nat.succ_mul]; omega
theorem Zlv {n : Nat} {l : List Int} (h : l ≠ []) : exL all n l ≠ [] := by
 cases l with
 | nil => exact absurd rfl h
 | cons i l =>
  intro e
  have := (Zeq (all := all) (m := n) (i := i)).1
  have e2 : (exL all n (i :: l)).length = 0 := by rw [e]; rfl
  rw [show exL all n (i :: l) = exF all n i ++ exL all n l from rfl, List.length_append] at e2
  omega
theorem ZlA {m : Int × Int × Er} (h : InF N UF U DF D all) (hN : W32 N) (hU : WL U) (hD : WL D) (e : ZZ N UF U DF D = some .nil) (few : N.length ≤ 12) (n : Nrm (ga N all all.length) L)
  (em : Za2 N UF U DF D s t = some m) (hm : ZkH N UF DF U D s t m) :
  T (ZbY N UF U DF D s t) fun r => (m.2.2 ≠ .nil /\ r = ([], m.2.2)) ∨ (m.2.2 = .nil /\ r.2 = .nil /\ ∃ w, w ≤ m.2.1 /\ PthOk L s t r.1 w) := by
 unfold ZbY Zdm
 rw [em, Option.bind_some, Option.bind_some]
 dsimp only
 by_cases hne : m.2.2 = .nil
 rotate_left
 ·rw [if_neg hne]
  simp only [Zc]
  exact .inl ⟨hne, trivial⟩
 rw [if_pos hne]
 rcases hm with ⟨_, _, _, q⟩ | ⟨⟨⟨s0, s1⟩, t0, t1⟩, a, b, L1, L2, ⟨a0, a1, rfl⟩, ⟨b0, b1, rfl⟩, D1, D2, hq⟩
 ·exact absurd hne q
 rcases hq with ⟨rfl, _⟩ | ⟨_, x, y, hx, hy, hd, _⟩
 ·cases hne
 refine Zo _ (ZkM e h.od (by omega)) ?_
 rintro ⟨l, er⟩ ⟨h1, h2⟩
 dsimp only at h1 h2 ⊢
 subst h1
 rw [if_pos rfl, T_G, T_G, h2.2 a a0 a1, h2.2 b b0 b1]
 have hl := h2.1
 refine ⟨by omega, by omega, ?_⟩
 refine Zo _ (Zlt h hU hD e (by omega) a0 a1 b0 b1 D1 D2 hx hy) ?_
 rintro ⟨ks, er⟩ ⟨h3, hc, hlen⟩
 dsimp only at h3 hc hlen ⊢
 subst h3
 rw [if_pos rfl, Zq]
 refine ⟨fun h0 => ?_, fun h0 => ?_⟩
 ·simp only [Zc]
  obtain rfl : ks = [] := List.eq_nil_of_length_eq_zero (by omega)
  have hab : a = b /\ x + y = 0 := by
   generalize hz : x + y = z at hc
   cases hc with
   | nil => exact ⟨rfl, rfl⟩
  refine .inr ⟨hne, trivial, 0, by omega, by simp, by simp, rfl, by rw [← hab.1]; rfl, .zero⟩
 have hks : ks ≠ [] := fun q => h0 (by rw [q]; rfl)
 obtain ⟨hx1, hx2⟩ := h.exL hU hD hc
 have hxl := Zk1 (all := all) (n := N.length) (l := ks)
 have hp2 : 2 ^ N.length ≤ 2 ^ 12 := Nat.pow_le_pow_right (by omega) few
 have hmul : ks.length * 2 ^ N.length ≤ 24 * 2 ^ 12 := Nat.mul_le_mul (by omega) hp2
 rw [p_lay h hU hD hc.mem (by omega) (by omega), Option.bind_some]
 dsimp only
 rw [if_pos rfl]
 refine Zo _ (Zlg h) ?_
 intro rk hrk
 rw [ZkZ h hN hU hD hrk hx1 (by omega) (Zlv hks), Option.bind_some]
 have hwk := h.walk n hx1 hx2
 have hsl : (gt N a :: hds N all (exL all N.length ks)).length = (exL all N.length ks).length + 1 := by unfold hds; simp
 generalize exL all N.length ks = E at *
 generalize hQ : gt N a :: hds N all E = Q at *
 have hQn : Q ≠ [] := by rw [← hQ]; simp
 have hQ0 : gt Q 0 = gt N a := by rw [← hQ]; rfl
 rw [Zkt (by omega), Option.bind_some]
 simp only [Zc]
 have hE : (E.length : Int) = (Q.length : Int) - 1 := by omega
 rw [hE] at hwk
 have hcst : ∀ p q x, Zef L p q x -> 0 ≤ x := fun p q x hs => by
  obtain ⟨i, i0, i1, _, e⟩ := ZeX ((h.memL n).1 hs)
  have := (h.wr hU hD i0 i1).1
  have e2 : x = wtE (gt all i) := congrArg (fun z : A3 => z.2.2) e
  omega
 obtain ⟨w, hw1, hw2⟩ := Zkc hcst Q hQn _ hwk.1
 refine .inr ⟨hne, trivial, w, by omega, fun q => hQn (Zfg q), Zj8 Q, ?_, ?_, hw2⟩
 ·exact (Zli (by rw [ZiC, Zlf hQn])).trans hQ0
 ·exact (Zf1 (by rw [ZeL, Zk6 hQn])).trans hwk.2
end Go.Vd

/-! (WkR) -/

set_option linter.unusedVariables false
set_option linter.unusedSimpArgs false
set_option maxHeartbeats 1000000
namespace Go.Vd
variable {P : List Int} {A L : List A3} {s t w x n k k' : Int}
theorem Nrm.inj (h : Nrm A L) {i j : Int} (i0 : 0 ≤ i) (i1 : i < (L.length : Int)) (j0 : 0 ≤ j) (j1 : j < (L.length : Int)) (e : Zbc (gt L i) (gt L j)) : i = j := by
 have key : ∀ i j : Int, 0 ≤ i -> i < j -> j < (L.length : Int) -> ¬ Zbc (gt L i) (gt L j) := fun i j i0 ij j1 e => by
  obtain ⟨i, rfl⟩ := Int.eq_ofNat_of_zero_le i0
  obtain ⟨j, rfl⟩ := Int.eq_ofNat_of_zero_le (show 0 ≤ j by omega)
  have := List.pairwise_iff_getElem.1 h.inc i j (by omega) (by omega) (by omega)
  rw [← Zb5 (show i < L.length by omega), ← Zb5 (show j < L.length by omega)] at this
  unfold ltk at this
  unfold Zbc at e
  omega
 by_cases q : i < j
 ·exact absurd e (key i j i0 q j1)
 ·by_cases q2 : j < i
  ·exact absurd ⟨e.1.symm, e.2.symm⟩ (key j i j0 q2 i1)
  ·omega
theorem SW.det (h : Nrm A L) (g : SW (Zef L) P k x) : ∀ {y}, SW (Zef L) P k y -> x = y := by
 induction g with
 | zero => intro y hy; rcases hy.inv with ⟨_, h⟩ | ⟨_, _, h, _⟩ <;> omega
 | step k s x k0 _ ha ih =>
  intro y hy
  rcases hy.inv with ⟨h1, _⟩ | ⟨s', x', _, h2, h3, rfl⟩
  ·omega
  ·rw [show k + 1 - 1 = k by omega] at h2 h3
   obtain ⟨i, i0, i1, e1⟩ := ZcE ha
   obtain ⟨j, j0, j1, e2⟩ := ZcE h3
   have := h.inj i0 i1 j0 j1 (by rw [← e1, ← e2]; exact ⟨rfl, rfl⟩)
   subst this
   have q := congrArg (fun z : A3 => z.2.2) (e1.trans e2.symm)
   have := ih h2
   dsimp only at q
   omega
theorem ZlR (h : Nrm A L) (hL : L.length ≤ 1000000) (hc : ∀ a ∈ L, 0 ≤ a.2.2) (g : PthOk L s t P w) (hw : w ≤ 1000000000000000000) (hP : P.length ≤ 1000000) : ZbC n L P s t = some (w, true) := by
 have hst : ∀ p q x, Zef L p q x -> 0 ≤ x := fun p q x q => hc _ q
 have hpos : 0 < P.length := List.length_pos_iff.2 g.ne
 unfold ZbC
 have h0 : (if (P.length : Int) = 0 then some true else G ((0 : Int) < (P.length : Int)) (if (gt P 0) = s then (G (-9223372036854775808 ≤ ((P.length : Int) - 1) /\ ((P.length : Int) - 1) ≤ 9223372036854775807) (G (0 ≤ ((P.length : Int) - 1) /\ ((P.length : Int) - 1) < (P.length : Int)) (some (!decide ((gt P ((P.length : Int) - 1)) = t))))) else (some true)) : Option Bool) = some false := by
  unfold G
  rw [if_neg (by omega), if_pos (by omega), if_pos g.hd, if_pos (by omega), if_pos (by omega), g.ls]
  simp
 rw [h0, Option.bind_some, if_neg (by decide)]
 refine Ze2.1 ?_
 refine Za0 (fun o => o = w) ?_ fun o ho => by simp only [Zc]; rw [ho]
 refine ZH (fun z => 0 ≤ z.2 /\ z.2 ≤ (P.length : Int) /\ (z.2 = 0 -> z.1 = 0) /\ (0 < z.2 -> SW (Zef L) P (z.2 - 1) z.1)) (fun z => ((P.length : Int) - z.2).toNat) ?_ ⟨by simp, by simp, fun _ => rfl, fun q => by dsimp only at q; omega⟩
 rintro ⟨sum, i⟩ ⟨i0, i1, hz, hs⟩
 dsimp only at *
 unfold Za7
 rw [Zq]
 refine ⟨fun hlt => ?_, fun hge => ?_⟩
 rotate_left
 ·simp only [Zc, Sum.elim_inr]
  have := hs (by omega)
  rw [show i - 1 = (P.length : Int) - 1 by omega] at this
  exact this.det h g.sw
 rw [T_G, T_G]
 refine ⟨i0, by omega, ?_⟩
 refine Za0 (fun _ => True) ?_ ?_
 ·refine ZH (fun j => 0 ≤ j /\ j ≤ i) (fun j => (i - j).toNat) ?_ ⟨by omega, by omega⟩
  rintro j ⟨j0, j1⟩
  unfold Za3
  have hl : (((P.take i.toNat).drop 0).length : Int) = i := by rw [List.drop_zero, List.length_take]; omega
  rw [hl, Zq]
  refine ⟨fun hj => ?_, fun _ => by simp only [Zc, Sum.elim_inr]⟩
  have hgt : gt ((P.take i.toNat).drop 0) j = gt P j := by
   unfold gt
   rw [List.drop_zero, List.getD_eq_getElem?_getD, List.getD_eq_getElem?_getD, List.getElem?_take, if_pos (by omega)]
  rw [hgt, T_G]
  refine ⟨j0, ?_⟩
  rw [if_neg]
  ·simp only [T_G, Zc, Sum.elim_inl]; omega
  ·intro e
   obtain ⟨i, rfl⟩ := Int.eq_ofNat_of_zero_le i0
   obtain ⟨j, rfl⟩ := Int.eq_ofNat_of_zero_le j0
   have := List.pairwise_iff_getElem.1 (List.nodup_iff_pairwise_ne.1 g.nd) j i (by omega) (by omega) (by omega)
   rw [← Zb5 (show j < P.length by omega), ← Zb5 (show i < P.length by omega)] at this
   exact this e
 intro _ _
 rw [Zq]
 refine ⟨fun e => ?_, fun e => ?_⟩
 ·simp only [T_G, Zc, Sum.elim_inl]
  refine ⟨by omega, ⟨by omega, by omega, fun q => by omega, fun _ => ?_⟩, by omega⟩
  rw [hz e, e]; exact .zero
 have hsi := hs (by omega)
 obtain ⟨s', hs1, hs2⟩ := g.sw.pre hst (k' := i) i0 (by omega)
 rcases hs2.inv with ⟨q, _⟩ | ⟨s2, x, _, g1, g2, rfl⟩
 ·omega
 obtain rfl := hsi.det h g1
 have hx := hst _ _ _ g2
 have hsum : 0 ≤ sum := by
  obtain ⟨z, z1, z2⟩ := g1.pre hst (k' := 0) (by omega) (by omega)
  rcases z2.inv with ⟨_, rfl⟩ | ⟨_, _, q, _⟩ <;> omega
 obtain ⟨p, p0, p1, ep⟩ := ZcE g2
 refine Zo (fun o => o = (sum + x, true)) ?_ ?_
 ·refine ZH (fun z => 0 ≤ z.2.2 /\ z.2.2 ≤ (L.length : Int) /\ (z.2.2 ≤ p -> z.1 = sum /\ z.2.1 = false) /\ (p < z.2.2 -> z.1 = sum + x /\ z.2.1 = true)) (fun z => ((L.length : Int) - z.2.2).toNat) ?_ ⟨by simp, by simp, fun _ => ⟨rfl, rfl⟩, fun q => by dsimp only at q; omega⟩
  rintro ⟨su, fo, j⟩ ⟨j0, j1, ha, hb⟩
  dsimp only at *
  unfold Za8
  rw [Zq]
  refine ⟨fun hj => ?_, fun hj => ?_⟩
  rotate_left
  ·simp only [Zc, Sum.elim_inr]
   obtain ⟨rfl, rfl⟩ := hb (by omega)
   rfl
  rw [T_G]
  refine ⟨j0, ?_⟩
  refine Zo (fun o => o = true ↔ j = p) ?_ ?_
  ·have hjp : ((gt L j).1 = gt P (i - 1) /\ (gt L j).2.1 = gt P i) ↔ j = p := by
    constructor
    ·intro q; exact h.inj j0 hj p0 p1 (by rw [← ep]; exact q)
    ·intro q; rw [q, ← ep]; exact ⟨rfl, rfl⟩
   simp only [T_G, Zq, Zc, decide_eq_true_iff]
   exact ⟨by omega, by omega, fun q => ⟨fun r => hjp.1 ⟨q, r⟩, fun r => (hjp.2 r).2⟩, fun q => ⟨fun r => (by cases r), fun r => absurd (hjp.2 r).1 q⟩⟩
  intro o ho
  rw [Zq]
  refine ⟨fun q => ?_, fun q => ?_⟩
  ·obtain rfl := ho.1 q
   obtain ⟨rfl, rfl⟩ := ha (Int.le_refl _)
   rw [← ep]
   simp only [T_G, Zc, Sum.elim_inl]
   exact ⟨by omega, by omega, by omega, ⟨by omega, by omega, fun q => by omega, fun _ => ⟨trivial, trivial⟩⟩, by omega⟩
  ·have : j ≠ p := fun r => q (ho.2 r)
   simp only [T_G, Zc, Sum.elim_inl]
   exact ⟨by omega, ⟨by omega, by omega, fun r => ha (by omega), fun r => hb (by omega)⟩, by omega⟩
 rintro _ rfl
 dsimp only
 rw [if_neg (by decide)]
 simp only [T_G, Zc, Sum.elim_inl]
 refine ⟨by omega, ⟨by omega, by omega, fun q => by omega, fun _ => ?_⟩, by omega⟩
 rw [show i + 1 - 1 = i by omega]; exact hs2
end Go.Vd

/-! (Fw0) -/

set_option linter.unusedVariables false
set_option linter.unusedSimpArgs false
namespace Go.Vd
variable {N n k i j : Int} {A L : List A3} {E E' : Int -> Int -> Int} {M : List (List Int)}
def IsM (n : Int) (M : List (List Int)) (E : Int -> Int -> Int) : Prop := (M.length : Int) = n /\ ∀ i, 0 ≤ i -> i < n -> ((gt M i).length : Int) = n /\ ∀ j, 0 ≤ j -> j < n -> gt (gt M i) j = E i j
theorem IsM.congr (h : IsM n M E) (k : ∀ i j, 0 ≤ i -> i < n -> 0 ≤ j -> j < n -> E i j = E' i j) : IsM n M E' :=
 ⟨h.1, fun i i0 i1 => ⟨(h.2 i i0 i1).1, fun j j0 j1 => ((h.2 i i0 i1).2 j j0 j1).trans (k i j i0 i1 j0 j1)⟩⟩
theorem IsM.upd (h : IsM n M E) (i0 : 0 ≤ i) (i1 : i < n) (j0 : 0 ≤ j) (j1 : j < n) {v : Int} : IsM n (M.set i.toNat ((gt M i).set j.toNat v)) (fun a b => if a = i /\ b = j then v else E a b) := by
 have hl := h.1
 refine ⟨by simpa using h.1, fun a a0 a1 => ?_⟩
 rw [ZcQ i0 (by omega) a0]
 by_cases e : a = i
 ·subst e
  rw [if_pos rfl]
  obtain ⟨h1, h2⟩ := h.2 a a0 a1
  refine ⟨by simpa using h1, fun b b0 b1 => ?_⟩
  rw [ZcQ j0 (by omega) b0]
  by_cases f : b = j
  ·rw [if_pos f]; dsimp only; rw [if_pos ⟨rfl, f⟩]
  ·rw [if_neg f]; dsimp only; rw [if_neg (fun q => f q.2)]; exact h2 b b0 b1
 ·rw [if_neg e]
  obtain ⟨h1, h2⟩ := h.2 a a0 a1
  exact ⟨h1, fun b b0 b1 => by dsimp only; rw [if_neg (fun q => e q.1)]; exact h2 b b0 b1⟩
structure FwI (N : Int) (A : List A3) (B k : Int) (E : Int -> Int -> Int) : Prop where
 rng : ∀ i j, 0 ≤ i -> i < N -> 0 ≤ j -> j < N -> E i j = 18446744073709551615 ∨ (0 ≤ E i j /\ E i j ≤ B)
 snd : ∀ i j, 0 ≤ i -> i < N -> 0 ≤ j -> j < N -> E i j ≠ 18446744073709551615 -> Wk A i j (E i j)
 dia : ∀ i, 0 ≤ i -> i < N -> E i i = 0
 arc : ∀ a ∈ A, E a.1 a.2.1 ≤ a.2.2
 tri : ∀ m, 0 ≤ m -> m < k -> ∀ i j, 0 ≤ i -> i < N -> 0 ≤ j -> j < N -> E i m ≠ 18446744073709551615 -> E m j ≠ 18446744073709551615 -> E i j ≤ E i m + E m j
def thv (E : Int -> Int -> Int) (k i j : Int) : Int := if E i k ≠ 18446744073709551615 /\ E k j ≠ 18446744073709551615 then min (E i j) (E i k + E k j) else E i j
theorem ZiW (h : E k k = 0) : thv E k k j = E k j := by unfold thv; split <;> omega
theorem Zi3 (h : E k k = 0) : thv E k i k = E i k := by unfold thv; split <;> omega
theorem ZlP {B : Int} (h : E i j = 18446744073709551615 ∨ (0 ≤ E i j /\ E i j ≤ B)) (hb : B ≤ 9000000000000000000) : thv E k i j ≤ E i j := by unfold thv; split <;> omega
theorem FwI.next {B : Int} (h : FwI N A B k E) (hb : B ≤ 9000000000000000000) (k0 : 0 ≤ k) (k1 : k < N) (ha : ∀ a ∈ A, (0 ≤ a.1 /\ a.1 < N) /\ 0 ≤ a.2.1 /\ a.2.1 < N) : FwI N A (B + B) (k + 1) (thv E k) := by
 have kk := h.dia k k0 k1
 refine ⟨fun i j i0 i1 j0 j1 => ?_, fun i j i0 i1 j0 j1 hne => ?_, fun i i0 i1 => ?_, fun a haA => ?_, fun m m0 m1 i j i0 i1 j0 j1 n1 n2 => ?_⟩
 ·have r1 := h.rng i j i0 i1 j0 j1; have r2 := h.rng i k i0 i1 k0 k1; have r3 := h.rng k j k0 k1 j0 j1
  unfold thv; split <;> omega
 ·have r1 := h.rng i j i0 i1 j0 j1; have r2 := h.rng i k i0 i1 k0 k1; have r3 := h.rng k j k0 k1 j0 j1
  by_cases c : E i k ≠ 18446744073709551615 /\ E k j ≠ 18446744073709551615
  ·have e : thv E k i j = min (E i j) (E i k + E k j) := by unfold thv; rw [if_pos c]
   rw [e] at hne ⊢
   by_cases q : E i j ≤ E i k + E k j
   ·rw [Int.min_eq_left q] at hne ⊢; exact h.snd i j i0 i1 j0 j1 hne
   ·rw [Int.min_eq_right (by omega)]; exact (h.snd i k i0 i1 k0 k1 c.1).cat (h.snd k j k0 k1 j0 j1 c.2)
  ·have e : thv E k i j = E i j := by unfold thv; rw [if_neg c]
   rw [e] at hne ⊢
   exact h.snd i j i0 i1 j0 j1 hne
 ·have r2 := h.rng i k i0 i1 k0 k1; have r3 := h.rng k i k0 k1 i0 i1
  have := h.dia i i0 i1
  unfold thv; split <;> omega
 ·obtain ⟨⟨a1, a2⟩, a3, a4⟩ := ha a haA
  have := h.arc a haA
  have := ZlP (k := k) (h.rng a.1 a.2.1 a1 a2 a3 a4) hb
  omega
 ·have m2 : m < N := by omega
  by_cases e : m = k
  ·subst e
   rw [Zi3 kk] at n1 ⊢
   rw [ZiW kk] at n2 ⊢
   unfold thv; rw [if_pos ⟨n1, n2⟩]; omega
  ·have mk : m < k := by omega
   have tr : ∀ a b, 0 ≤ a -> a < N -> 0 ≤ b -> b < N -> E a m = 18446744073709551615 ∨ E m b = 18446744073709551615 ∨ E a b ≤ E a m + E m b := fun a b a0 a1 b0 b1 => by
    by_cases c1 : E a m = 18446744073709551615
    ·exact .inl c1
    ·by_cases c2 : E m b = 18446744073709551615
     ·exact .inr (.inl c2)
     ·exact .inr (.inr (h.tri m m0 mk a b a0 a1 b0 b1 c1 c2))
   have t1 := tr i j i0 i1 j0 j1; have t2 := tr i k i0 i1 k0 k1; have t3 := tr k j k0 k1 j0 j1; have t4 := tr k k k0 k1 k0 k1
   have r1 := h.rng i j i0 i1 j0 j1; have r2 := h.rng i k i0 i1 k0 k1; have r3 := h.rng k j k0 k1 j0 j1
   have r4 := h.rng i m i0 i1 m0 m2; have r5 := h.rng m j m0 m2 j0 j1; have r6 := h.rng k m k0 k1 m0 m2; have r7 := h.rng m k m0 m2 k0 k1
   unfold thv at n1 n2 ⊢
   clear h
   generalize E i j = x1 at *; generalize E i k = x2 at *; generalize E k j = x3 at *; generalize E i m = x4 at *; generalize E m j = x5 at *; generalize E k m = x6 at *; generalize E m k = x7 at *
   by_cases c1 : x2 = 18446744073709551615 <;> by_cases c2 : x3 = 18446744073709551615 <;> by_cases c3 : x6 = 18446744073709551615 <;> by_cases c4 : x7 = 18446744073709551615 <;> simp only [c1, c2, c3, c4, ne_eq, not_true_eq_false, not_false_eq_true, and_true, and_false, true_and, false_and, false_or, true_or, or_true, or_false, if_true, if_false] at n1 n2 t1 t2 t3 t4 r1 r2 r3 r4 r5 r6 r7 ⊢ <;> omega
theorem FwI.low {B : Int} (h : FwI N A B N E) (hb : B ≤ 9000000000000000000) (ha : ∀ a ∈ A, (0 ≤ a.1 /\ a.1 < N) /\ 0 ≤ a.2.1 /\ a.2.1 < N /\ 0 ≤ a.2.2 /\ a.2.2 ≤ 2147483647) (i0 : 0 ≤ i) (i1 : i < N) {d : Int} (w : Wk A i j d) :
  (0 ≤ j /\ j < N) /\ (E i j ≤ d) /\ E i j ≠ 18446744073709551615 := by
 induction w with
 | refl => have := h.dia _ i0 i1; exact ⟨⟨i0, i1⟩, by omega, by omega⟩
 | step u e x w _ hm ih =>
  obtain ⟨⟨u0, u1⟩, h1, h2⟩ := ih
  obtain ⟨⟨_, _⟩, a3, a4, a5, a6⟩ := ha _ hm
  have h3 := h.arc _ hm
  dsimp only at *
  have r1 := h.rng _ x i0 i1 a3 a4
  have r2 := h.rng _ u i0 i1 u0 u1
  have r3 := h.rng u x u0 u1 a3 a4
  have := h.tri u u0 u1 _ x i0 i1 a3 a4 h2 (by omega)
  exact ⟨⟨a3, a4⟩, by omega, by omega⟩
def ZkQ (N : Int) (A : List A3) (M : List (List Int)) : Prop := ∃ E B, B ≤ 9000000000000000000 /\ IsM N M E /\ FwI N A B N E
theorem ZfY {E0 : Type} {m : Int} {x : E0} (h : 0 ≤ m) : ((List.replicate m.toNat x).length : Int) = m := by simp; omega
theorem ZkT {m : Nat} {x : Int} : gt (List.replicate m (0 : Int)) x = 0 := by
 unfold gt
 rw [List.getD_eq_getElem?_getD, List.getElem?_replicate]
 split <;> rfl
def E0f : Int -> Int -> Int := fun a b => if a = b then 0 else 18446744073709551615
end Go.Vd

/-! (Fw) -/

set_option linter.unusedVariables false
set_option linter.unusedSimpArgs false
namespace Go.Vd
variable {N n k i j : Int} {A L : List A3} {E E' : Int -> Int -> Int} {M : List (List Int)}
theorem Zkh (n0 : 0 ≤ N) (n1 : N ≤ 65536) : T (Zz (fun zz_ => Zaa N zz_.1 zz_.2) (0, (List.replicate N.toNat ([] : List Int)))) fun M => IsM N M E0f := by
 refine ZH (fun z => 0 ≤ z.1 /\ z.1 ≤ N /\ (z.2.length : Int) = N /\ ∀ a, 0 ≤ a -> a < z.1 -> ((gt z.2 a).length : Int) = N /\ ∀ b, 0 ≤ b -> b < N -> gt (gt z.2 a) b = E0f a b) (fun z => (N - z.1).toNat) ?_ ⟨by simp, n0, ZfY n0, fun a a0 a1 => by dsimp only at a1; omega⟩
 rintro ⟨x, d⟩ ⟨x0, x1, hl, hd⟩
 dsimp only at *
 unfold Zaa
 rw [ZfY n0, Zq]
 refine ⟨fun hx => ?_, fun hx => ?_⟩
 rotate_left
 ·simp only [Zc, Sum.elim_inr]
  exact ⟨hl, fun a a0 a1 => hd a a0 (by omega)⟩
 rw [T_G, T_G, T_G]
 refine ⟨by omega, by omega, by simp; omega, ?_⟩
 have hg : gt (d.set x.toNat (List.replicate N.toNat (0 : Int))) x = List.replicate N.toNat 0 := by rw [ZcQ x0 (by omega) x0, if_pos rfl]
 refine Zo (fun r => (r.length : Int) = N /\ (∀ a, 0 ≤ a -> a ≠ x -> gt r a = gt d a) /\ ((gt r x).length : Int) = N /\ ∀ b, 0 ≤ b -> b < N -> gt (gt r x) b = E0f x b) ?_ ?_
 ·refine ZH (fun z => 0 ≤ z.2 /\ z.2 ≤ N /\ (z.1.length : Int) = N /\ (∀ a, 0 ≤ a -> a ≠ x -> gt z.1 a = gt d a) /\ ((gt z.1 x).length : Int) = N /\ ∀ b, 0 ≤ b -> b < N -> gt (gt z.1 x) b = if b < z.2 then E0f x b else 0) (fun z => (N - z.2).toNat) ?_
   ⟨by simp, n0, by simpa using hl, fun a a0 ha => by (try dsimp only); rw [ZcQ x0 (by omega) a0, if_neg ha], by (try dsimp only); rw [hg]; exact ZfY n0, fun b b0 b1 => by (try dsimp only); rw [hg, ZkT, if_neg (by omega)]⟩
  rintro ⟨r, y⟩ ⟨y0, y1, r1, r2, r3, r4⟩
  dsimp only at *
  unfold Zam
  rw [hg, ZfY n0, Zq]
  refine ⟨fun hy => ?_, fun hy => ?_⟩
  rotate_left
  ·simp only [Zc, Sum.elim_inr]
   exact ⟨r1, r2, r3, fun b b0 b1 => by rw [r4 b b0 b1, if_pos (by omega)]⟩
  rw [Zq]
  refine ⟨fun e => ?_, fun e => ?_⟩
  ·simp only [T_G, Zc, Sum.elim_inl]
   refine ⟨by omega, ⟨by omega, by omega, r1, r2, r3, fun b b0 b1 => ?_⟩, by omega⟩
   rw [r4 b b0 b1]
   by_cases f : b < y
   ·rw [if_pos f, if_pos (by omega)]
   ·rw [if_neg f]
    by_cases g : b = y
    ·subst g; rw [if_pos (by omega)]; unfold E0f; rw [if_pos e]
    ·rw [if_neg (by omega)]
  ·simp only [T_G, Zc, Sum.elim_inl]
   refine ⟨by omega, by omega, by omega, ⟨by omega, by omega, by simpa using r1, fun a a0 ha => ?_, ?_, fun b b0 b1 => ?_⟩, by omega⟩
   ·rw [ZcQ x0 (by omega) a0, if_neg ha]; exact r2 a a0 ha
   ·rw [ZcQ x0 (by omega) x0, if_pos rfl]; simpa using r3
   ·rw [ZcQ x0 (by omega) x0, if_pos rfl, ZcQ y0 (by omega) b0]
    by_cases g : b = y
    ·subst g; rw [if_pos rfl, if_pos (by omega)]; unfold E0f; rw [if_neg e]
    ·rw [if_neg g, r4 b b0 b1]
     by_cases f : b < y
     ·rw [if_pos f, if_pos (by omega)]
     ·rw [if_neg f, if_neg (by omega)]
 ·rintro r ⟨r1, r2, r3, r4⟩
  simp only [T_G, Zc, Sum.elim_inl]
  refine ⟨by omega, ⟨by omega, by omega, r1, fun a a0 a1 => ?_⟩, by omega⟩
  by_cases e : a = x
  ·rw [e]; exact ⟨r3, r4⟩
  ·rw [r2 a a0 e]; exact hd a a0 (by omega)
theorem Zkq (hg : GChk N A .nil) (h : IsM N M E0f) : T (Zz (fun zz_ => Z9 A zz_.1 zz_.2) (M, 0)) fun M' => ∃ E, IsM N M' E /\ FwI N A 2147483647 0 E := by
 obtain ⟨n0, n1, n2⟩ := hg.small
 have ha := hg.arcs
 refine ZH (fun z => 0 ≤ z.2 /\ z.2 ≤ (A.length : Int) /\ ∃ E, IsM N z.1 E /\ (∀ i j, 0 ≤ i -> i < N -> 0 ≤ j -> j < N -> E i j = 18446744073709551615 ∨ (0 ≤ E i j /\ E i j ≤ 2147483647)) /\
  (∀ i j, 0 ≤ i -> i < N -> 0 ≤ j -> j < N -> E i j ≠ 18446744073709551615 -> Wk A i j (E i j)) /\ (∀ i, 0 ≤ i -> i < N -> E i i = 0) /\ ∀ q, 0 ≤ q -> q < z.2 -> E (gt A q).1 (gt A q).2.1 ≤ (gt A q).2.2) (fun z => ((A.length : Int) - z.2).toNat) ?_ ?_
 ·rintro ⟨d, x⟩ ⟨x0, x1, E, h1, h2, h3, h4, h5⟩
  dsimp only at *
  unfold Z9
  rw [Zq]
  refine ⟨fun hx => ?_, fun hx => ?_⟩
  rotate_left
  ·simp only [Zc, Sum.elim_inr]
   exact ⟨E, h1, h2, h3, h4, fun a hA => by obtain ⟨q, q0, q1, rfl⟩ := ZcE hA; exact h5 q q0 (by omega), fun m m0 m1 => by omega⟩
  obtain ⟨a1, a2, a3, a4, a5, a6⟩ := ha _ (Zah x0 hx)
  obtain ⟨l1, l2⟩ := h1.2 _ a1 a2
  have hl := h1.1
  have hv := l2 _ a3 a4
  simp only [T_G, Zc, Sum.elim_inl]
  refine ⟨x0, by omega, by omega, by omega, by omega, ⟨by omega, by omega, _, h1.upd a1 a2 a3 a4, fun i j i0 i1 j0 j1 => ?_, fun i j i0 i1 j0 j1 => ?_, fun i i0 i1 => ?_, fun q q0 q1 => ?_⟩, by omega⟩
  ·try dsimp only
   have := h2 i j i0 i1 j0 j1
   have := h2 _ _ a1 a2 a3 a4
   split <;> omega
  ·try dsimp only
   split
   ·rename_i e
    obtain ⟨rfl, rfl⟩ := e
    rw [hv]
    intro hne
    by_cases q : E (gt A x).1 (gt A x).2.1 ≤ (gt A x).2.2
    ·rw [Int.min_eq_left q] at hne ⊢; exact h3 _ _ a1 a2 a3 a4 hne
    ·rw [Int.min_eq_right (by omega)]; exact .one (Zah x0 hx)
   ·exact h3 i j i0 i1 j0 j1
  ·try dsimp only
   have := h4 i i0 i1
   split
   ·rename_i e
    rw [hv, ← e.1, ← e.2]
    omega
   ·exact this
  ·try dsimp only
   by_cases e : (gt A q).1 = (gt A x).1 /\ (gt A q).2.1 = (gt A x).2.1
   ·rw [if_pos e, hv]
    by_cases f : q = x
    ·subst f; omega
    ·have := h5 q q0 (by omega)
     rw [e.1, e.2] at this; omega
   ·rw [if_neg e]
    by_cases f : q = x
    ·subst f; exact absurd ⟨rfl, rfl⟩ e
    ·exact h5 q q0 (by omega)
 ·refine ⟨by simp, by simp, E0f, h, fun i j _ _ _ _ => ?_, fun i j i0 i1 j0 j1 => ?_, fun i _ _ => by unfold E0f; rw [if_pos rfl], fun q q0 q1 => by dsimp only at q1; omega⟩
  ·unfold E0f; split <;> simp
  ·unfold E0f
   split
   ·rename_i e; subst e; intro _; exact .refl i
   ·intro q; exact absurd rfl q
theorem ZkS {B : Int} (h : FwI N A B k E) (hb : B ≤ 9000000000000000000) (k0 : 0 ≤ k) (k1 : k < N) (hN : N ≤ 65536) (i0 : 0 ≤ i) (i1 : i < N) {d : List (List Int)}
  (hd : IsM N d fun a b => if a < i then thv E k a b else E a b) :
  T (Zz (fun zz_ => Z8 k d i zz_.1 zz_.2) (d, 0)) fun r => IsM N r fun a b => if a < i + 1 then thv E k a b else E a b := by
 have kk := h.dia k k0 k1
 have hl := hd.1
 refine ZH (fun z => 0 ≤ z.2 /\ z.2 ≤ N /\ IsM N z.1 fun a b => if a < i ∨ (a = i /\ b < z.2) then thv E k a b else E a b) (fun z => (N - z.2).toNat) ?_ ⟨by simp, by (try dsimp only); omega, hd.congr fun a b _ _ b0 _ => by
  try dsimp only
  by_cases q : a < i
  ·rw [if_pos q, if_pos (.inl q)]
  ·rw [if_neg q, if_neg (by omega)]⟩
 rintro ⟨r, y⟩ ⟨y0, y1, hr⟩
 dsimp only at *
 unfold Z8
 rw [hl, Zq]
 refine ⟨fun hy => ?_, fun hy => ?_⟩
 rotate_left
 ·simp only [Zc, Sum.elim_inr]
  refine hr.congr fun a b _ _ b0 b1 => ?_
  try dsimp only
  by_cases q : a < i + 1
  ·rw [if_pos q, if_pos (by omega)]
  ·rw [if_neg q, if_neg (by omega)]
 have hrl := hr.1
 obtain ⟨ri1, ri2⟩ := hr.2 i i0 i1
 obtain ⟨rk1, rk2⟩ := hr.2 k k0 k1
 have eik : gt (gt r i) k = E i k := by
  rw [ri2 k k0 k1]; (try dsimp only); split
  ·exact Zi3 kk
  ·rfl
 have ekj : gt (gt r k) y = E k y := by
  rw [rk2 y y0 hy]; (try dsimp only); split
  ·exact ZiW kk
  ·rfl
 have eij : gt (gt r i) y = E i y := by
  rw [ri2 y y0 hy]; (try dsimp only); rw [if_neg (by omega)]
 have r1 := h.rng i y i0 i1 y0 hy; have r2 := h.rng i k i0 i1 k0 k1; have r3 := h.rng k y k0 k1 y0 hy
 refine Zo (fun o => o = true ↔ (E i k ≠ 18446744073709551615 /\ E k y ≠ 18446744073709551615)) ?_ fun o ho => ?_
 ·rw [eik, ekj]
  simp only [T_G, Zq, Zc]
  exact ⟨by omega, by omega, fun e => by simp [e], fun e => ⟨by omega, by omega, by simp [e]⟩⟩
 have next : ∀ v, v = thv E k i y -> ∀ q, IsM N q (fun a b => if a = i /\ b = y then v else if a < i ∨ (a = i /\ b < y) then thv E k a b else E a b) -> IsM N q fun a b => if a < i ∨ (a = i /\ b < y + 1) then thv E k a b else E a b := fun v hv q hq => hq.congr fun a b _ _ _ _ => by
  try dsimp only
  by_cases e : a = i /\ b = y
  ·obtain ⟨rfl, rfl⟩ := e
   rw [if_pos ⟨rfl, rfl⟩, if_pos (by omega), hv]
  ·rw [if_neg e]
   by_cases f : a < i ∨ (a = i /\ b < y)
   ·rw [if_pos f, if_pos (by omega)]
   ·rw [if_neg f, if_neg (by omega)]
 rw [Zq]
 refine ⟨fun e => ?_, fun e => ?_⟩
 ·have c := ho.1 e
  rw [eik, ekj, eij]
  simp only [T_G, Zc, Sum.elim_inl]
  refine ⟨by omega, by omega, by omega, by omega, by omega, by omega, by omega, ⟨by omega, by omega, next _ ?_ _ (hr.upd i0 i1 y0 hy)⟩, by omega⟩
  unfold thv; rw [if_pos c]
 ·have c : ¬ (E i k ≠ 18446744073709551615 /\ E k y ≠ 18446744073709551615) := fun q => e (ho.2 q)
  simp only [T_G, Zc, Sum.elim_inl]
  refine ⟨by omega, ⟨by omega, by omega, hr.congr fun a b _ _ _ _ => ?_⟩, by omega⟩
  try dsimp only
  by_cases f : a = i /\ b = y
  ·obtain ⟨rfl, rfl⟩ := f
   rw [if_neg (by omega), if_pos (by omega)]
   unfold thv; rw [if_neg c]
  ·by_cases g : a < i ∨ (a = i /\ b < y)
   ·rw [if_pos g, if_pos (by omega)]
   ·rw [if_neg g, if_neg (by omega)]
theorem ZiJ (hg : GChk N A .nil) (hN : N ≤ 12) : T (ZaE N A) (ZkQ N A) := by
 obtain ⟨n0, n1, n2⟩ := hg.small
 unfold ZaE
 rw [T_G]
 refine ⟨by omega, Zo _ (Zkh n0 n1) fun M0 h0 => Zo _ (Zkq hg h0) ?_⟩
 rintro M1 ⟨E1, h1, h2⟩
 have hl := h1.1
 refine Zo (ZkQ N A) ?_ fun r hr => by simpa using hr
 refine ZH (fun z => 0 ≤ z.2 /\ z.2 ≤ N /\ ∃ E, IsM N z.1 E /\ FwI N A (2147483647 * 2 ^ z.2.toNat) z.2 E) (fun z => (N - z.2).toNat) ?_ ⟨by simp, n0, E1, h1, by simpa using h2⟩
 rintro ⟨d, x⟩ ⟨x0, x1, E, h3, h4⟩
 dsimp only at *
 have hpow : (2 : Int) ^ x.toNat ≤ 2 ^ 12 := by
  have : (2 : Nat) ^ x.toNat ≤ 2 ^ 12 := Nat.pow_le_pow_right (by decide) (by omega)
  exact_mod_cast this
 have hpow0 : (0 : Int) < 2 ^ x.toNat := Int.pow_pos (by decide)
 unfold Zao
 rw [hl, Zq]
 refine ⟨fun hx => ?_, fun hx => ?_⟩
 rotate_left
 ·simp only [Zc, Sum.elim_inr]
  have : x = N := by omega
  subst this
  exact ⟨E, _, by omega, h3, h4⟩
 have hdl := h3.1
 refine Zo (fun r => IsM N r (thv E x)) ?_ ?_
 ·refine ZH (fun z => 0 ≤ z.2 /\ z.2 ≤ N /\ IsM N z.1 fun a b => if a < z.2 then thv E x a b else E a b) (fun z => (N - z.2).toNat) ?_ ⟨by simp, n0, h3.congr fun a b a0 _ _ _ => by (try dsimp only); rw [if_neg (by omega)]⟩
  rintro ⟨r, y⟩ ⟨y0, y1, hr⟩
  dsimp only at *
  unfold Zan
  rw [hdl, Zq]
  refine ⟨fun hy => ?_, fun hy => ?_⟩
  ·refine Zo _ (ZkS h4 (by omega) x0 hx n1 y0 hy hr) fun q hq => ?_
   simp only [T_G, Zc, Sum.elim_inl]
   exact ⟨by omega, ⟨by omega, by omega, hq⟩, by omega⟩
  ·simp only [Zc, Sum.elim_inr]
   exact hr.congr fun a b _ a1 _ _ => by (try dsimp only); rw [if_pos (by omega)]
 ·intro r hr
  simp only [T_G, Zc, Sum.elim_inl]
  refine ⟨by omega, ⟨by omega, by omega, _, hr, ?_⟩, by omega⟩
  have := h4.next (by omega) x0 hx fun a hA => by obtain ⟨a1, a2, a3, a4, _⟩ := hg.arcs a hA; exact ⟨⟨a1, a2⟩, a3, a4⟩
  rw [show (x + 1).toNat = x.toNat + 1 from by omega, Int.pow_succ]
  have e : (2147483647 * (2 ^ x.toNat * 2) : Int) = 2147483647 * 2 ^ x.toNat + 2147483647 * 2 ^ x.toNat := by omega
  rw [e]; exact this
end Go.Vd

/-! (PrWholeTrusted) -/

set_option linter.unusedVariables false
set_option linter.unusedSimpArgs false
set_option maxHeartbeats 2000000
namespace Go.Vd
variable {N UF DF : List Int} {U D : List B4} {all : List E7} {L A : List A3} {s t w d : Int} {er : Er}
theorem ZjS : ∀ {A L : List A3}, L.Nodup -> (∀ x ∈ L, x ∈ A) -> L.length ≤ A.length := by
 intro A
 induction A with
 | nil =>
  intro L _ h
  cases L with
  | nil => simp
  | cons x L => have := h x (by simp); cases this
 | cons a A ih =>
  intro L nd h
  have h1 := ih (nd.erase a) fun x hx => by
   obtain ⟨q1, q2⟩ := (nd.mem_erase_iff).1 hx
   exact (List.mem_cons.1 (h x q2)).resolve_left q1
  have : L.length ≤ (L.erase a).length + 1 := by
   rw [List.length_erase]; split <;> omega
  simp only [List.length_cons]; omega
theorem Nrm.nodup (h : Nrm A L) : L.Nodup := by
 rw [List.nodup_iff_pairwise_ne]
 exact h.inc.imp fun {a b} q e => by subst e; unfold ltk at q; omega
theorem Nrm.len (h : Nrm A L) : L.length ≤ A.length := ZjS h.nodup fun x hx => (h.sub x hx).1
theorem InF.gchk (h : InF N UF U DF D all) (hU : WL U) (hD : WL D) (n : Nrm (ga N all all.length) L) (few : all.length ≤ 200000) : GChk N.length L .nil := by
 have := n.len
 have := Zgy (N := N) (all := all) all.length
 have sm := h.sm.1
 refine .of_arcs (by omega) (by omega) (by omega) fun a ha => ?_
 obtain ⟨i, i0, i1, hp, rfl⟩ := ZeX ((h.memL n).1 ha)
 obtain ⟨⟨t1, t2⟩, t3, t4⟩ := h.tlr i0 i1
 have o1 := h.od.1 _ t1 t2
 have o2 := h.od.1 _ t3 t4
 have w1 := (h.wr hU hD i0 i1).1
 have w2 := (h.wg i i0 i1).1 hp
 exact ⟨o1.1, o1.2, o2.1, o2.2, w1, w2⟩
theorem Zlh (e : ZZ N UF U DF D = some er) (h : er ≠ .nil) : ZbZ N UF U DF D = some er /\ Za2 N UF U DF D s t = some (0, 0, er) /\ ZbY N UF U DF D s t = some ([], er) /\ Zcb N UF U DF D 0 = some ([], er) := by
 have e1 : ZbM N UF U DF D = some ([], er) := by unfold ZbM; rw [e, Option.bind_some, if_neg h]
 have e2 : Za2 N UF U DF D s t = some (0, 0, er) := by unfold Za2; rw [e1, Option.bind_some]; dsimp only; rw [if_neg h]
 refine ⟨?_, e2, ?_, ?_⟩
 ·unfold ZbZ; rw [e, Option.bind_some, if_neg h]
 ·unfold ZbY Zdm; rw [e2, Option.bind_some, Option.bind_some]; dsimp only; rw [if_neg h]
 ·unfold Zcb; rw [e, Option.bind_some, if_neg h]
theorem Zhb (hN : W32 N) (hUF : W32 UF) (hU : WL U) (hDF : W32 DF) (hD : WL D) (lN : N.length ≤ 35184372088000) (lUF : UF.length ≤ 35184372088000) (lU : U.length ≤ 5864062014700) (lDF : DF.length ≤ 35184372088000) (lD : D.length ≤ 5864062014700) : Zaz N UF U DF D s t = some true := by
 refine Ze2.1 ?_
 unfold Zaz
 rw [p_two, Option.bind_some, if_neg (by decide)]
 refine Zo (fun o => o = false -> N.length ≤ 12 /\ U.length + D.length ≤ 300) ?_ fun o ho => ?_
 ·rw [Zq]
  refine ⟨fun q => by simp only [Zc]; exact fun h => (by cases h), fun q => ?_⟩
  rw [Zk5 (by omega), Option.bind_some]
  simp only [Zc, decide_eq_false_iff_not]
  exact fun q2 => by omega
 rw [Zq]
 refine ⟨fun _ => by simp only [Zc], fun q => ?_⟩
 obtain ⟨few, few2⟩ := ho (by cases o with | true => exact absurd rfl q | false => rfl)
 obtain ⟨⟨all, er⟩, e⟩ : ∃ x, Zbl N UF U DF D = some x := by
  obtain ⟨x, e, _⟩ := Zg8 hN hUF hU hDF hD (by omega) (by omega) (by omega); exact ⟨x, e⟩
 obtain ⟨hA, hF⟩ := ZjK hN hUF hU hDF hD (by omega) (by omega) (by omega) e
 obtain ⟨_, e2, er2, hA2, rfl⟩ := ZiR hN hUF hU hDF hD (by omega) (by omega) (by omega)
 obtain rfl := hA2.uniq hA
 have ec := Zkb e
 rw [e2, Option.bind_some, ec, Option.bind_some]
 by_cases her : er2 = .nil
 rotate_left
 ·obtain ⟨b1, b2, b3, b4⟩ := Zlh (s := s) (t := t) ec her
  have hb := hA.badC.2 her
  unfold Zbf
  rw [b1, Option.bind_some, b2, Option.bind_some, Option.bind_some, b3, Option.bind_some, b4, Option.bind_some, Zd9, Option.bind_some, if_pos (by simpa only [decide_eq_true_iff] using hb)]
  simp [her]
 subst her
 have F := hF rfl
 obtain ⟨sc, es, hsc⟩ := Zkl F hU hD ec
 obtain ⟨m, em, hm⟩ := ZjU (s := s) (t := t) F hU hD ec (by omega)
 rw [es, Option.bind_some]
 unfold Zbf
 rw [em, Option.bind_some, Option.bind_some]
 have hx := F.X.len
 obtain ⟨⟨gn, L⟩, eg, hg1, hg2⟩ := ZjT F hN hU hD (by omega)
 dsimp only at hg1 hg2
 subst hg1
 refine Zo _ (ZlA F hN hU hD ec few hg2 em hm) ?_
 rintro ⟨P, pe⟩ hP
 refine Zo (fun _ => True) (ZjM (p_Up (s := 0) F hU hD ec) fun _ _ => trivial) ?_
 intro y _
 rw [Zd9, Option.bind_some, if_neg (by simp [Er.code, Er.pls])]
 dsimp only at hP ⊢
 rcases hm with ⟨q1, q2, q3, q4⟩ | ⟨⟨⟨s0, s1⟩, t0, t1⟩, a, b, L1, L2, ⟨a0, a1, ha⟩, ⟨b0, b1, hb⟩, D1, D2, hq⟩
 ·rw [if_neg q4]
  rcases hP with ⟨_, h⟩ | ⟨h, _⟩
  ·cases h
   simp [q3, q4]
  ·exact absurd h q4
 rcases hq with ⟨rfl, _⟩ | ⟨hnil, x, y, hx1, hy1, hd, hmin⟩
 ·dsimp only at hP ⊢
  rw [if_neg (by simp)]
  rcases hP with ⟨_, h⟩ | ⟨h, _⟩
  ·cases h
   simp
  ·cases h
 rw [if_pos hnil, eg, Option.bind_some]
 dsimp only
 rw [if_pos rfl, if_neg (by omega), if_neg (by omega), if_neg (by omega), decide_eq_false (by omega), Option.bind_some, if_neg (by decide)]
 rcases hP with ⟨h, _⟩ | ⟨_, rfl, w, hw, hp⟩
 ·exact absurd hnil h
 have hgc := F.gchk hU hD hg2 (by omega)
 have hLl : L.length ≤ 200000 := by have := hg2.len; have := Zgy (N := N) (all := all) all.length; omega
 refine Zo _ (ZiJ hgc (by omega)) ?_
 rintro M ⟨E, B, hB, hM, hE⟩
 have hM1 := hM.2 s s0 s1
 have hM2 := hM1.2 t t0 t1
 rw [T_G, T_G]
 refine ⟨by have := hM.1; omega, by have := hM1.1; omega, ?_⟩
 have dx := (D1.rng _ _ hx1).2
 have dy := (D2.rng _ _ hy1).2
 have hPl : P.length ≤ 1000 := by
  have hin : ∀ v ∈ P, 0 ≤ v /\ v < (N.length : Int) := fun v hv => by
   obtain ⟨i, i0, i1, rfl⟩ := ZcE hv
   have hst : ∀ p q x, Zef L p q x -> 0 ≤ x := fun p q x q' => (hgc.arcs _ q').2.2.2.2.1
   by_cases hi : i = 0
   ·rw [hi, hp.hd]; exact ⟨s0, s1⟩
   ·obtain ⟨s', _, h2⟩ := hp.sw.pre hst (k' := i) i0 (by omega)
    rcases h2.inv with ⟨h, _⟩ | ⟨_, _, _, _, h3, _⟩
    ·omega
    ·have := hgc.arcs _ h3; dsimp only at this; omega
  have := ZeD (N := N.length) hp.nd hin
  omega
 rw [ZlR (n := (N.length : Int)) hg2 (by omega) (fun a ha => (hgc.arcs a ha).2.2.2.2.1) hp (by omega) (by omega), Option.bind_some]
 dsimp only
 have hwk := hp.sw.wk
 rw [hp.hd, hp.ls] at hwk
 obtain ⟨_, l1, l2⟩ := hE.low hB (Zk8 hgc) s0 s1 hwk
 rw [if_pos rfl, if_pos rfl, if_pos hw, hM2, if_pos l1, Zq]
 simp only [Zc, decide_eq_true_iff]
 refine ⟨fun q => ?_, fun _ => trivial⟩
 have htru := hsc.1 q
 obtain ⟨v, v0, v1, hv, hwb⟩ := F.wb hg2 a0 a1 (hE.snd s t s0 s1 t0 t1 l2) ha.symm
 obtain rfl : v = b := F.od.2 v b v0 v1 b0 b1 (by rw [hb, ← hv])
 obtain ⟨uok, urs⟩ := F.upOk hU hD
 obtain ⟨dok, drs⟩ := F.dnOk hU hD
 obtain ⟨p, x', y', g1, g2, g3⟩ := Wb.updown uok dok urs drs htru N.length 0 (by omega) (by omega) a1 v1 hwb
 obtain ⟨k1, e1, e2⟩ := D1.low g1
 obtain ⟨k2, e3, e4⟩ := D2.low g2
 have := hmin p k1 k2 e1 e3
 omega
end Go.Vd
