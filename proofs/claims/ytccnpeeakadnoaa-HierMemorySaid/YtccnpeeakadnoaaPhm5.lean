/- Lists and places. Plain Lean: no program here. -/
import Derived.Test.YtccnpeeakadnoaaPhm4
import Derived.Test.YtccnpeeakadnoaaPhmSo0
import Derived.Test.YtccnpeeakadnoaaPhmVdQ
import Derived.Test.YtccnpeeakadnoaaPhmIHm
import Derived.Test.YtccnpeeakadnoaaPhmVpB
set_option linter.unusedVariables false
set_option linter.unusedSimpArgs false
set_option linter.unusedSectionVars false
/-! (Mo0) -/

namespace Go.Vd
theorem take_gtE {E : Type} [Inhabited E] {l : List E} {i : Int} (h0 : 0 ≤ i) (h1 : i < (l.length : Int)) : l.take (i + 1).toNat = l.take i.toNat ++ [gt l i] := by
 have hi : i.toNat < l.length := by omega
 rw [show (i + 1).toNat = i.toNat + 1 from by omega, List.take_add_one, List.getElem?_eq_getElem hi]
 have : gt l i = l[i.toNat] := by simp [gt, List.getD_eq_getElem?_getD, hi]
 rw [this]; rfl
theorem gt_setE {E : Type} [Inhabited E] {l : List E} {i j : Int} {v : E} (i0 : 0 ≤ i) (i1 : i < (l.length : Int)) (j0 : 0 ≤ j) : gt (l.set i.toNat v) j = if j = i then v else gt l j := by
 unfold gt
 rw [List.getD_eq_getElem?_getD, List.getD_eq_getElem?_getD, List.getElem?_set]
 by_cases h : j = i
 ·subst h; rw [if_pos rfl, if_pos rfl, if_pos (by omega)]; rfl
 ·rw [if_neg h, if_neg (by omega)]
theorem list_gtE {E : Type} [Inhabited E] {l m : List E} (hl : l.length = m.length) (h : ∀ j : Int, 0 ≤ j → j < (l.length : Int) → gt l j = gt m j) : l = m := by
 refine List.ext_getElem hl fun j h1 h2 => ?_
 have := h (j : Int) (by omega) (by omega)
 rwa [gt_nat h1, gt_nat h2] at this
end Go.Vd

/-! (Gb) -/

set_option linter.unusedVariables false
set_option linter.unusedSimpArgs false
namespace Go.Vd
abbrev A3 := Int × Int × Int
theorem eq3 {x y : A3} (h1 : x.1 = y.1) (h2 : x.2.1 = y.2.1) (h3 : x.2.2 = y.2.2) : x = y := by
 obtain ⟨a, b, c⟩ := x; obtain ⟨a', b', c'⟩ := y
 simp only at h1 h2 h3
 subst h1; subst h2; subst h3; rfl
theorem mem_gtE {E : Type} [Inhabited E] {l : List E} {x : E} (h : x ∈ l) : ∃ i : Int, 0 ≤ i ∧ i < (l.length : Int) ∧ x = gt l i := by
 obtain ⟨i, hi, rfl⟩ := List.getElem_of_mem h
 exact ⟨i, by omega, by omega, (gt_nat hi).symm⟩
end Go.Vd

/-! (HrA) -/

set_option linter.unusedVariables false
set_option linter.unusedSimpArgs false
set_option maxHeartbeats 1000000
namespace Go.Vd
abbrev B4 := Int × Int × Int × Int
abbrev E7 := Int × Int × Int × Int × Int × Int × Int
abbrev E8 := Int × Int × Int × Int × Int × Int × Int × Int
abbrev W32 (l : List Int) : Prop := ∀ x ∈ l, (0 ≤ x ∧ x ≤ 4294967295)
abbrev WL (l : List B4) : Prop := ∀ x ∈ l, (0 ≤ x.1 ∧ x.1 ≤ 4294967295) ∧ (0 ≤ x.2.1 ∧ x.2.1 ≤ 18446744073709551615) ∧ (0 ≤ x.2.2.1 ∧ x.2.2.1 ≤ 4294967295) ∧ (0 ≤ x.2.2.2 ∧ x.2.2.2 ≤ 4294967295)
structure Fst (l : List Int) (k : Int) : Prop where
 z : gt l 0 = 0
 up : ∀ r, 0 ≤ r → r < (l.length : Int) - 1 → gt l r ≤ gt l (r + 1)
 e : gt l ((l.length : Int) - 1) = k
def Rk (l : List Int) (i r : Int) : Prop := 0 ≤ r ∧ r < (l.length : Int) - 1 ∧ gt l r ≤ i ∧ i < gt l (r + 1)
variable {l N UF DF : List Int} {U D : List B4} {k i r : Int} {all : List E7}
theorem Fst.mono (h : Fst l k) : ∀ (m : Nat) (a : Int), 0 ≤ a → a + m ≤ (l.length : Int) - 1 → gt l a ≤ gt l (a + m) := by
 intro m
 induction m with
 | zero => intro a _ _; simp
 | succ m ih =>
  intro a a0 a1
  have h1 := ih a a0 (by omega)
  have h2 := h.up (a + m) (by omega) (by omega)
  rw [show a + ((m + 1 : Nat) : Int) = a + m + 1 from by omega]; omega
theorem Fst.le (h : Fst l k) {a b : Int} (a0 : 0 ≤ a) (ab : a ≤ b) (b1 : b ≤ (l.length : Int) - 1) : gt l a ≤ gt l b := by
 have := h.mono (b - a).toNat a a0 (by omega)
 rwa [show a + ((b - a).toNat : Int) = b from by omega] at this
theorem Fst.uniq (h : Fst l k) {r' : Int} (h1 : Rk l i r) (h2 : Rk l i r') : r = r' := by
 obtain ⟨a0, a1, a2, a3⟩ := h1
 obtain ⟨b0, b1, b2, b3⟩ := h2
 rcases Int.lt_trichotomy r r' with q | q | q
 ·have := h.le (a := r + 1) (b := r') (by omega) (by omega) (by omega); omega
 ·exact q
 ·have := h.le (a := r' + 1) (b := r) (by omega) (by omega) (by omega); omega
theorem Fst.rk (h : Fst l k) (i0 : 0 ≤ i) (i1 : i < k) (hl : 0 < (l.length : Int)) : ∃ r, Rk l i r := by
 have key : ∀ m : Nat, (m : Int) ≤ (l.length : Int) - 1 → i < gt l m → ∃ r, Rk l i r := by
  intro m
  induction m with
  | zero => intro _ q; rw [show ((0 : Nat) : Int) = 0 from rfl, h.z] at q; omega
  | succ m ih =>
   intro hm q
   by_cases e : i < gt l m
   ·exact ih (by omega) e
   ·exact ⟨m, by omega, by omega, by omega, by rw [show ((m + 1 : Nat) : Int) = (m : Int) + 1 from rfl] at q; exact q⟩
 exact key (l.length - 1) (by omega) (by rw [show ((l.length - 1 : Nat) : Int) = (l.length : Int) - 1 from by omega, h.e]; exact i1)
theorem p_f10 {a b n : Int} : z_fault_At a b (.no n) = some (.at a b (.no n)) := by
 unfold z_fault_At; rw [if_neg (by simp)]
def OrdL (l : List Int) : Prop := (∀ r, 0 ≤ r → r < (l.length : Int) → 0 ≤ gt l r ∧ gt l r < (l.length : Int)) ∧ ∀ r r', 0 ≤ r → r < (l.length : Int) → 0 ≤ r' → r' < (l.length : Int) → gt l r = gt l r' → r = r'
end Go.Vd

/-! (HrB) -/

set_option linter.unusedVariables false
set_option linter.unusedSimpArgs false
set_option maxHeartbeats 2000000
namespace Go.Vd
variable {l N UF DF : List Int} {U D : List B4} {k i r : Int} {all : List E7} {ok_ : List E8 → Bool}
theorem gt_ap1 {E : Type} [Inhabited E] {l : List E} {y : E} {j : Int} (j0 : 0 ≤ j) (j1 : j < (l.length : Int) + 1) : gt (l ++ [y]) j = if j = l.length then y else gt l j := by
 obtain ⟨j, rfl⟩ := Int.eq_ofNat_of_zero_le j0
 by_cases h : (j : Int) = l.length
 ·rw [if_pos h]
  have : j = l.length := by omega
  subst this
  simp [gt, List.getD_eq_getElem?_getD]
 ·rw [if_neg h]
  have : j < l.length := by omega
  simp [gt, List.getD_eq_getElem?_getD, List.getElem?_append_left this]
theorem gt_sl {E : Type} [Inhabited E] {L : List E} {a b j : Int} (a0 : 0 ≤ a) (j0 : 0 ≤ j) (h : a + j < b) (hb : b ≤ (L.length : Int)) : gt ((L.take b.toNat).drop a.toNat) j = gt L (a + j) := by
 obtain ⟨j, rfl⟩ := Int.eq_ofNat_of_zero_le j0
 obtain ⟨a, rfl⟩ := Int.eq_ofNat_of_zero_le a0
 rw [gt_nat (by simp; omega), show (a : Int) + (j : Int) = ((a + j : Nat) : Int) from by omega, gt_nat (by omega)]
 simp [List.getElem_drop, List.getElem_take]
theorem len_sl {E : Type} {L : List E} {a b : Int} (a0 : 0 ≤ a) (ab : a ≤ b) (hb : b ≤ (L.length : Int)) : (((L.take b.toNat).drop a.toNat).length : Int) = b - a := by
 simp; omega
def upE (i r : Int) (x : B4) : E8 := (i, x.1, x.2.1, x.2.2.1, x.2.2.2, r, x.1, r)
def dnE (i r : Int) (x : B4) : E8 := (i, x.1, x.2.1, x.2.2.1, x.2.2.2, x.1, r, r)
def UpT (UF : List Int) (U : List B4) (m : Int) (t : List E8) : Prop := ∀ i, 0 ≤ i → i < m → ∀ r, Rk UF i r → gt t i = upE i r (gt U i)
def DnT (u : Int) (DF : List Int) (D : List B4) (m : Int) (t : List E8) : Prop := ∀ i, 0 ≤ i → i < m → ∀ r, Rk DF i r → gt t (u + i) = dnE (u + i) r (gt D i)
theorem p_ups (hok : ∀ t : List E8, t.length ≤ 3000000 → ok_ t = true) (hf : Fst UF (U.length : Int)) (hn : (UF.length : Int) = N.length + 1) (hN : N.length ≤ 65536) (hl : U.length ≤ 1048576) (hU : WL U) :
  T (loopO (fun zz_ => z_hier_links_1_l1 ok_ N UF U zz_.1 zz_.2.1 zz_.2.2) ([], 0, 0)) fun o => (o.1.length : Int) = U.length ∧ o.2 = (U.length : Int) ∧ UpT UF U (U.length : Int) o.1 := by
 have fin : gt UF (N.length : Int) = U.length := by
  have := hf.e; rwa [show (UF.length : Int) - 1 = N.length from by omega] at this
 refine T_loop (fun z => 0 ≤ z.2.1 ∧ z.2.1 ≤ (N.length : Int) ∧ z.2.2 = gt UF z.2.1 ∧ (z.1.length : Int) = gt UF z.2.1 ∧ UpT UF U (gt UF z.2.1) z.1) (fun z => ((N.length : Int) - z.2.1).toNat) ?_ ⟨by simp, by simp, hf.z.symm, by simp [hf.z], fun i i0 i1 => by dsimp only at i1; rw [hf.z] at i1; omega⟩
 rintro ⟨y, q, c⟩ ⟨q0, q1, hcc, hy, ht⟩
 dsimp only at *
 subst hcc
 unfold z_hier_links_1_l1
 rw [T_ite]
 refine ⟨fun hq => ?_, fun hq => ?_⟩
 rotate_left
 ·have e : q = N.length := by omega
  subst e
  rw [fin] at hy ht ⊢
  simp only [T_some, Sum.elim_inr]
  exact ⟨hy, trivial, ht⟩
 have m1 := hf.up q q0 (by omega)
 have m0 := hf.le (a := 0) (b := q) (by omega) q0 (by omega)
 have m2 := hf.le (a := q + 1) (b := N.length) (by omega) (by omega) (by omega)
 rw [hf.z] at m0
 rw [fin] at m2
 simp only [T_G]
 refine ⟨by omega, by omega, by omega, by omega, ?_⟩
 refine T_bindr (fun o => (o.1.length : Int) = gt UF (q + 1) ∧ o.2 = gt UF (q + 1) ∧ UpT UF U (gt UF (q + 1)) o.1) ?_ ?_
 ·have ls := len_sl (L := U) m0 m1 m2
  refine T_loop (fun z => 0 ≤ z.2.2 ∧ z.2.2 ≤ gt UF (q + 1) - gt UF q ∧ z.2.1 = gt UF q + z.2.2 ∧ (z.1.length : Int) = gt UF q + z.2.2 ∧ UpT UF U (gt UF q + z.2.2) z.1) (fun z => (gt UF (q + 1) - gt UF q - z.2.2).toNat) ?_ ⟨by simp, by simp; omega, by simp, by simpa using hy, by simpa using ht⟩
  rintro ⟨y, c, j⟩ ⟨j0, j1, hcc, hy, ht⟩
  dsimp only at *
  subst hcc
  unfold z_hier_links_1_l0
  rw [ls, T_ite]
  refine ⟨fun hj => ?_, fun hj => ?_⟩
  rotate_left
  ·have e : gt UF q + j = gt UF (q + 1) := by omega
   rw [e] at hy ht ⊢
   simp only [T_some, Sum.elim_inr]
   exact ⟨hy, trivial, ht⟩
  rw [gt_sl m0 j0 (by omega) m2]
  have hx := hU _ (gt_mem (xs := U) (i := gt UF q + j) (by omega) (by omega))
  simp only [T_G, T_some, Sum.elim_inl]
  refine ⟨j0, by omega, hok _ (by simp; omega), by omega, by omega, ⟨by omega, by omega, by omega, by simp; omega, fun i i0 i1 r hr => ?_⟩, by omega⟩
  rw [gt_ap1 i0 (by omega), hy]
  by_cases e : i = gt UF q + j
  ·rw [if_pos e]
   have : Rk UF i q := ⟨q0, by omega, by omega, by omega⟩
   obtain rfl := hf.uniq hr this
   rw [e]; rfl
  ·rw [if_neg e]; exact ht i i0 (by omega) r hr
 ·rintro ⟨y', c'⟩ ⟨h1, h2, h3⟩
  dsimp only at *
  simp only [T_some, Sum.elim_inl]
  exact ⟨⟨by omega, by omega, h2, h1, h3⟩, by omega⟩
theorem p_dns {t0 : List E8} {u : Int} (u0 : 0 ≤ u) (hu : (t0.length : Int) = u) (hul : u ≤ 1048576) (hok : ∀ t : List E8, t.length ≤ 3000000 → ok_ t = true) (hf : Fst DF (D.length : Int)) (hn : (DF.length : Int) = N.length + 1) (hN : N.length ≤ 65536) (hl : D.length ≤ 1048576) (hU : WL D) :
  T (loopO (fun zz_ => z_hier_links_1_l3 ok_ N DF D zz_.1 zz_.2.1 zz_.2.2) (t0, u, 0)) fun o => (o.length : Int) = u + D.length ∧ (∀ i, 0 ≤ i → i < u → gt o i = gt t0 i) ∧ DnT u DF D (D.length : Int) o := by
 have fin : gt DF (N.length : Int) = D.length := by
  have := hf.e; rwa [show (DF.length : Int) - 1 = N.length from by omega] at this
 refine T_loop (fun z => 0 ≤ z.2.2 ∧ z.2.2 ≤ (N.length : Int) ∧ z.2.1 = u + gt DF z.2.2 ∧ (z.1.length : Int) = u + gt DF z.2.2 ∧ (∀ i, 0 ≤ i → i < u → gt z.1 i = gt t0 i) ∧ DnT u DF D (gt DF z.2.2) z.1) (fun z => ((N.length : Int) - z.2.2).toNat) ?_ ⟨by simp, by simp, by simp [hf.z], by simp [hf.z, hu], fun i _ _ => rfl, fun i i0 i1 => by dsimp only at i1; rw [hf.z] at i1; omega⟩
 rintro ⟨y, c, q⟩ ⟨q0, q1, hcc, hy, hk, ht⟩
 dsimp only at *
 subst hcc
 unfold z_hier_links_1_l3
 rw [T_ite]
 refine ⟨fun hq => ?_, fun hq => ?_⟩
 rotate_left
 ·have e : q = N.length := by omega
  subst e
  rw [fin] at hy ht
  simp only [T_some, Sum.elim_inr]
  exact ⟨hy, hk, ht⟩
 have m1 := hf.up q q0 (by omega)
 have m0 := hf.le (a := 0) (b := q) (by omega) q0 (by omega)
 have m2 := hf.le (a := q + 1) (b := N.length) (by omega) (by omega) (by omega)
 rw [hf.z] at m0
 rw [fin] at m2
 simp only [T_G]
 refine ⟨by omega, by omega, by omega, by omega, ?_⟩
 refine T_bindr (fun o => (o.1.length : Int) = u + gt DF (q + 1) ∧ o.2 = u + gt DF (q + 1) ∧ (∀ i, 0 ≤ i → i < u → gt o.1 i = gt t0 i) ∧ DnT u DF D (gt DF (q + 1)) o.1) ?_ ?_
 ·have ls := len_sl (L := D) m0 m1 m2
  refine T_loop (fun z => 0 ≤ z.2.2 ∧ z.2.2 ≤ gt DF (q + 1) - gt DF q ∧ z.2.1 = u + gt DF q + z.2.2 ∧ (z.1.length : Int) = u + gt DF q + z.2.2 ∧ (∀ i, 0 ≤ i → i < u → gt z.1 i = gt t0 i) ∧ DnT u DF D (gt DF q + z.2.2) z.1) (fun z => (gt DF (q + 1) - gt DF q - z.2.2).toNat) ?_ ⟨by simp, by simp; omega, by simp, by simpa using hy, hk, by simpa using ht⟩
  rintro ⟨y, c, j⟩ ⟨j0, j1, hcc, hy, hk, ht⟩
  dsimp only at *
  subst hcc
  unfold z_hier_links_1_l2
  rw [ls, T_ite]
  refine ⟨fun hj => ?_, fun hj => ?_⟩
  rotate_left
  ·have e : gt DF q + j = gt DF (q + 1) := by omega
   rw [e] at ht
   simp only [T_some, Sum.elim_inr]
   exact ⟨by omega, by omega, hk, ht⟩
  rw [gt_sl m0 j0 (by omega) m2]
  have hx := hU _ (gt_mem (xs := D) (i := gt DF q + j) (by omega) (by omega))
  simp only [T_G, T_some, Sum.elim_inl]
  refine ⟨j0, by omega, hok _ (by simp; omega), by omega, by omega, ⟨by omega, by omega, by omega, by simp; omega, fun i i0 i1 => ?_, fun i i0 i1 r hr => ?_⟩, by omega⟩
  ·rw [gt_ap1 i0 (by omega), if_neg (by omega)]; exact hk i i0 i1
  rw [gt_ap1 (by omega) (by omega), hy]
  by_cases e : i = gt DF q + j
  ·rw [if_pos (by omega)]
   have : Rk DF i q := ⟨q0, by omega, by omega, by omega⟩
   obtain rfl := hf.uniq hr this
   rw [e]; unfold dnE; rw [Int.add_assoc]
  ·rw [if_neg (by omega)]; exact ht i i0 (by omega) r hr
 ·rintro ⟨y', c'⟩ ⟨h1, h2, h3, h4⟩
  dsimp only at *
  simp only [T_some, Sum.elim_inl]
  exact ⟨⟨by omega, by omega, h2, h1, h3, h4⟩, by omega⟩
theorem fold_all : ∀ (t : List E8) (acc : List E7), acc.length + t.length ≤ 2000000000 → foldO (fun x_ zz_ => z_hier_ends_l0 x_ zz_) acc t = some (acc ++ t.map (·.2)) := by
 intro t
 induction t with
 | nil => intro acc _; simp [foldO]
 | cons x t ih =>
  intro acc h
  simp only [List.length_cons] at h
  have e : z_hier_ends_l0 x acc = some (acc ++ [x.2]) := by
   unfold z_hier_ends_l0 G
   rw [if_pos (by omega)]
  simp only [foldO]
  rw [e, Option.bind_some, ih _ (by simp; omega)]
  simp
end Go.Vd

/-! (HrC) -/

set_option linter.unusedVariables false
set_option linter.unusedSimpArgs false
set_option maxHeartbeats 2000000
namespace Go.Vd
variable {l N UF DF : List Int} {U D : List B4} {k i r : Int} {all : List E7}
def lnk (U D : List B4) (i : Int) : B4 := if i < (U.length : Int) then gt U i else gt D (i - U.length)
theorem lnk_rng (hU : WL U) (hD : WL D) (i0 : 0 ≤ i) (i1 : i < (U.length : Int) + D.length) : (0 ≤ (lnk U D i).1 ∧ (lnk U D i).1 ≤ 4294967295) ∧ (0 ≤ (lnk U D i).2.1 ∧ (lnk U D i).2.1 ≤ 18446744073709551615) ∧ (0 ≤ (lnk U D i).2.2.1 ∧ (lnk U D i).2.2.1 ≤ 4294967295) ∧ (0 ≤ (lnk U D i).2.2.2 ∧ (lnk U D i).2.2.2 ≤ 4294967295) := by
 unfold lnk
 by_cases h : i < (U.length : Int)
 ·rw [if_pos h]; exact hU _ (gt_mem i0 h)
 ·rw [if_neg h]; exact hD _ (gt_mem (by omega) (by omega))
structure AllS (N : List Int) (U D : List B4) (all : List E7) : Prop where
 len : (all.length : Int) = U.length + D.length
 at' : ∀ i, 0 ≤ i → i < (all.length : Int) → ∃ r, 0 ≤ r ∧ r < (N.length : Int) ∧ gt all i = ((lnk U D i).1, (lnk U D i).2.1, (lnk U D i).2.2.1, (lnk U D i).2.2.2, (if i < (U.length : Int) then r else (lnk U D i).1), (if i < (U.length : Int) then (lnk U D i).1 else r), r)
theorem gt_mp {E F : Type} [Inhabited E] [Inhabited F] {l : List E} {f : E → F} {i : Int} (i0 : 0 ≤ i) (i1 : i < (l.length : Int)) : gt (l.map f) i = f (gt l i) := by
 obtain ⟨i, rfl⟩ := Int.eq_ofNat_of_zero_le i0
 rw [gt_nat (show i < (l.map f).length by simp; omega), gt_nat (by omega)]; simp
theorem p_plain {a b c d : Int} : z_hier_plain a b c d = some (decide (c = 4294967295 ∧ d = 4294967295)) := by
 unfold z_hier_plain
 by_cases h : c = 4294967295 <;> simp [h]
def Shp (N : List Int) (U : List B4) (all : List E7) (i : Int) : Prop :=
 (gt all i).1 < (N.length : Int) ∧ (gt all i).2.2.2.2.2.2 < (gt all i).1 ∧ (¬ ((gt all i).2.2.1 = 4294967295 ∧ (gt all i).2.2.2.1 = 4294967295) →
  (U.length : Int) ≤ (gt all i).2.2.1 ∧ (gt all i).2.2.1 < (all.length : Int) ∧ (gt all i).2.2.2.1 < (U.length : Int) ∧
  (gt all (gt all i).2.2.1).2.2.2.2.1 = (gt all i).2.2.2.2.1 ∧ (gt all (gt all i).2.2.2.1).2.2.2.2.2.1 = (gt all i).2.2.2.2.2.1 ∧ (gt all (gt all i).2.2.1).2.2.2.2.2.2 = (gt all (gt all i).2.2.2.1).2.2.2.2.2.2)
def Wgt (all : List E7) (i : Int) : Prop :=
 ¬ ((gt all i).2.2.1 = 4294967295 ∧ (gt all i).2.2.2.1 = 4294967295) → 0 ≤ (gt all (gt all i).2.2.1).2.1 + (gt all (gt all i).2.2.2.1).2.1 ∧ (gt all (gt all i).2.2.1).2.1 + (gt all (gt all i).2.2.2.1).2.1 ≤ 18446744073709551615 ∧ (gt all (gt all i).2.2.1).2.1 + (gt all (gt all i).2.2.2.1).2.1 = (gt all i).2.1
theorem AllS.rng (h : AllS N U D all) (hU : WL U) (hD : WL D) (i0 : 0 ≤ i) (i1 : i < (all.length : Int)) : (0 ≤ (gt all i).1 ∧ (gt all i).1 ≤ 4294967295) ∧ (0 ≤ (gt all i).2.1 ∧ (gt all i).2.1 ≤ 18446744073709551615) ∧ (0 ≤ (gt all i).2.2.1 ∧ (gt all i).2.2.1 ≤ 4294967295) ∧ (0 ≤ (gt all i).2.2.2.1 ∧ (gt all i).2.2.2.1 ≤ 4294967295) := by
 obtain ⟨r, _, _, e⟩ := h.at' i i0 i1
 rw [e]
 exact lnk_rng hU hD i0 (by have := h.len; omega)
structure Form (N : List Int) (U D : List B4) (all : List E7) : Prop where
 as' : AllS N U D all
 ord : OrdL N
 n : N.length ≤ 65536
 m : U.length + D.length ≤ 1048576
 shp : ∀ i, 0 ≤ i → i < (all.length : Int) → Shp N U all i
 wgt : ∀ i, 0 ≤ i → i < (all.length : Int) → Wgt all i
end Go.Vd

/-! (HxA) -/

set_option linter.unusedVariables false
set_option linter.unusedSimpArgs false
set_option maxHeartbeats 1000000
namespace Go.Vd
variable {l N UF DF : List Int} {U D : List B4} {k i r : Int} {all : List E7}
inductive FstA (l : List Int) (k : Int) : Er → Prop
 | z : gt l 0 ≠ 0 → FstA l k (.no 14)
 | dn (r : Int) : gt l 0 = 0 → 0 ≤ r → r < (l.length : Int) - 1 → (∀ q, 0 ≤ q → q < r → gt l q ≤ gt l (q + 1)) → gt l (r + 1) < gt l r → FstA l k (.at 3 r (.no 14))
 | e : gt l 0 = 0 → (∀ q, 0 ≤ q → q < (l.length : Int) - 1 → gt l q ≤ gt l (q + 1)) → gt l ((l.length : Int) - 1) ≠ k → FstA l k (.no 14)
 | ok : Fst l k → FstA l k .nil
theorem FstA.uniq {a b : Er} (h : FstA l k a) (g : FstA l k b) : a = b := by
 cases h with
 | z h1 =>
  cases g with
  | z _ => rfl
  | dn _ g1 => exact absurd g1 h1
  | e g1 _ _ => exact absurd g1 h1
  | ok g => exact absurd g.z h1
 | dn r h1 h2 h3 h4 h5 =>
  cases g with
  | z g1 => exact absurd h1 g1
  | dn r' g1 g2 g3 g4 g5 =>
   rcases Int.lt_trichotomy r r' with q | q | q
   ·have := g4 r h2 q; omega
   ·subst q; rfl
   ·have := h4 r' g2 q; omega
  | e _ g2 _ => have := g2 r h2 h3; omega
  | ok g => have := g.up r h2 h3; omega
 | e h1 h2 h3 =>
  cases g with
  | z g1 => exact absurd h1 g1
  | dn r' g1 g2 g3 g4 g5 => have := h2 r' g2 g3; omega
  | e _ _ _ => rfl
  | ok g => exact absurd g.e h3
 | ok h =>
  cases g with
  | z g1 => exact absurd h.z g1
  | dn r' g1 g2 g3 g4 g5 => have := h.up r' g2 g3; omega
  | e _ _ g3 => exact absurd h.e g3
  | ok _ => rfl
theorem p_firstsA (hw : W32 l) (h0 : 0 < (l.length : Int)) (hl : l.length ≤ 1000000) : T (z_hier_firsts l k) (FstA l k) := by
 unfold z_hier_firsts
 rw [T_G, T_ite]
 refine ⟨h0, fun hz => ?_, fun hz => by simp only [T_some]; exact .z hz⟩
 rw [T_G]
 refine ⟨by omega, T_binds (fun _ => ∀ r, 0 ≤ r → r < (l.length : Int) - 1 → gt l r ≤ gt l (r + 1)) ?_ fun _ hu => ?_⟩
 ·refine T_loop (fun i => 0 ≤ i ∧ i ≤ (l.length : Int) - 1 ∧ ∀ r, 0 ≤ r → r < i → gt l r ≤ gt l (r + 1)) (fun i => ((l.length : Int) - 1 - i).toNat) ?_ ⟨by simp, by omega, fun r r0 r1 => by omega⟩
  rintro i ⟨i0, i1, hi⟩
  unfold z_hier_firsts_l0
  rw [p_f10]
  simp only [T_ite, T_G, T_map, T_some, Option.bind_some, Sum.elim_inl, Sum.elim_inr]
  refine ⟨fun hlt => ⟨by omega, by omega, by omega, fun hd => .dn i hz i0 hlt hi hd, fun hge => ⟨by omega, ⟨by omega, by omega, fun r r0 r1 => ?_⟩, by omega⟩⟩, fun hge r r0 r1 => hi r r0 (by omega)⟩
  by_cases e : r = i
  ·subst e; omega
  ·exact hi r r0 (by omega)
 ·have := hw _ (gt_mem (i := (l.length : Int) - 1) (by omega) (by omega))
  simp only [T_G, T_ite, T_some]
  exact ⟨by omega, by omega, fun he => .ok ⟨hz, hu, he⟩, fun he => .e hz hu he⟩
theorem p_At1 {a b c : Int} : z_viaductref01_At a b c [] = some (c, [(a, b)]) := p_At (by simp)
theorem p_rfirsts {n : Int} (hw : W32 l) (hn : (l.length : Int) = n + 1) (h0 : 0 ≤ n) (hl : l.length ≤ 1000000) (k0 : 0 ≤ k) (k1 : k ≤ 9223372036854775807) : T (z_viaductref10_firsts l n k) fun x => ∃ er, FstA l k er ∧ x = (er.code, er.pls) := by
 unfold z_viaductref10_firsts
 rw [T_G, T_ite]
 refine ⟨by omega, fun hz => ?_, fun hz => by rw [p_E, Option.bind_some, T_some]; exact ⟨_, .z hz, rfl⟩⟩
 refine T_binds (fun _ => ∀ r, 0 ≤ r → r < (l.length : Int) - 1 → gt l r ≤ gt l (r + 1)) ?_ fun _ hu => ?_
 ·refine T_loop (fun i => 0 ≤ i ∧ i ≤ n ∧ ∀ r, 0 ≤ r → r < i → gt l r ≤ gt l (r + 1)) (fun i => (n - i).toNat) ?_ ⟨by simp, by omega, fun r r0 r1 => by omega⟩
  rintro i ⟨i0, i1, hi⟩
  unfold z_viaductref10_firsts_l0
  rw [p_E, Option.bind_some, p_At1]
  simp only [T_ite, T_G, T_map, T_some, Option.bind_some, Sum.elim_inl, Sum.elim_inr]
  refine ⟨fun hlt => ⟨by omega, by omega, by omega, fun hd => ⟨_, .dn i hz i0 (by omega) hi hd, rfl⟩, fun hge => ⟨by omega, ⟨by omega, by omega, fun r r0 r1 => ?_⟩, by omega⟩⟩, fun hge r r0 r1 => hi r r0 (by omega)⟩
  by_cases e : r = i
  ·subst e; omega
  ·exact hi r r0 (by omega)
 ·have en : n = (l.length : Int) - 1 := by omega
  have := hw _ (gt_mem (i := n) h0 (by omega))
  rw [p_E, Option.bind_some]
  simp only [T_G, T_ite, T_some]
  refine ⟨by omega, by omega, by omega, fun he => ⟨.nil, .ok ⟨hz, hu, by rw [← en]; exact he⟩, rfl⟩, fun he => ⟨_, .e hz hu (by rw [← en]; exact he), rfl⟩⟩
inductive OrdA (l : List Int) : Er → Prop
 | bad (r : Int) : 0 ≤ r → r < (l.length : Int) → (∀ q, 0 ≤ q → q < r → gt l q < (l.length : Int)) → (∀ q p, 0 ≤ q → q < p → p < r → gt l q ≠ gt l p) → (gt l r ≥ (l.length : Int) ∨ ∃ q, 0 ≤ q ∧ q < r ∧ gt l q = gt l r) → OrdA l (.at 3 r (.no 20))
 | ok : OrdL l → OrdA l .nil
theorem OrdA.uniq {a b : Er} (h : OrdA l a) (g : OrdA l b) : a = b := by
 cases h with
 | bad r h1 h2 h3 h4 h5 =>
  cases g with
  | bad r' g1 g2 g3 g4 g5 =>
   rcases Int.lt_trichotomy r r' with q | q | q
   ·rcases h5 with h5 | ⟨p, p0, p1, p2⟩
    ·have := g3 r h1 q; omega
    ·exact absurd p2 (g4 p r p0 p1 q)
   ·subst q; rfl
   ·rcases g5 with g5 | ⟨p, p0, p1, p2⟩
    ·have := h3 r' g1 q; omega
    ·exact absurd p2 (h4 p r' p0 p1 q)
  | ok g =>
   rcases h5 with h5 | ⟨p, p0, p1, p2⟩
   ·have := (g.1 r h1 h2).2; omega
   ·have := g.2 p r p0 (by omega) h1 h2 p2; omega
 | ok h =>
  cases g with
  | bad r h1 h2 h3 h4 h5 =>
   rcases h5 with h5 | ⟨p, p0, p1, p2⟩
   ·have := (h.1 r h1 h2).2; omega
   ·have := h.2 p r p0 (by omega) h1 h2 p2; omega
  | ok _ => rfl
theorem p_orderA (hw : W32 l) (hl : l.length ≤ 1000000) : T (z_hier_order l) (OrdA l) := by
 unfold z_hier_order
 rw [T_G]
 refine ⟨by omega, T_binds (fun _ => OrdL l) ?_ fun _ h => by simp only [T_some]; exact .ok h⟩
 refine T_loop (fun z => 0 ≤ z.1 ∧ z.1 ≤ (l.length : Int) ∧ (z.2.length : Int) = l.length ∧ (∀ r, 0 ≤ r → r < z.1 → gt l r < (l.length : Int)) ∧ (∀ q p, 0 ≤ q → q < p → p < z.1 → gt l q ≠ gt l p) ∧ ∀ v, 0 ≤ v → v < (l.length : Int) → (gt z.2 v > 0 ↔ ∃ q, 0 ≤ q ∧ q < z.1 ∧ gt l q = v)) (fun z => ((l.length : Int) - z.1).toNat) ?_ ⟨by simp, by simp, by simp, fun r r0 r1 => by dsimp only at r1; omega, fun r r' r0 r1 r2 => by dsimp only at r2; omega, fun v v0 v1 => ?_⟩
 rotate_left
 ·have : gt (List.replicate l.length (0 : Int)) v = 0 := by
   simp [gt, List.getD_eq_getElem?_getD, List.getElem?_replicate]; split <;> rfl
  dsimp only
  rw [this]
  exact ⟨fun h => by omega, fun ⟨q, q0, q1, _⟩ => by omega⟩
 rintro ⟨i, sn⟩ ⟨i0, i1, ls, h1, h2, h3⟩
 dsimp only at *
 unfold z_hier_order_l0
 rw [p_f10, T_ite]
 refine ⟨fun hi => ?_, fun hi => ?_⟩
 rotate_left
 ·simp only [T_some, Sum.elim_inr]
  refine ⟨fun r r0 r1 => ⟨(hw _ (gt_mem r0 r1)).1, h1 r r0 (by omega)⟩, fun r r' r0 r1 q0 q1 e => ?_⟩
  rcases Int.lt_trichotomy r r' with q | q | q
  ·exact absurd e (h2 r r' r0 q (by omega))
  ·exact q
  ·exact absurd e.symm (h2 r' r q0 q (by omega))
 have hr := hw _ (gt_mem i0 hi)
 rw [T_G]
 refine ⟨i0, T_bindr (fun o => o = true ↔ (gt l i ≥ (l.length : Int) ∨ ∃ q, 0 ≤ q ∧ q < i ∧ gt l q = gt l i)) ?_ fun o ho => ?_⟩
 ·simp only [T_G, T_ite, T_some]
  refine ⟨by omega, fun h => by simp [h], fun hlt => ⟨by omega, ?_⟩⟩
  have := h3 (gt l i) hr.1 (by omega)
  rw [decide_eq_true_iff, this]
  exact ⟨fun h => .inr h, fun h => h.resolve_left hlt⟩
 rw [T_ite]
 refine ⟨fun hb => ?_, fun hne => ?_⟩
 ·simp only [Option.bind_some, T_map, T_some, Sum.elim_inr, Sum.elim_inl]
  exact .bad i i0 hi h1 h2 (ho.1 hb)
 have hn : ¬ (gt l i ≥ (l.length : Int) ∨ ∃ q, 0 ≤ q ∧ q < i ∧ gt l q = gt l i) := fun q => hne (ho.2 q)
 have a1 : gt l i < (l.length : Int) := by
  have := fun q => hn (.inl q); omega
 simp only [T_G, T_some, Sum.elim_inl]
 refine ⟨by omega, by omega, ⟨by omega, by omega, by simpa using ls, fun r r0 r1 => ?_, fun r r' r0 r1 r2 => ?_, fun v v0 v1 => ?_⟩, by omega⟩
 ·by_cases e : r = i
  ·subst e; exact a1
  ·exact h1 r r0 (by omega)
 ·by_cases e : r' = i
  ·subst e
   exact fun q => hn (.inr ⟨r, r0, r1, q⟩)
  ·exact h2 r r' r0 r1 (by omega)
 ·rw [gt_setE hr.1 (by omega) v0]
  by_cases e : v = gt l i
  ·rw [if_pos e]
   exact ⟨fun _ => ⟨i, i0, by omega, e.symm⟩, fun _ => by omega⟩
  ·rw [if_neg e, h3 v v0 v1]
   refine ⟨fun ⟨q, q0, q1, q2⟩ => ⟨q, q0, by omega, q2⟩, fun ⟨q, q0, q1, q2⟩ => ⟨q, q0, ?_, q2⟩⟩
   by_cases e2 : q = i
   ·subst e2; exact absurd q2.symm e
   ·omega
end Go.Vd

/-! (HxB) -/

set_option linter.unusedVariables false
set_option linter.unusedSimpArgs false
set_option maxHeartbeats 2000000
namespace Go.Vd
variable {l N UF DF : List Int} {U D : List B4} {k i r : Int} {all all' : List E7}
def RkX (UF DF : List Int) (U : List B4) (i r : Int) : Prop := if i < (U.length : Int) then Rk UF i r else Rk DF (i - U.length) r
def e7 (U D : List B4) (i r : Int) : E7 := ((lnk U D i).1, (lnk U D i).2.1, (lnk U D i).2.2.1, (lnk U D i).2.2.2, (if i < (U.length : Int) then r else (lnk U D i).1), (if i < (U.length : Int) then (lnk U D i).1 else r), r)
structure AllX (UF DF : List Int) (U D : List B4) (all : List E7) : Prop where
 len : (all.length : Int) = U.length + D.length
 at' : ∀ i, 0 ≤ i → i < (all.length : Int) → ∃ r, RkX UF DF U i r ∧ gt all i = e7 U D i r
theorem RkX.uniq (hU : Fst UF (U.length : Int)) (hD : Fst DF (D.length : Int)) {r' : Int} (h : RkX UF DF U i r) (g : RkX UF DF U i r') : r = r' := by
 unfold RkX at h g
 by_cases q : i < (U.length : Int)
 ·rw [if_pos q] at h g; exact hU.uniq h g
 ·rw [if_neg q] at h g; exact hD.uniq h g
theorem RkX.ex (hU : Fst UF (U.length : Int)) (hD : Fst DF (D.length : Int)) (l1 : 0 < (UF.length : Int)) (l2 : 0 < (DF.length : Int)) (i0 : 0 ≤ i) (i1 : i < (U.length : Int) + D.length) : ∃ r, RkX UF DF U i r := by
 unfold RkX
 by_cases q : i < (U.length : Int)
 ·obtain ⟨r, h⟩ := hU.rk i0 q l1; exact ⟨r, by rw [if_pos q]; exact h⟩
 ·obtain ⟨r, h⟩ := hD.rk (i := i - U.length) (by omega) (by omega) l2; exact ⟨r, by rw [if_neg q]; exact h⟩
theorem RkX.rng (nU : (UF.length : Int) = N.length + 1) (nD : (DF.length : Int) = N.length + 1) (h : RkX UF DF U i r) : 0 ≤ r ∧ r < (N.length : Int) := by
 unfold RkX at h
 split at h <;> (obtain ⟨a, b, _⟩ := h; omega)
theorem AllX.s (nU : (UF.length : Int) = N.length + 1) (nD : (DF.length : Int) = N.length + 1) (h : AllX UF DF U D all) : AllS N U D all := by
 refine ⟨h.len, fun i i0 i1 => ?_⟩
 obtain ⟨r, h1, h2⟩ := h.at' i i0 i1
 obtain ⟨r0, r1⟩ := h1.rng nU nD
 exact ⟨r, r0, r1, h2⟩
theorem AllX.uniq (hU : Fst UF (U.length : Int)) (hD : Fst DF (D.length : Int)) (h : AllX UF DF U D all) (g : AllX UF DF U D all') : all = all' := by
 have l1 := h.len; have l2 := g.len
 refine list_gtE (by omega) fun j j0 j1 => ?_
 obtain ⟨r, a1, a2⟩ := h.at' j j0 j1
 obtain ⟨r', b1, b2⟩ := g.at' j j0 (by omega)
 rw [a2, b2, RkX.uniq hU hD a1 b1]
theorem allX_of {t0 t : List E8} (hfU : Fst UF (U.length : Int)) (hfD : Fst DF (D.length : Int)) (l1 : 0 < (UF.length : Int)) (l2 : 0 < (DF.length : Int))
  (h0 : (t0.length : Int) = U.length) (hu : UpT UF U (U.length : Int) t0) (h1 : (t.length : Int) = U.length + D.length) (hk : ∀ i, 0 ≤ i → i < (U.length : Int) → gt t i = gt t0 i) (hd : DnT (U.length : Int) DF D (D.length : Int) t) : AllX UF DF U D (t.map (·.2)) := by
 refine ⟨by rw [List.length_map]; exact h1, fun i i0 i1 => ?_⟩
 rw [List.length_map] at i1
 rw [gt_mp i0 i1]
 obtain ⟨r, hr⟩ := RkX.ex (U := U) (D := D) hfU hfD l1 l2 i0 (by omega)
 refine ⟨r, hr, ?_⟩
 unfold RkX at hr
 by_cases h : i < (U.length : Int)
 ·rw [if_pos h] at hr
  rw [hk i i0 h, hu i i0 h r hr]
  unfold e7 lnk
  rw [if_pos h, if_pos h, if_pos h]; rfl
 ·rw [if_neg h] at hr
  have := hd (i - U.length) (by omega) (by omega) r hr
  rw [show (U.length : Int) + (i - U.length) = i from by omega] at this
  rw [this]
  unfold e7 lnk
  rw [if_neg h, if_neg h, if_neg h]; rfl
def PlX (all : List E7) (i : Int) : Prop := (gt all i).2.2.1 = 4294967295 ∧ (gt all i).2.2.2.1 = 4294967295
def ShpX (N : List Int) (U : List B4) (all : List E7) (i : Int) : Prop :=
 (gt all i).1 < (N.length : Int) ∧ (gt all i).2.2.2.2.2.2 < (gt all i).1 ∧ ¬ (0 < i ∧ i ≠ (U.length : Int) ∧ (gt all (i - 1)).2.2.2.2.2.2 = (gt all i).2.2.2.2.2.2 ∧ (gt all (i - 1)).1 ≥ (gt all i).1) ∧ (¬ PlX all i →
  (U.length : Int) ≤ (gt all i).2.2.1 ∧ (gt all i).2.2.1 < (all.length : Int) ∧ (gt all i).2.2.2.1 < (U.length : Int) ∧
  (gt all (gt all i).2.2.1).2.2.2.2.1 = (gt all i).2.2.2.2.1 ∧ (gt all (gt all i).2.2.2.1).2.2.2.2.2.1 = (gt all i).2.2.2.2.2.1 ∧ (gt all (gt all i).2.2.1).2.2.2.2.2.2 = (gt all (gt all i).2.2.2.1).2.2.2.2.2.2)
def WgtX (all : List E7) (i : Int) : Prop :=
 (PlX all i → (gt all i).2.1 ≤ 2147483647) ∧ (¬ PlX all i → (gt all i).2.1 ≤ 140737488355328 ∧ (gt all (gt all i).2.2.1).2.1 ≤ 140737488355328 ∧ (gt all (gt all i).2.2.2.1).2.1 ≤ 140737488355328 ∧ (gt all (gt all i).2.2.1).2.1 + (gt all (gt all i).2.2.2.1).2.1 = (gt all i).2.1)
theorem p_shapeX (h : AllS N U D all) (hU : WL U) (hD : WL D) (hs : U.length + D.length ≤ 1048576) (i0 : 0 ≤ i) (i1 : i < (all.length : Int)) : T (z_hier_shape N UF U DF D all i) fun b => b = true ↔ ShpX N U all i := by
 obtain ⟨g1, g2, g3, g4⟩ := h.rng hU hD i0 i1
 have hl := h.len
 unfold z_hier_shape ShpX
 rw [T_G]
 refine ⟨⟨i0, i1⟩, T_bindr (fun o => o = true ↔ ¬ ((gt all i).1 < (N.length : Int) ∧ (gt all i).2.2.2.2.2.2 < (gt all i).1)) ?_ fun o ho => ?_⟩
 ·simp only [T_G, T_ite, T_some]
  exact ⟨by omega, fun q => by simp; omega, fun q => by simp; omega⟩
 rw [T_ite]
 refine ⟨fun hb => by simp only [T_some]; exact ⟨fun q => (by cases q), fun q => absurd ⟨q.1, q.2.1⟩ (ho.1 hb)⟩, fun hn => ?_⟩
 obtain ⟨a1, a2⟩ : (gt all i).1 < (N.length : Int) ∧ (gt all i).2.2.2.2.2.2 < (gt all i).1 := Classical.not_not.1 fun q => hn (ho.2 q)
 refine T_bindr (fun o => o = true ↔ (0 < i ∧ i ≠ (U.length : Int) ∧ (gt all (i - 1)).2.2.2.2.2.2 = (gt all i).2.2.2.2.2.2 ∧ (gt all (i - 1)).1 ≥ (gt all i).1)) ?_ fun o ho => ?_
 ·simp only [T_G, T_ite, T_some]
  refine ⟨fun q1 => ⟨fun q2 => ?_, fun q2 => ⟨by omega, by omega, fun q3 => ⟨by omega, ?_⟩, fun q3 => ?_⟩⟩, fun q1 => ?_⟩
  ·exact ⟨fun x => (by cases x), fun x => absurd q2 x.2.1⟩
  ·rw [decide_eq_true_iff]; exact ⟨fun x => ⟨q1, q2, q3, x⟩, fun x => x.2.2.2⟩
  ·exact ⟨fun x => (by cases x), fun x => absurd x.2.2.1 q3⟩
  ·exact ⟨fun x => (by cases x), fun x => absurd x.1 q1⟩
 rw [T_ite]
 refine ⟨fun hb => by simp only [T_some]; exact ⟨fun q => (by cases q), fun q => absurd (ho.1 hb) q.2.2.1⟩, fun hn => ?_⟩
 have a3 := fun q => hn (ho.2 q)
 rw [p_plain, Option.bind_some, T_ite]
 refine ⟨fun hp => ?_, fun hp => ?_⟩
 ·simp only [T_some]
  exact ⟨fun _ => ⟨a1, a2, a3, fun q => absurd (of_decide_eq_true hp) q⟩, fun _ => trivial⟩
 have hp' : ¬ PlX all i := by simpa [PlX] using hp
 rw [T_G, T_G]
 refine ⟨by omega, by omega, T_bindr (fun o => o = true ↔ ¬ ((U.length : Int) ≤ (gt all i).2.2.1 ∧ (gt all i).2.2.1 < (all.length : Int) ∧ (gt all i).2.2.2.1 < (U.length : Int))) ?_ fun o ho => ?_⟩
 ·simp only [T_ite, T_some]
  exact ⟨fun _ => by simp; omega, fun h1 => ⟨fun _ => by simp; omega, fun h2 => by simp; omega⟩⟩
 rw [T_ite]
 refine ⟨fun hb => by simp only [T_some]; exact ⟨fun q => (by cases q), fun q => absurd (ho.1 hb) fun z => z ⟨(q.2.2.2 hp').1, (q.2.2.2 hp').2.1, (q.2.2.2 hp').2.2.1⟩⟩, fun hn => ?_⟩
 obtain ⟨b1, b2, b3⟩ : (U.length : Int) ≤ (gt all i).2.2.1 ∧ (gt all i).2.2.1 < (all.length : Int) ∧ (gt all i).2.2.2.1 < (U.length : Int) := Classical.not_not.1 fun q => hn (ho.2 q)
 simp only [T_G, T_ite, T_some]
 refine ⟨by omega, by omega, fun h1 => ⟨fun h2 => ?_, fun h2 => ?_⟩, fun h1 => ?_⟩
 ·rw [decide_eq_true_iff]
  exact ⟨fun h3 => ⟨a1, a2, a3, fun _ => ⟨b1, b2, b3, h1, h2, h3⟩⟩, fun q => (q.2.2.2 hp').2.2.2.2.2⟩
 ·exact ⟨fun q => (by cases q), fun q => absurd (q.2.2.2 hp').2.2.2.2.1 h2⟩
 ·exact ⟨fun q => (by cases q), fun q => absurd (q.2.2.2 hp').2.2.2.1 h1⟩
theorem p_weightX (h : AllS N U D all) (hU : WL U) (hD : WL D) (i0 : 0 ≤ i) (i1 : i < (all.length : Int)) (hs : ShpX N U all i) : T (z_hier_weight all i) fun b => b = true ↔ WgtX all i := by
 obtain ⟨g1, g2, g3, g4⟩ := h.rng hU hD i0 i1
 have hl := h.len
 unfold z_hier_weight WgtX
 rw [T_G, p_plain, Option.bind_some, T_ite]
 refine ⟨⟨i0, i1⟩, fun hp => ?_, fun hp => ?_⟩
 ·have hp' : PlX all i := by simpa [PlX] using hp
  simp only [T_some, decide_eq_true_iff]
  exact ⟨fun q => ⟨fun _ => q, fun z => absurd hp' z⟩, fun q => q.1 hp'⟩
 have hp' : ¬ PlX all i := by simpa [PlX] using hp
 obtain ⟨_, _, _, q⟩ := hs
 obtain ⟨b1, b2, b3, _⟩ := q hp'
 obtain ⟨_, c2, _⟩ := h.rng hU hD (i := (gt all i).2.2.1) (by omega) b2
 obtain ⟨_, d2, _⟩ := h.rng hU hD (i := (gt all i).2.2.2.1) (by omega) (by omega)
 simp only [T_G, T_ite, T_some, decide_eq_true_iff]
 refine ⟨by omega, by omega, fun h1 => ⟨fun h2 => ⟨fun h3 => ⟨by omega, fun h4 => ⟨fun z => absurd z hp', fun _ => ⟨h1, h2, h3, h4⟩⟩, fun q => (q.2 hp').2.2.2⟩, fun h3 => ⟨fun q => (by cases q), fun q => absurd (q.2 hp').2.2.1 h3⟩⟩, fun h2 => ⟨fun q => (by cases q), fun q => absurd (q.2 hp').2.1 h2⟩⟩, fun h1 => ⟨fun q => (by cases q), fun q => absurd (q.2 hp').1 h1⟩⟩
end Go.Vd

/-! (HxC) -/

set_option linter.unusedVariables false
set_option linter.unusedSimpArgs false
set_option maxHeartbeats 2000000
namespace Go.Vd
variable {l N UF DF : List Int} {U D : List B4} {k i r : Int} {all all' : List E7}
inductive LnkA (N : List Int) (U : List B4) (all : List E7) : Er → Prop
 | shp (i : Int) : 0 ≤ i → i < (all.length : Int) → (∀ j, 0 ≤ j → j < i → ShpX N U all j ∧ WgtX all j) → ¬ ShpX N U all i → LnkA N U all (.at 4 i (.no 14))
 | wgt (i : Int) : 0 ≤ i → i < (all.length : Int) → (∀ j, 0 ≤ j → j < i → ShpX N U all j ∧ WgtX all j) → ShpX N U all i → ¬ WgtX all i → LnkA N U all (.at 4 i (.no 8))
 | ok : (∀ j, 0 ≤ j → j < (all.length : Int) → ShpX N U all j ∧ WgtX all j) → LnkA N U all .nil
theorem LnkA.uniq {a b : Er} (h : LnkA N U all a) (g : LnkA N U all b) : a = b := by
 cases h with
 | shp i h1 h2 h3 h4 =>
  cases g with
  | shp j g1 g2 g3 g4 =>
   rcases Int.lt_trichotomy i j with q | q | q
   ·exact absurd (g3 i h1 q).1 h4
   ·subst q; rfl
   ·exact absurd (h3 j g1 q).1 g4
  | wgt j g1 g2 g3 g4 g5 =>
   rcases Int.lt_trichotomy i j with q | q | q
   ·exact absurd (g3 i h1 q).1 h4
   ·subst q; exact absurd g4 h4
   ·exact absurd (h3 j g1 q).2 g5
  | ok g => exact absurd (g i h1 h2).1 h4
 | wgt i h1 h2 h3 h4 h5 =>
  cases g with
  | shp j g1 g2 g3 g4 =>
   rcases Int.lt_trichotomy i j with q | q | q
   ·exact absurd (g3 i h1 q).2 h5
   ·subst q; exact absurd h4 g4
   ·exact absurd (h3 j g1 q).1 g4
  | wgt j g1 g2 g3 g4 g5 =>
   rcases Int.lt_trichotomy i j with q | q | q
   ·exact absurd (g3 i h1 q).2 h5
   ·subst q; rfl
   ·exact absurd (h3 j g1 q).2 g5
  | ok g => exact absurd (g i h1 h2).2 h5
 | ok h =>
  cases g with
  | shp j g1 g2 g3 g4 => exact absurd (h j g1 g2).1 g4
  | wgt j g1 g2 g3 g4 g5 => exact absurd (h j g1 g2).2 g5
  | ok _ => rfl
theorem LnkA.good {a : Er} (h : LnkA N U all a) : a = .nil ∨ ∃ k i n, a = .at k i (.no n) ∧ n ≠ 0 := by
 cases h with
 | shp i _ _ _ _ => exact .inr ⟨4, i, 14, rfl, by decide⟩
 | wgt i _ _ _ _ _ => exact .inr ⟨4, i, 8, rfl, by decide⟩
 | ok _ => exact .inl rfl
def SmX (N : List Int) (U D : List B4) : Prop := N.length ≤ 65536 ∧ U.length + D.length ≤ 1048576
def LnX (N UF DF : List Int) : Prop := (UF.length : Int) = N.length + 1 ∧ (DF.length : Int) = N.length + 1
inductive HierA (N UF : List Int) (U : List B4) (DF : List Int) (D : List B4) : Er → Prop
 | lim : ¬ SmX N U D → HierA N UF U DF D (.no 9)
 | len : SmX N U D → ¬ LnX N UF DF → HierA N UF U DF D (.no 14)
 | up (er : Er) : SmX N U D → LnX N UF DF → FstA UF (U.length : Int) er → er ≠ .nil → HierA N UF U DF D er
 | dn (er : Er) : SmX N U D → LnX N UF DF → Fst UF (U.length : Int) → FstA DF (D.length : Int) er → er ≠ .nil → HierA N UF U DF D er
 | ord (er : Er) : SmX N U D → LnX N UF DF → Fst UF (U.length : Int) → Fst DF (D.length : Int) → OrdA N er → er ≠ .nil → HierA N UF U DF D er
 | lnk (er : Er) (all : List E7) : SmX N U D → LnX N UF DF → Fst UF (U.length : Int) → Fst DF (D.length : Int) → OrdL N → AllX UF DF U D all → LnkA N U all er → HierA N UF U DF D er
theorem FstA.nilD (h : FstA l k .nil) : Fst l k := by cases h; assumption
theorem OrdA.nilD (h : OrdA l .nil) : OrdL l := by cases h; assumption
theorem FstA.no {a : Er} (h : FstA l k a) (ha : a ≠ .nil) (g : Fst l k) : False := ha (h.uniq (.ok g))
theorem OrdA.no {a : Er} (h : OrdA l a) (ha : a ≠ .nil) (g : OrdL l) : False := ha (h.uniq (.ok g))
theorem HierA.uniq {a b : Er} (h : HierA N UF U DF D a) (g : HierA N UF U DF D b) : a = b := by
 cases h with
 | lim h1 =>
  cases g with
  | lim _ => rfl
  | len g1 _ => exact absurd g1 h1
  | up _ g1 _ _ _ => exact absurd g1 h1
  | dn _ g1 _ _ _ _ => exact absurd g1 h1
  | ord _ g1 _ _ _ _ _ => exact absurd g1 h1
  | lnk _ _ g1 _ _ _ _ _ _ => exact absurd g1 h1
 | len h1 h2 =>
  cases g with
  | lim g1 => exact absurd h1 g1
  | len _ _ => rfl
  | up _ _ g2 _ _ => exact absurd g2 h2
  | dn _ _ g2 _ _ _ => exact absurd g2 h2
  | ord _ _ g2 _ _ _ _ => exact absurd g2 h2
  | lnk _ _ _ g2 _ _ _ _ _ => exact absurd g2 h2
 | up _ h1 h2 h3 h4 =>
  cases g with
  | lim g1 => exact absurd h1 g1
  | len _ g2 => exact absurd h2 g2
  | up _ _ _ g3 _ => exact h3.uniq g3
  | dn _ _ _ g3 _ _ => exact (h3.no h4 g3).elim
  | ord _ _ _ g3 _ _ _ => exact (h3.no h4 g3).elim
  | lnk _ _ _ _ g3 _ _ _ _ => exact (h3.no h4 g3).elim
 | dn _ h1 h2 h3 h4 h5 =>
  cases g with
  | lim g1 => exact absurd h1 g1
  | len _ g2 => exact absurd h2 g2
  | up _ _ _ g3 g4 => exact (g3.no g4 h3).elim
  | dn _ _ _ _ g4 _ => exact h4.uniq g4
  | ord _ _ _ _ g4 _ _ => exact (h4.no h5 g4).elim
  | lnk _ _ _ _ _ g4 _ _ _ => exact (h4.no h5 g4).elim
 | ord _ h1 h2 h3 h4 h5 h6 =>
  cases g with
  | lim g1 => exact absurd h1 g1
  | len _ g2 => exact absurd h2 g2
  | up _ _ _ g3 g4 => exact (g3.no g4 h3).elim
  | dn _ _ _ _ g4 g5 => exact (g4.no g5 h4).elim
  | ord _ _ _ _ _ g5 _ => exact h5.uniq g5
  | lnk _ _ _ _ _ _ g5 _ _ => exact (h5.no h6 g5).elim
 | lnk _ all h1 h2 h3 h4 h5 h6 h7 =>
  cases g with
  | lim g1 => exact absurd h1 g1
  | len _ g2 => exact absurd h2 g2
  | up _ _ _ g3 g4 => exact (g3.no g4 h3).elim
  | dn _ _ _ _ g4 g5 => exact (g4.no g5 h4).elim
  | ord _ _ _ _ _ g5 g6 => exact (g5.no g6 h5).elim
  | lnk _ all' _ _ _ _ _ g6 g7 =>
   obtain rfl := h6.uniq h3 h4 g6
   exact h7.uniq g7
theorem p_endsX (hN : W32 N) (hUF : W32 UF) (hU : WL U) (hDF : W32 DF) (hD : WL D) (lU : U.length ≤ 9000000000000) (lD : D.length ≤ 9000000000000) (lN : N.length ≤ 9000000000000000) : T (z_hier_ends N UF U DF D) fun r => HierA N UF U DF D r.2 ∧ (r.2 = .nil → SmX N U D ∧ LnX N UF DF ∧ Fst UF (U.length : Int) ∧ Fst DF (D.length : Int) ∧ OrdL N ∧ AllX UF DF U D r.1 ∧ ∀ j, 0 ≤ j → j < (r.1.length : Int) → ShpX N U r.1 j ∧ WgtX r.1 j) ∧ (r.2 ≠ .nil → r.1 = []) := by
 unfold z_hier_ends
 refine T_bindr (fun o => o = true ↔ ¬ SmX N U D) ?_ fun o ho => ?_
 ·unfold SmX
  simp only [T_G, T_ite, T_some]
  exact ⟨fun _ => by simp; omega, fun h1 => ⟨by omega, by rw [decide_eq_true_iff]; omega⟩⟩
 rw [T_ite]
 refine ⟨fun hb => by simp only [T_some]; exact ⟨.lim (ho.1 hb), fun q => (by cases q), fun _ => trivial⟩, fun hn => ?_⟩
 have sm : SmX N U D := Classical.not_not.1 fun q => hn (ho.2 q)
 have sm' := sm
 obtain ⟨n1, m1⟩ := sm'
 refine T_bindr (fun o => o = true ↔ ¬ LnX N UF DF) ?_ fun o ho => ?_
 ·unfold LnX
  simp only [T_G, T_ite, T_some]
  exact ⟨by omega, fun h1 => by simp [h1], fun h1 => by simp [h1]⟩
 rw [T_ite]
 refine ⟨fun hb => by simp only [T_some]; exact ⟨.len sm (ho.1 hb), fun q => (by cases q), fun _ => trivial⟩, fun hn => ?_⟩
 have ln : LnX N UF DF := Classical.not_not.1 fun q => hn (ho.2 q)
 have ln' := ln
 obtain ⟨nU, nD⟩ := ln'
 refine T_bindr _ (p_firstsA hUF (by omega) (by omega)) fun er h1 => ?_
 rw [T_ite]
 refine ⟨fun e1 => ?_, fun e1 => by simp only [T_some]; exact ⟨.up er sm ln h1 e1, fun q => absurd q e1, fun _ => trivial⟩⟩
 subst e1
 have fU := h1.nilD
 refine T_bindr _ (p_firstsA hDF (by omega) (by omega)) fun er h2 => ?_
 rw [T_ite]
 refine ⟨fun e2 => ?_, fun e2 => by simp only [T_some]; exact ⟨.dn er sm ln fU h2 e2, fun q => absurd q e2, fun _ => trivial⟩⟩
 subst e2
 have fD := h2.nilD
 refine T_bindr _ (p_orderA hN (by omega)) fun er h3 => ?_
 rw [T_ite]
 refine ⟨fun e3 => ?_, fun e3 => by simp only [T_some]; exact ⟨.ord er sm ln fU fD h3 e3, fun q => absurd q e3, fun _ => trivial⟩⟩
 subst e3
 have od := h3.nilD
 rw [show z_hier_links N UF U DF D = some () from rfl, Option.bind_some]
 have hok : ∀ t : List E8, t.length ≤ 3000000 → (fun tr_ => (foldO (fun x_ zz_ => z_hier_ends_l0 x_ zz_) [] tr_).isSome) t = true := fun t ht => by
  show (foldO (fun x_ zz_ => z_hier_ends_l0 x_ zz_) [] t).isSome = true
  rw [fold_all t [] (by simp; omega)]; rfl
 refine T_bindr (fun t : List E8 => (t.length : Int) = U.length + D.length ∧ AllX UF DF U D (t.map (·.2))) ?_ ?_
 ·unfold z_hier_links_1
  refine T_bindr _ (p_ups hok fU nU n1 (by omega) hU) ?_
  rintro ⟨t0, c⟩ ⟨a1, rfl, a3⟩
  dsimp only at *
  refine T_bindr _ (p_dns (by omega) a1 (by omega) hok fD nD n1 (by omega) hD) fun t ⟨b1, b2, b3⟩ => ?_
  simp only [T_some]
  exact ⟨b1, allX_of fU fD (by omega) (by omega) a1 a3 b1 b2 b3⟩
 rintro t ⟨ht, hX⟩
 rw [fold_all t [] (by simp; omega), Option.bind_some, List.nil_append]
 generalize t.map (·.2) = all at hX
 have hA := hX.s nU nD
 have hl := hA.len
 refine T_binds (fun _ => ∀ i, 0 ≤ i → i < (all.length : Int) → ShpX N U all i ∧ WgtX all i) ?_ fun _ h => by
  simp only [T_some]
  exact ⟨.lnk .nil all sm ln fU fD od hX (.ok h), fun _ => ⟨sm, ln, fU, fD, od, hX, h⟩, fun q => absurd rfl q⟩
 refine T_loop (fun i => 0 ≤ i ∧ i ≤ (all.length : Int) ∧ ∀ j, 0 ≤ j → j < i → ShpX N U all j ∧ WgtX all j) (fun i => ((all.length : Int) - i).toNat) ?_ ⟨by simp, by omega, fun j j0 j1 => by omega⟩
 rintro i ⟨i0, i1, hi⟩
 unfold z_hier_ends_l1
 rw [T_ite]
 refine ⟨fun hlt => ?_, fun hge => by simp only [T_some, Sum.elim_inr]; exact fun j j0 j1 => hi j j0 (by omega)⟩
 refine T_bindr _ (p_shapeX hA hU hD m1 i0 hlt) fun b hb => ?_
 rw [p_f10, p_f10, T_ite]
 refine ⟨fun hn => ?_, fun hn => ?_⟩
 ·have ns : ¬ ShpX N U all i := fun q => by simp [hb.2 q] at hn
  simp only [Option.bind_some, T_map, T_some, Sum.elim_inr, Sum.elim_inl]
  exact ⟨.lnk _ all sm ln fU fD od hX (.shp i i0 hlt hi ns), fun q => (by cases q), fun _ => trivial⟩
 have sh := hb.1 (by simpa using hn)
 refine T_bindr _ (p_weightX hA hU hD i0 hlt sh) fun b hb => ?_
 rw [T_ite]
 refine ⟨fun hn => ?_, fun hn => ?_⟩
 ·have ns : ¬ WgtX all i := fun q => by simp [hb.2 q] at hn
  simp only [Option.bind_some, T_map, T_some, Sum.elim_inr, Sum.elim_inl]
  exact ⟨.lnk _ all sm ln fU fD od hX (.wgt i i0 hlt hi sh ns), fun q => (by cases q), fun _ => trivial⟩
 have wg := hb.1 (by simpa using hn)
 simp only [T_G, T_some, Sum.elim_inl]
 refine ⟨by omega, ⟨by omega, by omega, fun j j0 j1 => ?_⟩, by omega⟩
 by_cases e : j = i
 ·subst e; exact ⟨sh, wg⟩
 ·exact hi j j0 (by omega)
end Go.Vd

/-! (HxD) -/

set_option linter.unusedVariables false
set_option linter.unusedSimpArgs false
set_option maxHeartbeats 2000000
namespace Go.Vd
variable {l N UF DF ranks : List Int} {U D : List B4} {k i r : Int} {all all' : List E7}
def RkT (UF : List Int) (o m : Int) (t : List Int) : Prop := ∀ i, 0 ≤ i → i < m → ∀ r, Rk UF i r → gt t (o + i) = r
theorem p_rups (hf : Fst UF (U.length : Int)) (h0 : 0 < (UF.length : Int)) (hn : UF.length ≤ 70000) (hl : U.length ≤ 1048576) :
  T (loopO (fun zz_ => z_viaductref10_Ranks_l1 UF zz_.1 zz_.2) ([], 0)) fun o => (o.length : Int) = U.length ∧ RkT UF 0 (U.length : Int) o := by
 refine T_loop (fun z => 0 ≤ z.2 ∧ z.2 ≤ (UF.length : Int) - 1 ∧ (z.1.length : Int) = gt UF z.2 ∧ RkT UF 0 (gt UF z.2) z.1) (fun z => ((UF.length : Int) - 1 - z.2).toNat) ?_ ⟨by simp, by simp; omega, by simp [hf.z], fun i i0 i1 => by dsimp only at i1; rw [hf.z] at i1; omega⟩
 rintro ⟨y, q⟩ ⟨q0, q1, hy, ht⟩
 dsimp only at *
 unfold z_viaductref10_Ranks_l1
 rw [T_G, T_ite]
 refine ⟨by omega, fun hq => ?_, fun hq => ?_⟩
 rotate_left
 ·have e : q = (UF.length : Int) - 1 := by omega
  rw [e, hf.e] at hy ht
  simp only [T_some, Sum.elim_inr]
  exact ⟨hy, ht⟩
 have m1 := hf.up q q0 (by omega)
 have m0 := hf.le (a := 0) (b := q) (by omega) q0 (by omega)
 have m2 := hf.le (a := q + 1) (b := (UF.length : Int) - 1) (by omega) (by omega) (by omega)
 rw [hf.z] at m0
 rw [hf.e] at m2
 rw [T_G]
 refine ⟨by omega, T_bindr (fun o => (o.length : Int) = gt UF (q + 1) ∧ RkT UF 0 (gt UF (q + 1)) o) ?_ ?_⟩
 ·refine T_loop (fun z => gt UF q ≤ z.2 ∧ z.2 ≤ gt UF (q + 1) ∧ (z.1.length : Int) = z.2 ∧ RkT UF 0 z.2 z.1) (fun z => (gt UF (q + 1) - z.2).toNat) ?_ ⟨by simp, by simpa using m1, by simpa using hy, by simpa using ht⟩
  rintro ⟨y, j⟩ ⟨j0, j1, hy, ht⟩
  dsimp only at *
  unfold z_viaductref10_Ranks_l0
  simp only [T_G, T_ite, T_some, Sum.elim_inl, Sum.elim_inr]
  refine ⟨by omega, by omega, fun hj => ⟨by omega, by omega, ⟨by omega, by omega, by simp; omega, fun i i0 i1 r hr => ?_⟩, by omega⟩, fun hj => ?_⟩
  ·rw [gt_ap1 (by omega) (by omega), hy]
   by_cases e : i = j
   ·rw [if_pos (by omega)]
    have : Rk UF i q := ⟨q0, by omega, by omega, by omega⟩
    exact hf.uniq this hr
   ·rw [if_neg (by omega)]; exact ht i i0 (by omega) r hr
  ·have e : j = gt UF (q + 1) := by omega
   rw [← e]; exact ⟨hy, ht⟩
 ·rintro y' ⟨h1, h2⟩
  simp only [T_G, T_some, Sum.elim_inl]
  exact ⟨by omega, ⟨by omega, by omega, h1, h2⟩, by omega⟩
theorem p_rdns {t0 : List Int} {u : Int} (u0 : 0 ≤ u) (hu : (t0.length : Int) = u) (hul : u ≤ 1048576) (hf : Fst DF (D.length : Int)) (h0 : 0 < (DF.length : Int)) (hn : DF.length ≤ 70000) (hl : D.length ≤ 1048576) :
  T (loopO (fun zz_ => z_viaductref10_Ranks_l3 DF zz_.1 zz_.2) (t0, 0)) fun o => (o.length : Int) = u + D.length ∧ (∀ i, 0 ≤ i → i < u → gt o i = gt t0 i) ∧ RkT DF u (D.length : Int) o := by
 refine T_loop (fun z => 0 ≤ z.2 ∧ z.2 ≤ (DF.length : Int) - 1 ∧ (z.1.length : Int) = u + gt DF z.2 ∧ (∀ i, 0 ≤ i → i < u → gt z.1 i = gt t0 i) ∧ RkT DF u (gt DF z.2) z.1) (fun z => ((DF.length : Int) - 1 - z.2).toNat) ?_ ⟨by simp, by simp; omega, by simp [hf.z, hu], fun i _ _ => rfl, fun i i0 i1 => by dsimp only at i1; rw [hf.z] at i1; omega⟩
 rintro ⟨y, q⟩ ⟨q0, q1, hy, hk, ht⟩
 dsimp only at *
 unfold z_viaductref10_Ranks_l3
 rw [T_G, T_ite]
 refine ⟨by omega, fun hq => ?_, fun hq => ?_⟩
 rotate_left
 ·have e : q = (DF.length : Int) - 1 := by omega
  rw [e, hf.e] at hy ht
  simp only [T_some, Sum.elim_inr]
  exact ⟨hy, hk, ht⟩
 have m1 := hf.up q q0 (by omega)
 have m0 := hf.le (a := 0) (b := q) (by omega) q0 (by omega)
 have m2 := hf.le (a := q + 1) (b := (DF.length : Int) - 1) (by omega) (by omega) (by omega)
 rw [hf.z] at m0
 rw [hf.e] at m2
 rw [T_G]
 refine ⟨by omega, T_bindr (fun o => (o.length : Int) = u + gt DF (q + 1) ∧ (∀ i, 0 ≤ i → i < u → gt o i = gt t0 i) ∧ RkT DF u (gt DF (q + 1)) o) ?_ ?_⟩
 ·refine T_loop (fun z => gt DF q ≤ z.2 ∧ z.2 ≤ gt DF (q + 1) ∧ (z.1.length : Int) = u + z.2 ∧ (∀ i, 0 ≤ i → i < u → gt z.1 i = gt t0 i) ∧ RkT DF u z.2 z.1) (fun z => (gt DF (q + 1) - z.2).toNat) ?_ ⟨by simp, by simpa using m1, by simpa using hy, hk, by simpa using ht⟩
  rintro ⟨y, j⟩ ⟨j0, j1, hy, hk, ht⟩
  dsimp only at *
  unfold z_viaductref10_Ranks_l2
  simp only [T_G, T_ite, T_some, Sum.elim_inl, Sum.elim_inr]
  refine ⟨by omega, by omega, fun hj => ⟨by omega, by omega, ⟨by omega, by omega, by simp; omega, fun i i0 i1 => ?_, fun i i0 i1 r hr => ?_⟩, by omega⟩, fun hj => ?_⟩
  ·rw [gt_ap1 i0 (by omega), if_neg (by omega)]; exact hk i i0 i1
  ·rw [gt_ap1 (by omega) (by omega), hy]
   by_cases e : i = j
   ·rw [if_pos (by omega)]
    have : Rk DF i q := ⟨q0, by omega, by omega, by omega⟩
    exact hf.uniq this hr
   ·rw [if_neg (by omega)]; exact ht i i0 (by omega) r hr
  ·have e : j = gt DF (q + 1) := by omega
   rw [← e]; exact ⟨hy, hk, ht⟩
 ·rintro y' ⟨h1, h2, h3⟩
  simp only [T_G, T_some, Sum.elim_inl]
  exact ⟨by omega, ⟨by omega, by omega, h1, h2, h3⟩, by omega⟩
def RksA (ranks : List Int) (all : List E7) : Prop := (ranks.length : Int) = all.length ∧ ∀ i, 0 ≤ i → i < (all.length : Int) → gt ranks i = (gt all i).2.2.2.2.2.2
theorem p_rRanks (ln : LnX N UF DF) (sm : SmX N U D) (fU : Fst UF (U.length : Int)) (fD : Fst DF (D.length : Int)) (hX : AllX UF DF U D all) : T (z_viaductref10_Ranks N UF U DF D) fun x => RksA x all := by
 obtain ⟨n1, m1⟩ := sm
 obtain ⟨nU, nD⟩ := ln
 have hl := hX.len
 unfold z_viaductref10_Ranks
 refine T_bindr _ (p_rups fU (by omega) (by omega) (by omega)) fun t0 ⟨a1, a2⟩ => ?_
 refine T_bindr _ (p_rdns (by omega) a1 (by omega) fD (by omega) (by omega) (by omega)) fun t ⟨b1, b2, b3⟩ => ?_
 simp only [T_some]
 refine ⟨by omega, fun i i0 i1 => ?_⟩
 obtain ⟨r, h1, h2⟩ := hX.at' i i0 i1
 rw [h2]
 unfold RkX at h1
 by_cases q : i < (U.length : Int)
 ·rw [if_pos q] at h1
  have := a2 i i0 q r h1
  rw [Int.zero_add] at this
  rw [b2 i i0 q, this]; rfl
 ·rw [if_neg q] at h1
  have := b3 (i - U.length) (by omega) (by omega) r h1
  rw [show (U.length : Int) + (i - U.length) = i from by omega] at this
  rw [this]; rfl
theorem p_link (h : U.length + D.length ≤ 100000000000000) (i0 : 0 ≤ i) (i1 : i < (U.length : Int) + D.length) : z_viaductref10_Link N UF U DF D i = some (lnk U D i) := by
 unfold z_viaductref10_Link lnk G
 by_cases q : i < (U.length : Int)
 ·rw [if_pos q, if_pos q, if_pos i0]
 ·rw [if_neg q, if_neg q, if_pos (by omega), if_pos (by omega)]
theorem p_rplain {a b c d : Int} : z_viaductref10_Plain a b c d = some (decide (c = 4294967295 ∧ d = 4294967295)) := by
 unfold z_viaductref10_Plain
 by_cases h : c = 4294967295 <;> simp [h]
theorem AllX.lk (h : AllX UF DF U D all) (i0 : 0 ≤ i) (i1 : i < (all.length : Int)) : (gt all i).1 = (lnk U D i).1 ∧ (gt all i).2.1 = (lnk U D i).2.1 ∧ (gt all i).2.2.1 = (lnk U D i).2.2.1 ∧ (gt all i).2.2.2.1 = (lnk U D i).2.2.2 := by
 obtain ⟨r, _, e⟩ := h.at' i i0 i1
 rw [e]; exact ⟨rfl, rfl, rfl, rfl⟩
theorem p_endOf (sm : SmX N U D) (hU : WL U) (hD : WL D) (hX : AllX UF DF U D all) (hr : RksA ranks all) (i0 : 0 ≤ i) (i1 : i < (all.length : Int)) : z_viaductref10_EndOf N UF U DF D ranks i = some ((gt all i).2.2.2.2.1, (gt all i).2.2.2.2.2.1, (gt all i).2.2.2.2.2.2) := by
 have hl := hX.len
 obtain ⟨n1, m1⟩ := sm
 obtain ⟨r, _, e⟩ := hX.at' i i0 i1
 have gl := lnk_rng hU hD i0 (by omega)
 have hri := hr.2 i i0 i1
 have hrl := hr.1
 unfold z_viaductref10_EndOf
 rw [p_link (by omega) i0 (by omega), Option.bind_some]
 rw [e] at hri ⊢
 unfold e7 at hri ⊢
 dsimp only at hri ⊢
 unfold G
 rw [if_pos (by omega)]
 by_cases q : i < (U.length : Int)
 ·rw [if_pos q, if_pos q, if_pos q, if_pos (by omega), hri]
 ·rw [if_neg q, if_neg q, if_neg q, if_pos (by omega), hri]
end Go.Vd

/-! (HxE) -/

set_option linter.unusedVariables false
set_option linter.unusedSimpArgs false
set_option maxHeartbeats 4000000
namespace Go.Vd
variable {l N UF DF ranks : List Int} {U D : List B4} {k i r : Int} {all all' : List E7}
theorem p_rlink (sm : SmX N U D) (ln : LnX N UF DF) (hU : WL U) (hD : WL D) (hX : AllX UF DF U D all) (hr : RksA ranks all) (i0 : 0 ≤ i) (i1 : i < (all.length : Int)) : T (z_viaductref10_link N UF U DF D ranks i) fun x => (x = (14, [(4, i)]) ∧ ¬ ShpX N U all i) ∨ (x = (8, [(4, i)]) ∧ ShpX N U all i ∧ ¬ WgtX all i) ∨ (x = (0, []) ∧ ShpX N U all i ∧ WgtX all i) := by
 have hl := hX.len
 have sm' := sm
 obtain ⟨n1, m1⟩ := sm'
 obtain ⟨g1, g2, g3, g4⟩ := lnk_rng hU hD i0 (by omega)
 obtain ⟨k1, k2, k3, k4⟩ := hX.lk i0 i1
 have hri := hr.2 i i0 i1
 have hrl := hr.1
 unfold z_viaductref10_link
 rw [T_G, p_link (by omega) i0 (by omega), Option.bind_some, p_E, Option.bind_some, p_At1, Option.bind_some]
 refine ⟨by omega, T_bindr (fun o => o = true ↔ ¬ ((gt all i).1 < (N.length : Int) ∧ (gt all i).2.2.2.2.2.2 < (gt all i).1)) ?_ fun o ho => ?_⟩
 ·simp only [T_G, T_ite, T_some, decide_eq_true_iff]
  rw [hri, k1]
  exact ⟨by omega, by omega, fun q => by simp; omega, fun q => ⟨by omega, by omega, by omega⟩⟩
 rw [T_ite]
 refine ⟨fun hb => by simp only [T_some]; exact .inl ⟨trivial, fun q => ho.1 hb ⟨q.1, q.2.1⟩⟩, fun hn => ?_⟩
 obtain ⟨a1, a2⟩ : (gt all i).1 < (N.length : Int) ∧ (gt all i).2.2.2.2.2.2 < (gt all i).1 := Classical.not_not.1 fun q => hn (ho.2 q)
 refine T_bindr (fun o => o = true ↔ (0 < i ∧ i ≠ (U.length : Int) ∧ (gt all (i - 1)).2.2.2.2.2.2 = (gt all i).2.2.2.2.2.2 ∧ (gt all (i - 1)).1 ≥ (gt all i).1)) ?_ fun o ho => ?_
 ·simp only [T_G, T_ite, T_some]
  refine ⟨fun q1 => ?_, fun q1 => ⟨fun q2 => ?_, fun q2 => ⟨by omega, by omega, by omega, fun q3 => ⟨by omega, ?_⟩, fun q3 => ?_⟩⟩⟩
  ·exact ⟨fun x => (by cases x), fun x => by omega⟩
  ·exact ⟨fun x => (by cases x), fun x => absurd q2 x.2.1⟩
  ·rw [hr.2 (i - 1) (by omega) (by omega), hri] at q3
   rw [p_link (by omega) (by omega) (by omega), Option.bind_some, T_some, decide_eq_true_iff, ← k1, ← (hX.lk (i := i - 1) (by omega) (by omega)).1]
   exact ⟨fun x => ⟨by omega, q2, q3, x⟩, fun x => x.2.2.2⟩
  ·rw [hr.2 (i - 1) (by omega) (by omega), hri] at q3
   exact ⟨fun x => (by cases x), fun x => absurd x.2.2.1 q3⟩
 rw [T_ite]
 refine ⟨fun hb => by simp only [T_some]; exact .inl ⟨trivial, fun q => q.2.2.1 (ho.1 hb)⟩, fun hn => ?_⟩
 have a3 := fun q => hn (ho.2 q)
 rw [p_E, Option.bind_some, p_At1, Option.bind_some, p_rplain, Option.bind_some, T_ite]
 refine ⟨fun hp => ?_, fun hp => ?_⟩
 ·have hp' : PlX all i := by
   have := of_decide_eq_true hp
   unfold PlX; rw [k3, k4]; exact this
  have sh : ShpX N U all i := ⟨a1, a2, a3, fun q => absurd hp' q⟩
  rw [T_ite, ← k2]
  simp only [T_some]
  exact ⟨fun q => .inr (.inl ⟨trivial, sh, fun w => by have := w.1 hp'; omega⟩), fun q => .inr (.inr ⟨trivial, sh, fun _ => by omega, fun z => absurd hp' z⟩)⟩
 have hp' : ¬ PlX all i := by unfold PlX; rw [k3, k4]; simpa using hp
 refine T_bindr (fun o => o = true ↔ ¬ ((U.length : Int) ≤ (gt all i).2.2.1 ∧ (gt all i).2.2.1 < (all.length : Int) ∧ (gt all i).2.2.2.1 < (U.length : Int))) ?_ fun o ho => ?_
 ·simp only [T_G, T_ite, T_some, decide_eq_true_iff]
  rw [k3, k4]
  exact ⟨by omega, by omega, fun q => by simp; omega, fun q => ⟨by omega, by omega, fun q2 => by simp; omega, fun q2 => ⟨by omega, fun q3 => by simp; omega, fun q3 => ⟨by omega, by omega⟩⟩⟩⟩
 rw [T_ite]
 refine ⟨fun hb => by simp only [T_some]; exact .inl ⟨trivial, fun q => ho.1 hb ⟨(q.2.2.2 hp').1, (q.2.2.2 hp').2.1, (q.2.2.2 hp').2.2.1⟩⟩, fun hn => ?_⟩
 obtain ⟨b1, b2, b3⟩ : (U.length : Int) ≤ (gt all i).2.2.1 ∧ (gt all i).2.2.1 < (all.length : Int) ∧ (gt all i).2.2.2.1 < (U.length : Int) := Classical.not_not.1 fun q => hn (ho.2 q)
 rw [← k3, ← k4, ← k2]
 have gL := lnk_rng (i := (gt all i).2.2.1) hU hD (by omega) (by omega)
 have gR := lnk_rng (i := (gt all i).2.2.2.1) hU hD (by omega) (by omega)
 rw [T_G, T_G, p_endOf sm hU hD hX hr i0 i1, Option.bind_some, p_endOf sm hU hD hX hr (by omega) b2, Option.bind_some, p_endOf sm hU hD hX hr (by omega) (by omega), Option.bind_some]
 dsimp only
 refine ⟨by omega, by omega, T_bindr (fun o => o = true ↔ ¬ ((gt all (gt all i).2.2.1).2.2.2.2.1 = (gt all i).2.2.2.2.1 ∧ (gt all (gt all i).2.2.2.1).2.2.2.2.2.1 = (gt all i).2.2.2.2.2.1 ∧ (gt all (gt all i).2.2.1).2.2.2.2.2.2 = (gt all (gt all i).2.2.2.1).2.2.2.2.2.2)) ?_ fun o ho => ?_⟩
 ·simp only [T_ite, T_some]
  exact ⟨fun h1 => ⟨fun h2 => by simp [h1, h2], fun h2 => by simp [h2]⟩, fun h1 => by simp [h1]⟩
 rw [T_ite]
 refine ⟨fun hb => by simp only [T_some]; exact .inl ⟨trivial, fun q => ho.1 hb (q.2.2.2 hp').2.2.2⟩, fun hn => ?_⟩
 have b4 := Classical.not_not.1 fun q => hn (ho.2 q)
 have sh : ShpX N U all i := ⟨a1, a2, a3, fun _ => ⟨b1, b2, b3, b4⟩⟩
 have kL := hX.lk (i := (gt all i).2.2.1) (by omega) b2
 have kR := hX.lk (i := (gt all i).2.2.2.1) (by omega) (by omega)
 rw [p_link (by omega) (by omega) (by omega), Option.bind_some, p_link (by omega) (by omega) (by omega), Option.bind_some, ← kL.2.1, ← kR.2.1]
 rw [← kL.2.1] at gL
 rw [← kR.2.1] at gR
 simp only [T_G, T_ite, T_some]
 refine ⟨fun q => .inr (.inl ⟨trivial, sh, fun w => by have := (w.2 hp').1; omega⟩), fun h1 => ⟨fun q => .inr (.inl ⟨trivial, sh, fun w => by have := (w.2 hp').2.1; omega⟩), fun h2 => ⟨fun q => .inr (.inl ⟨trivial, sh, fun w => by have := (w.2 hp').2.2.1; omega⟩), fun h3 => ⟨by omega, fun h4 => .inr (.inr ⟨trivial, sh, fun z => absurd z hp', fun _ => ⟨by omega, by omega, by omega, h4⟩⟩), fun h4 => .inr (.inl ⟨trivial, sh, fun w => h4 (w.2 hp').2.2.2⟩)⟩⟩⟩⟩
theorem FstA.bad {er : Er} (h : FstA l k er) : (er.code ≠ 0 ∨ er.pls ≠ []) ↔ er ≠ .nil := by
 cases h <;> simp [Er.code, Er.pls]
theorem p_First {a b : Er} (ha : (a.code ≠ 0 ∨ a.pls ≠ []) ↔ a ≠ .nil) (hb : (b.code ≠ 0 ∨ b.pls ≠ []) ↔ b ≠ .nil) : z_viaductref01_First a.code a.pls b.code b.pls = some (if a ≠ .nil then (a.code, a.pls) else (b.code, b.pls)) := by
 unfold z_viaductref01_First
 rw [p_Bad, Option.bind_some]
 by_cases h : a = .nil
 ·rw [if_neg (by simp only [decide_eq_true_iff]; exact fun q => ha.1 q h), if_neg (fun q => q h), p_Bad, Option.bind_some]
  by_cases g : b = .nil
  ·rw [if_neg (by simp only [decide_eq_true_iff]; exact fun q => hb.1 q g), g]; rfl
  ·rw [if_pos (by simp only [decide_eq_true_iff]; exact hb.2 g)]
 ·rw [if_pos (by simp only [decide_eq_true_iff]; exact ha.2 h), if_pos h]
theorem p_rDocCheck (hN : W32 N) (hUF : W32 UF) (hU : WL U) (hDF : W32 DF) (hD : WL D) (lU : U.length ≤ 9000000000000) (lD : D.length ≤ 9000000000000) (lN : N.length ≤ 9000000000000000) : T (z_viaductref10_DocCheck N UF U DF D) fun x => ∃ er, HierA N UF U DF D er ∧ x = (er.code, er.pls) := by
 unfold z_viaductref10_DocCheck
 refine T_bindr (fun o => o = true ↔ ¬ SmX N U D) ?_ fun o ho => ?_
 ·unfold SmX
  simp only [T_G, T_ite, T_some]
  exact ⟨fun _ => by simp; omega, fun h1 => ⟨by omega, by rw [decide_eq_true_iff]; omega⟩⟩
 rw [T_ite]
 refine ⟨fun hb => by rw [p_E, Option.bind_some, T_some]; exact ⟨_, .lim (ho.1 hb), rfl⟩, fun hn => ?_⟩
 have sm : SmX N U D := Classical.not_not.1 fun q => hn (ho.2 q)
 have sm' := sm
 obtain ⟨n1, m1⟩ := sm'
 refine T_bindr (fun o => o = true ↔ ¬ LnX N UF DF) ?_ fun o ho => ?_
 ·unfold LnX
  simp only [T_G, T_ite, T_some]
  exact ⟨by omega, fun h1 => by simp [h1], fun h1 => by simp [h1]⟩
 rw [T_ite]
 refine ⟨fun hb => by rw [p_E, Option.bind_some, T_some]; exact ⟨_, .len sm (ho.1 hb), rfl⟩, fun hn => ?_⟩
 have ln : LnX N UF DF := Classical.not_not.1 fun q => hn (ho.2 q)
 have ln' := ln
 obtain ⟨nU, nD⟩ := ln'
 refine T_bindr _ (p_rfirsts hUF nU (by omega) (by omega) (by omega) (by omega)) ?_
 rintro _ ⟨eu, h1, rfl⟩
 refine T_bindr _ (p_rfirsts hDF nD (by omega) (by omega) (by omega) (by omega)) ?_
 rintro _ ⟨ed, h2, rfl⟩
 dsimp only
 rw [p_First h1.bad h2.bad, Option.bind_some]
 by_cases e1 : eu = .nil
 rotate_left
 ·rw [if_pos e1]
  dsimp only
  rw [p_Bad, Option.bind_some, if_pos (by simp only [decide_eq_true_iff]; exact h1.bad.2 e1), T_some]
  exact ⟨_, .up eu sm ln h1 e1, rfl⟩
 subst e1
 have fU := h1.nilD
 rw [if_neg (fun q => q rfl)]
 dsimp only
 by_cases e2 : ed = .nil
 rotate_left
 ·rw [p_Bad, Option.bind_some, if_pos (by simp only [decide_eq_true_iff]; exact h2.bad.2 e2), T_some]
  exact ⟨_, .dn ed sm ln fU h2 e2, rfl⟩
 subst e2
 have fD := h2.nilD
 rw [p_Bad, Option.bind_some, if_neg (by simp [Er.code, Er.pls]), T_G]
 refine ⟨by omega, T_binds (fun _ => OrdL N) ?_ fun _ od => ?_⟩
 ·refine T_loop (fun z => 0 ≤ z.2 ∧ z.2 ≤ (N.length : Int) ∧ (z.1.length : Int) = N.length ∧ (∀ r, 0 ≤ r → r < z.2 → gt N r < (N.length : Int)) ∧ (∀ q p, 0 ≤ q → q < p → p < z.2 → gt N q ≠ gt N p) ∧ ∀ v, 0 ≤ v → v < (N.length : Int) → (gt z.1 v = true ↔ ∃ q, 0 ≤ q ∧ q < z.2 ∧ gt N q = v)) (fun z => ((N.length : Int) - z.2).toNat) ?_ ⟨by simp, by simp, by simp, fun r r0 r1 => by dsimp only at r1; omega, fun r r' r0 r1 r2 => by dsimp only at r2; omega, fun v v0 v1 => ?_⟩
  rotate_left
  ·have : gt (List.replicate N.length false) v = false := by
    simp [gt, List.getD_eq_getElem?_getD, List.getElem?_replicate]; split <;> rfl
   dsimp only
   rw [this]
   exact ⟨fun h => (by cases h), fun ⟨q, q0, q1, _⟩ => by omega⟩
  rintro ⟨sn, i⟩ ⟨i0, i1, ls, c1, c2, c3⟩
  dsimp only at *
  unfold z_viaductref10_DocCheck_l0
  rw [T_ite]
  refine ⟨fun hi => ?_, fun hi => ?_⟩
  rotate_left
  ·simp only [T_some, Sum.elim_inr]
   refine ⟨fun r r0 r1 => ⟨(hN _ (gt_mem r0 r1)).1, c1 r r0 (by omega)⟩, fun r r' r0 r1 q0 q1 e => ?_⟩
   rcases Int.lt_trichotomy r r' with q | q | q
   ·exact absurd e (c2 r r' r0 q (by omega))
   ·exact q
   ·exact absurd e.symm (c2 r' r q0 q (by omega))
  have hr := hN _ (gt_mem i0 hi)
  rw [T_G]
  refine ⟨i0, T_bindr (fun o => o = true ↔ (gt N i ≥ (N.length : Int) ∨ ∃ q, 0 ≤ q ∧ q < i ∧ gt N q = gt N i)) ?_ fun o ho => ?_⟩
  ·simp only [T_G, T_ite, T_some]
   refine ⟨by omega, by omega, fun h => by simp [h], fun hlt => ⟨by omega, ?_⟩⟩
   rw [c3 (gt N i) hr.1 (by omega)]
   exact ⟨fun h => .inr h, fun h => h.resolve_left hlt⟩
  rw [p_E, Option.bind_some, p_At1, Option.bind_some, T_ite]
  refine ⟨fun hb => ?_, fun hne => ?_⟩
  ·simp only [T_map, T_some, Sum.elim_inr, Sum.elim_inl]
   exact ⟨_, .ord _ sm ln fU fD (.bad i i0 hi c1 c2 (ho.1 hb)) (by simp), rfl⟩
  have hn : ¬ (gt N i ≥ (N.length : Int) ∨ ∃ q, 0 ≤ q ∧ q < i ∧ gt N q = gt N i) := fun q => hne (ho.2 q)
  have a1 : gt N i < (N.length : Int) := by
   have := fun q => hn (.inl q); omega
  simp only [T_G, T_some, Sum.elim_inl]
  refine ⟨by omega, by omega, ⟨by omega, by omega, by simpa using ls, fun r r0 r1 => ?_, fun r r' r0 r1 r2 => ?_, fun v v0 v1 => ?_⟩, by omega⟩
  ·by_cases e : r = i
   ·subst e; exact a1
   ·exact c1 r r0 (by omega)
  ·by_cases e : r' = i
   ·subst e
    exact fun q => hn (.inr ⟨r, r0, r1, q⟩)
   ·exact c2 r r' r0 r1 (by omega)
  ·rw [gt_setE hr.1 (by omega) v0]
   by_cases e : v = gt N i
   ·rw [if_pos e]
    exact ⟨fun _ => ⟨i, i0, by omega, e.symm⟩, fun _ => rfl⟩
   ·rw [if_neg e, c3 v v0 v1]
    refine ⟨fun ⟨q, q0, q1, q2⟩ => ⟨q, q0, by omega, q2⟩, fun ⟨q, q0, q1, q2⟩ => ⟨q, q0, ?_, q2⟩⟩
    by_cases e2 : q = i
    ·subst e2; exact absurd q2.symm e
    ·omega
 -- the links
 obtain ⟨⟨al, er⟩, _, hA, hF, _⟩ := p_endsX hN hUF hU hDF hD lU lD lN
 dsimp only at hA hF
 obtain ⟨all, hX⟩ : ∃ all, AllX UF DF U D all := by
  cases hA with
  | lim h => exact absurd sm h
  | len _ h => exact absurd ln h
  | up _ _ _ h3 h4 => exact (h3.no h4 fU).elim
  | dn _ _ _ _ h4 h5 => exact (h4.no h5 fD).elim
  | ord _ _ _ _ _ h5 h6 => exact (h5.no h6 od).elim
  | lnk _ all _ _ _ _ _ h6 _ => exact ⟨all, h6⟩
 refine T_bindr _ (p_rRanks ln sm fU fD hX) fun ranks hr => ?_
 have hrl := hr.1
 refine T_binds (fun _ => ∀ i, 0 ≤ i → i < (all.length : Int) → ShpX N U all i ∧ WgtX all i) ?_ fun _ h => by
  simp only [T_some]
  exact ⟨.nil, .lnk .nil all sm ln fU fD od hX (.ok h), rfl⟩
 have hl := hX.len
 refine T_loop (fun i => 0 ≤ i ∧ i ≤ (all.length : Int) ∧ ∀ j, 0 ≤ j → j < i → ShpX N U all j ∧ WgtX all j) (fun i => ((all.length : Int) - i).toNat) ?_ ⟨by simp, by omega, fun j j0 j1 => by omega⟩
 rintro i ⟨i0, i1, hi⟩
 unfold z_viaductref10_DocCheck_l1
 rw [hrl, T_ite]
 refine ⟨fun hlt => ?_, fun hge => by simp only [T_some, Sum.elim_inr]; exact fun j j0 j1 => hi j j0 (by omega)⟩
 refine T_bindr _ (p_rlink sm ln hU hD hX hr i0 hlt) fun x hx => ?_
 rcases hx with ⟨rfl, ns⟩ | ⟨rfl, sh, ns⟩ | ⟨rfl, sh, wg⟩
 ·dsimp only
  rw [p_Bad, Option.bind_some, if_pos (by simp)]
  simp only [T_map, T_some, Sum.elim_inr, Sum.elim_inl]
  exact ⟨_, .lnk _ all sm ln fU fD od hX (.shp i i0 hlt hi ns), rfl⟩
 ·dsimp only
  rw [p_Bad, Option.bind_some, if_pos (by simp)]
  simp only [T_map, T_some, Sum.elim_inr, Sum.elim_inl]
  exact ⟨_, .lnk _ all sm ln fU fD od hX (.wgt i i0 hlt hi sh ns), rfl⟩
 ·dsimp only
  rw [p_Bad, Option.bind_some, if_neg (by simp)]
  simp only [T_G, T_some, Sum.elim_inl]
  refine ⟨by omega, ⟨by omega, by omega, fun j j0 j1 => ?_⟩, by omega⟩
  by_cases e : j = i
  ·subst e; exact ⟨sh, wg⟩
  ·exact hi j j0 (by omega)
end Go.Vd

/-! (Sc) -/

set_option linter.unusedVariables false
set_option linter.unusedSimpArgs false
namespace Go.Vd
theorem same_nextE {E : Type} [Inhabited E] {l m : List E} {i : Int} (h : ∀ j : Int, 0 ≤ j → j < i → gt l j = gt m j) (k : gt l i = gt m i) : ∀ j : Int, 0 ≤ j → j < i + 1 → gt l j = gt m j := by
 intro j h0 h1
 by_cases e : j = i
 ·rw [e]; exact k
 ·exact h j h0 (by omega)
theorem same_neE {E : Type} [DecidableEq E] {l m : List E} (h : ¬ (l.length : Int) = (m.length : Int)) : decide (l = m) = false := by
 apply decide_eq_false; rintro rfl; exact h rfl
theorem same_atE {E : Type} [DecidableEq E] [Inhabited E] {l m : List E} {i : Int} (h : ¬ gt l i = gt m i) : decide (l = m) = false := by
 apply decide_eq_false; rintro rfl; exact h rfl
theorem same_allE {E : Type} [DecidableEq E] [Inhabited E] {l m : List E} {i : Int} (h : ∀ j : Int, 0 ≤ j → j < i → gt l j = gt m j) (hl : (l.length : Int) = m.length) (hi : (l.length : Int) ≤ i) : decide (l = m) = true :=
 decide_eq_true (list_gtE (by omega) fun j h0 h1 => h j h0 (by omega))
end Go.Vd

/-! (PrHR) -/

set_option linter.unusedVariables false
set_option linter.unusedSimpArgs false
namespace Go.Vd
abbrev A4 := Int × Int × Int × Int
theorem eq4 {x y : A4} : (x.1 = y.1 ∧ x.2.1 = y.2.1 ∧ x.2.2.1 = y.2.2.1 ∧ x.2.2.2 = y.2.2.2) ↔ x = y := by
 obtain ⟨a, b, c, d⟩ := x; obtain ⟨a', b', c', d'⟩ := y; simp
theorem p_rEqW {a b : List Int} (ha : a.length ≤ 1000000000000000) : z_viaductref10_SameWords a b = some (decide (a = b)) := by
 refine T_eq.1 ?_
 unfold z_viaductref10_SameWords
 rw [T_ite]
 refine ⟨fun hl => ?_, fun hl => by simp only [T_some]; exact (same_neE hl).symm⟩
 refine T_binds (fun _ => a = b) ?_ fun _ h => by simp [h]
 refine T_loop (fun i => 0 ≤ i ∧ i ≤ (a.length : Int) ∧ ∀ j : Int, 0 ≤ j → j < i → gt a j = gt b j) (fun i => ((a.length : Int) - i).toNat) ?_ ⟨by simp, by simp, fun j j0 j1 => by omega⟩
 rintro i ⟨i0, i1, h⟩
 unfold z_viaductref10_SameWords_l0
 simp only [T_ite, T_G, T_map, T_some, Sum.elim_inl, Sum.elim_inr]
 refine ⟨fun hi => ⟨i0, by omega, fun e => ⟨by omega, ⟨by omega, by omega, same_nextE h e⟩, by omega⟩, fun e => (same_atE e).symm⟩, fun hi => of_decide_eq_true (same_allE h hl (by omega))⟩
theorem p_rEqL {a b : List A4} (ha : a.length ≤ 1000000000000000) : z_viaductref10_SameLinks a b = some (decide (a = b)) := by
 refine T_eq.1 ?_
 unfold z_viaductref10_SameLinks
 rw [T_ite]
 refine ⟨fun hl => ?_, fun hl => by simp only [T_some]; exact (same_neE hl).symm⟩
 refine T_binds (fun _ => a = b) ?_ fun _ h => by simp [h]
 refine T_loop (fun i => 0 ≤ i ∧ i ≤ (a.length : Int) ∧ ∀ j : Int, 0 ≤ j → j < i → gt a j = gt b j) (fun i => ((a.length : Int) - i).toNat) ?_ ⟨by simp, by simp, fun j j0 j1 => by omega⟩
 rintro i ⟨i0, i1, h⟩
 unfold z_viaductref10_SameLinks_l0
 simp only [eq4, T_ite, T_G, T_map, T_some, Sum.elim_inl, Sum.elim_inr]
 refine ⟨fun hi => ⟨i0, by omega, fun e => ⟨by omega, ⟨by omega, by omega, same_nextE h e⟩, by omega⟩, fun e => (same_atE e).symm⟩, fun hi => of_decide_eq_true (same_allE h hl (by omega))⟩
theorem p_Words {l : List Int} (h : l.length ≤ 35184372088000) : z_viaductref10_Words l = some l := by
 refine T_eq.1 ?_
 unfold z_viaductref10_Words
 rw [T_bind]
 refine T_loop (fun s => 0 ≤ s.2 ∧ s.2 ≤ (l.length : Int) ∧ s.1 = l.take s.2.toNat) (fun s => ((l.length : Int) - s.2).toNat) ?_ (by simp)
 rintro ⟨m, i⟩ ⟨h0, h1, h2⟩
 dsimp only at h0 h1 h2 ⊢
 subst h2
 simp only [z_viaductref10_Words_l0, T_ite, T_G, T_some, Sum.elim_inl, Sum.elim_inr, List.length_take]
 refine ⟨fun hi => ?_, fun hi => List.take_of_length_le (by omega)⟩
 and_intros <;> first | omega | exact (take_gtE h0 hi).symm
theorem p_Links {l : List A4} (h : l.length ≤ 5864062014700) : z_viaductref10_Links l = some l := by
 refine T_eq.1 ?_
 unfold z_viaductref10_Links
 rw [T_bind]
 refine T_loop (fun s => 0 ≤ s.2 ∧ s.2 ≤ (l.length : Int) ∧ s.1 = l.take s.2.toNat) (fun s => ((l.length : Int) - s.2).toNat) ?_ (by simp)
 rintro ⟨m, i⟩ ⟨h0, h1, h2⟩
 dsimp only at h0 h1 h2 ⊢
 subst h2
 simp only [z_viaductref10_Links_l0, T_ite, T_G, T_some, Sum.elim_inl, Sum.elim_inr, List.length_take]
 refine ⟨fun hi => ?_, fun hi => List.take_of_length_le (by omega)⟩
 and_intros <;> first | omega | exact (take_gtE h0 hi).symm
variable {N UF DF N' UF' DF' : List Int} {U D U' D' : List A4}
theorem p_rSame (h1 : N.length ≤ 1000000000000000) (h2 : UF.length ≤ 1000000000000000) (h3 : U.length ≤ 1000000000000000) (h4 : DF.length ≤ 1000000000000000) (h5 : D.length ≤ 1000000000000000) :
  z_viaductref10_Same N UF U DF D N' UF' U' DF' D' = some (decide (N = N' ∧ UF = UF' ∧ U = U' ∧ DF = DF' ∧ D = D')) := by
 unfold z_viaductref10_Same
 rw [p_rEqW h1, p_rEqW h2, p_rEqL h3, p_rEqW h4, p_rEqL h5]
 by_cases a1 : N = N' <;> by_cases a2 : UF = UF' <;> by_cases a3 : U = U' <;> by_cases a4 : DF = DF' <;> by_cases a5 : D = D' <;> simp [a1, a2, a3, a4, a5]
theorem p_rTwin (h1 : N.length ≤ 35184372088000) (h2 : UF.length ≤ 35184372088000) (h3 : U.length ≤ 5864062014700) (h4 : DF.length ≤ 35184372088000) (h5 : D.length ≤ 5864062014700) :
  z_viaductref10_Twin N UF U DF D = some (N, UF, U, DF, D) := by
 unfold z_viaductref10_Twin
 simp [p_Words h1, p_Words h2, p_Links h3, p_Words h4, p_Links h5]
end Go.Vd

/-! (HxF) -/

set_option linter.unusedVariables false
set_option linter.unusedSimpArgs false
set_option maxHeartbeats 2000000
namespace Go.Vd
variable {l N UF DF ranks : List Int} {U D : List B4} {k i r : Int} {all all' : List E7}
def trn (u d x : Int) : Int := if x = 4294967295 then x else if x < u then x + d else x - u
def tl (u d : Int) (x : B4) : B4 := (x.1, x.2.1, trn u d x.2.2.2, trn u d x.2.2.1)
theorem p_T1 {u d : Int} (i0 : 0 ≤ i) (i1 : i ≤ 4294967295) (u0 : 0 ≤ u) (u1 : u ≤ 1048576) (d0 : 0 ≤ d) (d1 : d ≤ 1048576) : z_hier_Turn_1 i u d = some (trn u d i) := by
 unfold z_hier_Turn_1 trn G
 by_cases h : i = 4294967295
 ·rw [if_pos h, if_pos h]
 ·rw [if_neg h, if_neg h]
  by_cases q : i < u
  ·rw [if_pos q, if_pos q, if_pos (by omega)]
  ·rw [if_neg q, if_neg q, if_pos (by omega)]
theorem p_num (sm : SmX N U D) (i0 : 0 ≤ i) (i1 : i ≤ 4294967295) : z_viaductref10_number N UF U DF D i = some (trn (U.length : Int) (D.length : Int) i) := by
 obtain ⟨n1, m1⟩ := sm
 unfold z_viaductref10_number trn G
 by_cases h : i = 4294967295
 ·rw [if_pos h, if_pos h]
 ·rw [if_neg h, if_neg h, if_pos (by omega)]
  by_cases q : i < (U.length : Int)
  ·rw [if_pos q, if_pos q, if_pos (by omega), if_pos (by omega), Int.add_comm]
  ·rw [if_neg q, if_neg q, if_pos (by omega), if_pos (by omega)]
theorem map_gt {f : B4 → B4} {L : List B4} {i : Int} (i0 : 0 ≤ i) (i1 : i < (L.length : Int)) : (L.take i.toNat).map f ++ [f (gt L i)] = (L.take (i + 1).toNat).map f := by
 rw [take_gtE i0 i1, List.map_append]; rfl
theorem p_T2 {L : List B4} {u d : Int} (hL : WL L) (hl : L.length ≤ 1048576) (u0 : 0 ≤ u) (u1 : u ≤ 1048576) (d0 : 0 ≤ d) (d1 : d ≤ 1048576) : z_hier_Turn_2 L u d = some (L.map (tl u d)) := by
 refine T_eq.1 ?_
 unfold z_hier_Turn_2
 rw [T_bind]
 refine T_loop (fun s => 0 ≤ s.2 ∧ s.2 ≤ (L.length : Int) ∧ s.1 = (L.take s.2.toNat).map (tl u d)) (fun s => ((L.length : Int) - s.2).toNat) ?_ (by simp)
 rintro ⟨m, i⟩ ⟨h0, h1, h2⟩
 dsimp only at h0 h1 h2 ⊢
 subst h2
 unfold z_hier_Turn_2_l0
 rw [T_ite]
 refine ⟨fun hi => ?_, fun hi => by simp only [T_some, Sum.elim_inr]; rw [List.take_of_length_le (by omega)]⟩
 obtain ⟨_, _, a, b⟩ := hL _ (gt_mem h0 hi)
 rw [T_G, p_T1 b.1 b.2 u0 u1 d0 d1, Option.bind_some, p_T1 a.1 a.2 u0 u1 d0 d1, Option.bind_some]
 simp only [T_G, T_some, Sum.elim_inl]
 have hm : ((L.take i.toNat).map (tl u d)).length = i.toNat := by rw [List.length_map, List.length_take]; omega
 exact ⟨h0, by omega, by omega, ⟨by omega, by omega, map_gt (f := tl u d) h0 hi⟩, by omega⟩
theorem p_tur (sm : SmX N U D) (hD : WL D) : z_viaductref10_turned N UF U DF D = some (D.map (tl (U.length : Int) (D.length : Int))) := by
 have sm' := sm
 obtain ⟨n1, m1⟩ := sm'
 refine T_eq.1 ?_
 unfold z_viaductref10_turned
 rw [T_bind]
 refine T_loop (fun s => 0 ≤ s.1 ∧ s.1 ≤ (D.length : Int) ∧ s.2 = (D.take s.1.toNat).map (tl (U.length : Int) (D.length : Int))) (fun s => ((D.length : Int) - s.1).toNat) ?_ (by simp)
 rintro ⟨i, m⟩ ⟨h0, h1, h2⟩
 dsimp only at h0 h1 h2 ⊢
 subst h2
 unfold z_viaductref10_turned_l0
 rw [T_ite]
 refine ⟨fun hi => ?_, fun hi => by simp only [T_some, Sum.elim_inr]; rw [List.take_of_length_le (by omega)]⟩
 obtain ⟨_, _, a, b⟩ := hD _ (gt_mem h0 hi)
 rw [T_G, p_num sm b.1 b.2, Option.bind_some, p_num sm a.1 a.2, Option.bind_some]
 simp only [T_G, T_some, Sum.elim_inl]
 have hm : ((D.take i.toNat).map (tl (U.length : Int) (D.length : Int))).length = i.toNat := by rw [List.length_map, List.length_take]; omega
 exact ⟨h0, by omega, by omega, ⟨by omega, by omega, map_gt (f := tl (U.length : Int) (D.length : Int)) h0 hi⟩, by omega⟩
theorem p_tur1 (sm : SmX N U D) (hU : WL U) : z_viaductref10_turned_1 N UF U DF D = some (U.map (tl (U.length : Int) (D.length : Int))) := by
 have sm' := sm
 obtain ⟨n1, m1⟩ := sm'
 refine T_eq.1 ?_
 unfold z_viaductref10_turned_1
 rw [T_bind]
 refine T_loop (fun s => 0 ≤ s.1 ∧ s.1 ≤ (U.length : Int) ∧ s.2 = (U.take s.1.toNat).map (tl (U.length : Int) (D.length : Int))) (fun s => ((U.length : Int) - s.1).toNat) ?_ (by simp)
 rintro ⟨i, m⟩ ⟨h0, h1, h2⟩
 dsimp only at h0 h1 h2 ⊢
 subst h2
 unfold z_viaductref10_turned_1_l0
 rw [T_ite]
 refine ⟨fun hi => ?_, fun hi => by simp only [T_some, Sum.elim_inr]; rw [List.take_of_length_le (by omega)]⟩
 obtain ⟨_, _, a, b⟩ := hU _ (gt_mem h0 hi)
 rw [T_G, p_num sm b.1 b.2, Option.bind_some, p_num sm a.1 a.2, Option.bind_some]
 simp only [T_G, T_some, Sum.elim_inl]
 have hm : ((U.take i.toNat).map (tl (U.length : Int) (D.length : Int))).length = i.toNat := by rw [List.length_map, List.length_take]; omega
 exact ⟨h0, by omega, by omega, ⟨by omega, by omega, map_gt (f := tl (U.length : Int) (D.length : Int)) h0 hi⟩, by omega⟩
theorem p_Clone {s : List Int} (h : s.length ≤ 10000000) : z_slices_Clone s = some s := by
 unfold z_slices_Clone G
 simp
 omega
theorem p_chk {er : Er} (e : z_hier_ends N UF U DF D = some (all, er)) : z_hier_Check N UF U DF D = some er := by
 unfold z_hier_Check; rw [e]; rfl
theorem p_hTurn {er : Er} (e : z_hier_ends N UF U DF D = some (all, er)) (hU : WL U) (hD : WL D) (g : er = .nil → SmX N U D ∧ LnX N UF DF) : z_hier_Turn N UF U DF D = some (if er = .nil then (N, DF, D.map (tl (U.length : Int) (D.length : Int)), UF, U.map (tl (U.length : Int) (D.length : Int)), .nil) else ([], [], [], [], [], er)) := by
 unfold z_hier_Turn
 rw [p_chk e, Option.bind_some]
 by_cases h : er = .nil
 ·obtain ⟨sm, ln⟩ := g h
  obtain ⟨n1, m1⟩ := sm
  obtain ⟨nU, nD⟩ := ln
  rw [if_pos h, if_pos h, p_Clone (by omega), p_Clone (by omega), p_Clone (by omega), p_T2 hD (by omega) (by omega) (by omega) (by omega) (by omega), p_T2 hU (by omega) (by omega) (by omega) (by omega) (by omega)]
  unfold G
  rw [if_pos (by omega), if_pos (by omega)]
  rfl
 ·rw [if_neg h, if_neg h]
theorem HierA.badC {er : Er} (h : HierA N UF U DF D er) : (er.code ≠ 0 ∨ er.pls ≠ []) ↔ er ≠ .nil := by
 cases h with
 | lim _ => simp [Er.code]
 | len _ _ => simp [Er.code]
 | up _ _ _ h _ => exact h.bad
 | dn _ _ _ _ h _ => exact h.bad
 | ord _ _ _ _ _ h _ => cases h <;> simp [Er.code, Er.pls]
 | lnk _ _ _ _ _ _ _ _ h => cases h <;> simp [Er.code, Er.pls]
theorem p_rDocTurn {er : Er} (e : z_viaductref10_DocCheck N UF U DF D = some (er.code, er.pls)) (hb : (er.code ≠ 0 ∨ er.pls ≠ []) ↔ er ≠ .nil) (hU : WL U) (hD : WL D) (g : er = .nil → SmX N U D ∧ LnX N UF DF) : z_viaductref10_DocTurn N UF U DF D = some (if er = .nil then (N, DF, D.map (tl (U.length : Int) (D.length : Int)), UF, U.map (tl (U.length : Int) (D.length : Int)), 0, []) else ([], [], [], [], [], er.code, er.pls)) := by
 unfold z_viaductref10_DocTurn
 rw [e, Option.bind_some, p_Bad, Option.bind_some]
 by_cases h : er = .nil
 ·obtain ⟨sm, ln⟩ := g h
  have sm' := sm
  obtain ⟨n1, m1⟩ := sm'
  obtain ⟨nU, nD⟩ := ln
  rw [if_neg (by simp only [decide_eq_true_iff]; exact fun q => hb.1 q h), if_pos h]
  unfold z_viaductref10_Turn
  rw [p_Words (by omega), p_Words (by omega), p_Words (by omega), p_tur sm hD, p_tur1 sm hU]
  rfl
 ·rw [if_pos (by simp only [decide_eq_true_iff]; exact hb.2 h), if_neg h]
def NR (N l : List Int) : Prop := (l.length : Int) = N.length ∧ ∀ r, 0 ≤ r → r < (N.length : Int) → gt l (gt N r) = r
theorem NR.uniq {l' : List Int} (od : OrdL N) (h : NR N l) (g : NR N l') (on : ∀ v, 0 ≤ v → v < (N.length : Int) → ∃ r, 0 ≤ r ∧ r < (N.length : Int) ∧ gt N r = v) : l = l' := by
 refine list_gtE (by have := h.1; have := g.1; omega) fun j j0 j1 => ?_
 have hl := h.1
 obtain ⟨r, r0, r1, rfl⟩ := on j j0 (by omega)
 rw [h.2 r r0 r1, g.2 r r0 r1]
theorem l0_same : z_hier_Ranks_l0 = z_viaductref10_DocRanks_l0 := by
 funext a b c
 unfold z_hier_Ranks_l0 z_viaductref10_DocRanks_l0
 rfl
theorem p_rkloop (od : OrdL N) (n1 : N.length ≤ 65536) : T (loopO (fun zz_ => z_hier_Ranks_l0 N zz_.1 zz_.2) (0, List.replicate N.length (0 : Int))) fun l => (l.length : Int) = N.length := by
 refine T_loop (fun z => 0 ≤ z.1 ∧ z.1 ≤ (N.length : Int) ∧ (z.2.length : Int) = N.length) (fun z => ((N.length : Int) - z.1).toNat) ?_ ⟨by simp, by simp, by simp⟩
 rintro ⟨i, l⟩ ⟨i0, i1, hl⟩
 dsimp only at *
 unfold z_hier_Ranks_l0
 simp only [T_ite, T_G, T_some, Sum.elim_inl, Sum.elim_inr]
 refine ⟨fun hi => ?_, fun hi => hl⟩
 obtain ⟨v0, v1⟩ := od.1 i i0 hi
 exact ⟨i0, by omega, by omega, ⟨by omega, by omega, by simpa using hl⟩, by omega⟩
theorem p_rksame {er : Er} (e : z_hier_ends N UF U DF D = some (all, er)) (e2 : z_viaductref10_DocCheck N UF U DF D = some (er.code, er.pls)) (hb : (er.code ≠ 0 ∨ er.pls ≠ []) ↔ er ≠ .nil) (g : er = .nil → SmX N U D ∧ OrdL N) : ∃ l, z_hier_Ranks N UF U DF D = some (l, er) ∧ z_viaductref10_DocRanks N UF U DF D = some (l, er.code, er.pls) ∧ l.length ≤ 65536 := by
 unfold z_hier_Ranks z_viaductref10_DocRanks
 rw [p_chk e, e2, Option.bind_some, Option.bind_some, p_Bad, Option.bind_some, ← l0_same]
 by_cases h : er = .nil
 ·obtain ⟨sm, od⟩ := g h
  obtain ⟨n1, m1⟩ := sm
  obtain ⟨l, h1, h2⟩ := p_rkloop od n1
  refine ⟨l, ?_, ?_, by omega⟩
  ·rw [if_pos h, h1]
   unfold G
   rw [if_pos (by omega), Option.bind_some, h]
  ·rw [if_neg (by simp only [decide_eq_true_iff]; exact fun q => hb.1 q h), h1]
   unfold G
   rw [if_pos (by omega), Option.bind_some, h]; rfl
 ·exact ⟨[], by rw [if_neg h], by rw [if_pos (by simp only [decide_eq_true_iff]; exact hb.2 h)], by simp⟩
end Go.Vd

/-! (PrSb) -/

set_option linter.unusedVariables false
set_option linter.unusedSimpArgs false
namespace Go.Vd
theorem p_gSameArcs {a b : List A3} (h : a.length ≤ 1152921504606846976) : z_viaductref03_SameArcs a b = some (decide (a = b)) := by
 refine T_eq.1 ?_
 unfold z_viaductref03_SameArcs
 simp only [T_ite, T_bind, T_some]
 refine ⟨fun hl => ?_, fun hl => (same_neE hl).symm⟩
 refine T_loop (fun i => 0 ≤ i ∧ i ≤ (a.length : Int) ∧ ∀ j : Int, 0 ≤ j → j < i → gt a j = gt b j) (fun i => ((a.length : Int) - i).toNat) ?_ ⟨by omega, by omega, fun j _ _ => by omega⟩
 rintro i ⟨h0, h1, h2⟩
 simp only [z_viaductref03_SameArcs_l0, T_ite, T_G, T_some, T_map, Sum.elim_inl, Sum.elim_inr]
 refine ⟨fun hi => ⟨h0, by omega, fun he => ⟨by omega, ⟨by omega, by omega, same_nextE h2 (eq3 he.1 he.2.1 he.2.2)⟩, by omega⟩, fun he => (same_atE fun k => he (by rw [k]; exact ⟨rfl, rfl, rfl⟩)).symm⟩, fun hi => (same_allE h2 hl (by omega)).symm⟩
end Go.Vd

/-! (PrSa) -/

set_option linter.unusedVariables false
set_option linter.unusedSimpArgs false
namespace Go.Vd
theorem p_gSame {n m : Int} {a b : List A3} (h : a.length ≤ 1152921504606846976) : z_viaductref03_Same n a m b = some (decide (n = m ∧ a = b)) := by
 unfold z_viaductref03_Same
 by_cases e : n = m
 ·rw [if_pos e, p_gSameArcs h]; simp [e]
 ·rw [if_neg e]; simp [e]
end Go.Vd

/-! (Nr0) -/

set_option linter.unusedVariables false
set_option linter.unusedSectionVars false
set_option linter.unusedSimpArgs false
namespace Go.Vd
def key2 (x y : Int × Int × Int) : Prop := x.1 = y.1 ∧ x.2.1 = y.2.1
instance (x y : Int × Int × Int) : Decidable (key2 x y) := by unfold key2; infer_instance
def ltk (x y : A3) : Prop := x.1 < y.1 ∨ (x.1 = y.1 ∧ x.2.1 < y.2.1)
structure Nrm (A L : List A3) : Prop where
 inc : L.Pairwise ltk
 sub : ∀ a ∈ L, a ∈ A ∧ a.1 ≠ a.2.1 ∧ ∀ b ∈ A, key2 b a → a.2.2 ≤ b.2.2
 sup : ∀ a ∈ A, a.1 ≠ a.2.1 → ∃ b ∈ L, key2 b a
theorem sorted_eq : ∀ {L M : List A3}, L.Pairwise ltk → M.Pairwise ltk → (∀ x, x ∈ L ↔ x ∈ M) → L = M := by
 intro L
 induction L with
 | nil =>
  intro M _ _ h
  cases M with
  | nil => rfl
  | cons b M => have := (h b).2 (List.mem_cons_self ..); cases this
 | cons a L ih =>
  intro M hL hM h
  cases M with
  | nil => have := (h a).1 (List.mem_cons_self ..); cases this
  | cons b M =>
   have hab : a = b := by
    rcases List.mem_cons.1 ((h a).1 (List.mem_cons_self ..)) with h1 | h1
    ·exact h1
    ·rcases List.mem_cons.1 ((h b).2 (List.mem_cons_self ..)) with h2 | h2
     ·exact h2.symm
     ·have k1 := (List.pairwise_cons.1 hM).1 a h1
      have k2 := (List.pairwise_cons.1 hL).1 b h2
      unfold ltk at k1 k2
      omega
   subst hab
   rw [ih (List.pairwise_cons.1 hL).2 (List.pairwise_cons.1 hM).2 fun x => ⟨fun hx => ?_, fun hx => ?_⟩]
   ·rcases List.mem_cons.1 ((h x).1 (List.mem_cons_of_mem _ hx)) with rfl | h1
    ·have := (List.pairwise_cons.1 hL).1 x hx
     unfold ltk at this; omega
    ·exact h1
   ·rcases List.mem_cons.1 ((h x).2 (List.mem_cons_of_mem _ hx)) with rfl | h1
    ·have := (List.pairwise_cons.1 hM).1 x hx
     unfold ltk at this; omega
    ·exact h1
theorem inc_tri {L : List A3} (h : L.Pairwise ltk) : ∀ x ∈ L, ∀ y ∈ L, x = y ∨ ltk x y ∨ ltk y x := by
 induction L with
 | nil => intro x hx; cases hx
 | cons a L ih =>
  intro x hx y hy
  obtain ⟨h1, h2⟩ := List.pairwise_cons.1 h
  rcases List.mem_cons.1 hx with ex | hx'
  ·rcases List.mem_cons.1 hy with ey | hy'
   ·exact .inl (ex.trans ey.symm)
   ·rw [ex]; exact .inr (.inl (h1 y hy'))
  ·rcases List.mem_cons.1 hy with ey | hy'
   ·rw [ey]; exact .inr (.inr (h1 x hx'))
   ·exact ih h2 x hx' y hy'
theorem inc_key {L : List A3} (h : L.Pairwise ltk) {x y : A3} (hx : x ∈ L) (hy : y ∈ L) (k : key2 x y) : x = y := by
 rcases inc_tri h x hx y hy with h | h | h
 ·exact h
 ·unfold ltk at h; unfold key2 at k; omega
 ·unfold ltk at h; unfold key2 at k; omega
theorem Nrm.mem {A L M : List A3} (h : Nrm A L) (k : Nrm A M) {x : A3} (hx : x ∈ L) : x ∈ M := by
 obtain ⟨h1, h2, h3⟩ := h.sub x hx
 obtain ⟨b, b1, b2⟩ := k.sup x h1 h2
 obtain ⟨k1, k2, k3⟩ := k.sub b b1
 have e1 := h3 b k1 b2
 have e2 := k3 x h1 ⟨b2.1.symm, b2.2.symm⟩
 have : x = b := eq3 b2.1.symm b2.2.symm (by omega)
 rw [this]; exact b1
theorem Nrm.uniq {A L M : List A3} (h : Nrm A L) (k : Nrm A M) : L = M :=
 sorted_eq h.inc k.inc fun x => ⟨h.mem k, k.mem h⟩
theorem Nrm.self {A L : List A3} (h : Nrm A L) : Nrm L L :=
 ⟨h.inc, fun a ha => ⟨ha, (h.sub a ha).2.1, fun b hb k => by rw [inc_key h.inc hb ha k]; exact Int.le_refl _⟩, fun a ha _ => ⟨a, ha, rfl, rfl⟩⟩
end Go.Vd

/-! (PrP0) -/

set_option linter.unusedVariables false
set_option linter.unusedSectionVars false
set_option linter.unusedSimpArgs false
namespace Go.Vd
variable {N : Int} {A L : List A3}
instance (x y : A3) : Decidable (ltk x y) := by unfold ltk; exact inferInstance
inductive PutA : List A3 → A3 → List A3 → Prop
 | hit (p q : List A3) (b a : A3) : key2 b a → PutA (p ++ b :: q) a (p ++ (a.1, a.2.1, min a.2.2 b.2.2) :: q)
 | new (p q : List A3) (a : A3) : (∀ x ∈ p, ltk x a) → (∀ x ∈ q, ltk a x) → PutA (p ++ q) a (p ++ a :: q)
theorem p_less {x a : A3} : z_viaductref04_less x.1 x.2.1 x.2.2 a.1 a.2.1 a.2.2 = some (decide (ltk x a)) := by
 unfold z_viaductref04_less ltk
 by_cases h : x.1 < a.1
 ·rw [if_pos h]; simp [h]
 ·rw [if_neg h]
  by_cases h2 : x.1 = a.1
  ·rw [if_pos h2]; simp [h2]
  ·rw [if_neg h2]; simp [h, h2]
theorem split_gt {o : Int} (o0 : 0 ≤ o) (o1 : o < (L.length : Int)) : L.drop o.toNat = gt L o :: L.drop (o + 1).toNat := by
 rw [List.drop_eq_getElem_cons (i := o.toNat) (by omega), show (o + 1).toNat = o.toNat + 1 from by omega]
 congr 1
 have h : gt L ((o.toNat : Nat) : Int) = L[o.toNat] := gt_nat (by omega)
 rw [← h]; congr 1; omega
theorem p_Put {a : A3} (hL : L.Pairwise ltk) (hl : L.length ≤ 300000) : T (z_viaductref04_Put L a.1 a.2.1 a.2.2) fun r => PutA L a r ∧ r.length ≤ L.length + 1 := by
 unfold z_viaductref04_Put
 refine T_bindr (fun o => 0 ≤ o ∧ o ≤ (L.length : Int) ∧ (∀ j, 0 ≤ j → j < o → ltk (gt L j) a) ∧ (o < (L.length : Int) → ¬ ltk (gt L o) a)) ?_ ?_
 ·refine T_loop (fun i => 0 ≤ i ∧ i ≤ (L.length : Int) ∧ ∀ j, 0 ≤ j → j < i → ltk (gt L j) a) (fun i => ((L.length : Int) - i).toNat) ?_ ⟨by omega, by omega, fun j _ _ => by omega⟩
  rintro i ⟨i0, i1, hi⟩
  unfold z_viaductref04_Put_l0
  rw [p_less, Option.bind_some]
  simp only [T_ite, T_G, T_some, Sum.elim_inl, Sum.elim_inr, decide_eq_true_eq]
  refine ⟨fun h => ⟨i0, fun k => ⟨by omega, ⟨by omega, by omega, fun j j0 j1 => ?_⟩, by omega⟩, fun k => ⟨i0, i1, hi, fun _ => k⟩⟩, fun h => ⟨i0, i1, hi, fun k => absurd k h⟩⟩
  by_cases e : j = i
  ·rw [e]; exact k
  ·exact hi j j0 (by omega)
 ·rintro o ⟨o0, o1, h1, h2⟩
  simp only [List.drop_zero, List.take_length, List.nil_append]
  rw [T_G, T_G]
  refine ⟨⟨o0, o1⟩, by rw [List.length_take]; omega, ?_⟩
  refine T_bindr (fun b => b = true ↔ (o < (L.length : Int) ∧ key2 (gt L o) a)) ?_ fun b hb => ?_
  ·unfold key2
   simp only [T_ite, T_G, T_some, decide_eq_true_eq]
   exact ⟨fun h => ⟨o0, fun k => by simp [h, k], fun k => by simp [k]⟩, fun h => by simp; omega⟩
  have hp : ∀ x ∈ L.take o.toNat, ltk x a := fun x hx => by
   obtain ⟨j, j0, j1, rfl⟩ := mem_gtE hx
   rw [List.length_take] at j1
   have : gt (L.take o.toNat) j = gt L j := by
    unfold gt
    rw [List.getD_eq_getElem?_getD, List.getD_eq_getElem?_getD, List.getElem?_take, if_pos (by omega)]
   rw [this]
   exact h1 j j0 (by omega)
  have eL : L.take o.toNat ++ L.drop o.toNat = L := List.take_append_drop _ _
  rw [T_ite]
  refine ⟨fun h => ?_, fun h => ?_⟩
  ·obtain ⟨k1, k2⟩ := hb.1 h
   simp only [T_G, T_some, List.length_append, List.length_take, List.length_drop, List.length_cons, List.length_nil]
   refine ⟨⟨o0, k1⟩, by omega, by omega, by omega, by omega, ?_, by omega⟩
   have := PutA.hit (L.take o.toNat) (L.drop (o + 1).toNat) (gt L o) a k2
   rw [← split_gt o0 k1, eL] at this
   simpa using this
  ·have hn : ¬ (o < (L.length : Int) ∧ key2 (gt L o) a) := fun k => h (hb.2 k)
   simp only [T_G, T_some, List.length_append, List.length_take, List.length_drop, List.length_cons, List.length_nil]
   refine ⟨by omega, by omega, ?_, by omega⟩
   have hq : ∀ x ∈ L.drop o.toNat, ltk a x := by
    by_cases k : o < (L.length : Int)
    ·have h3 := h2 k
     have h4 : ltk a (gt L o) := by
      have : ¬ key2 (gt L o) a := fun q => hn ⟨k, q⟩
      unfold ltk key2 at *; omega
     have h5 : (L.drop o.toNat).Pairwise ltk := hL.sublist (List.drop_sublist _ _)
     rw [split_gt o0 k] at h5 ⊢
     intro x hx
     rcases List.mem_cons.1 hx with rfl | hx
     ·exact h4
     ·have := (List.pairwise_cons.1 h5).1 x hx
      unfold ltk at *; omega
    ·rw [List.drop_of_length_le (by omega)]; intro x hx; cases hx
   have := PutA.new (L.take o.toNat) (L.drop o.toNat) a hp hq
   rw [eL] at this
   simpa using this
theorem key2_m {a : A3} {m : Int} : key2 (a.1, a.2.1, m) a := ⟨rfl, rfl⟩
theorem PutA.nrm {A L r : List A3} {a : A3} (h : PutA L a r) (k : Nrm A L) (hn : a.1 ≠ a.2.1) : Nrm (A ++ [a]) r := by
 have mA : ∀ c, c ∈ A ++ [a] ↔ (c ∈ A ∨ c = a) := fun c => by simp
 cases h with
 | hit p q b _ kb =>
  have inc := k.inc
  obtain ⟨i1, i2, i3⟩ := List.pairwise_append.1 inc
  obtain ⟨i4, i5⟩ := List.pairwise_cons.1 i2
  have kab : b.1 = a.1 ∧ b.2.1 = a.2.1 := kb
  have hbL : b ∈ p ++ b :: q := by simp
  obtain ⟨b1, b2, b3⟩ := k.sub b hbL
  refine ⟨List.pairwise_append.2 ⟨i1, List.pairwise_cons.2 ⟨fun x hx => ?_, i5⟩, fun x hx y hy => ?_⟩, fun x hx => ?_, fun c hc hcn => ?_⟩
  ·have := i4 x hx; unfold ltk at *; dsimp only; omega
  ·rcases List.mem_cons.1 hy with rfl | hy
   ·have := i3 x hx b (List.mem_cons_self ..); unfold ltk at *; dsimp only; omega
   ·exact i3 x hx y (List.mem_cons_of_mem _ hy)
  ·have old : x ∈ p ∨ x ∈ q → x ∈ A ++ [a] ∧ x.1 ≠ x.2.1 ∧ ∀ c ∈ A ++ [a], key2 c x → x.2.2 ≤ c.2.2 := fun hx => by
    have hxL : x ∈ p ++ b :: q := by rcases hx with h | h <;> simp [h]
    have hk : ¬ key2 a x := by
     intro hk
     rcases hx with h | h
     ·have := i3 x h b (List.mem_cons_self ..); unfold ltk key2 at *; omega
     ·have := i4 x h; unfold ltk key2 at *; omega
    obtain ⟨x1, x2, x3⟩ := k.sub x hxL
    refine ⟨(mA x).2 (.inl x1), x2, fun c hc hk2 => ?_⟩
    rcases (mA c).1 hc with hc | rfl
    ·exact x3 c hc hk2
    ·exact absurd hk2 hk
   rcases List.mem_append.1 hx with h | h
   ·exact old (.inl h)
   ·rcases List.mem_cons.1 h with rfl | h
    ·refine ⟨(mA _).2 ?_, hn, fun c hc hk2 => ?_⟩
     ·by_cases hle : a.2.2 ≤ b.2.2
      ·right; rw [Int.min_eq_left hle]
      ·left
       rw [Int.min_eq_right (by omega)]
       have : ((a.1, a.2.1, b.2.2) : A3) = b := eq3 kab.1.symm kab.2.symm rfl
       rw [this]; exact b1
     ·rcases (mA c).1 hc with hc | rfl
      ·have := b3 c hc (by unfold key2 at *; dsimp only at hk2; omega)
       dsimp only; omega
      ·dsimp only; omega
    ·exact old (.inr h)
  ·have new : ∃ y ∈ p ++ (a.1, a.2.1, min a.2.2 b.2.2) :: q, key2 y a := ⟨(a.1, a.2.1, min a.2.2 b.2.2), List.mem_append.2 (.inr (List.mem_cons_self ..)), key2_m⟩
   rcases (mA c).1 hc with hc | rfl
   ·obtain ⟨y, hy, hk⟩ := k.sup c hc hcn
    rcases List.mem_append.1 hy with h | h
    ·exact ⟨y, by simp [h], hk⟩
    ·rcases List.mem_cons.1 h with rfl | h
     ·obtain ⟨z, hz, hz2⟩ := new
      exact ⟨z, hz, by unfold key2 at *; omega⟩
     ·exact ⟨y, by simp [h], hk⟩
   ·exact new
 | new p q _ h1 h2 =>
  have inc := k.inc
  obtain ⟨i1, i2, i3⟩ := List.pairwise_append.1 inc
  refine ⟨List.pairwise_append.2 ⟨i1, List.pairwise_cons.2 ⟨h2, i2⟩, fun x hx y hy => ?_⟩, fun x hx => ?_, fun c hc hcn => ?_⟩
  ·rcases List.mem_cons.1 hy with rfl | hy
   ·exact h1 x hx
   ·exact i3 x hx y hy
  ·have old : x ∈ p ∨ x ∈ q → x ∈ A ++ [a] ∧ x.1 ≠ x.2.1 ∧ ∀ c ∈ A ++ [a], key2 c x → x.2.2 ≤ c.2.2 := fun hx => by
    have hxL : x ∈ p ++ q := by rcases hx with h | h <;> simp [h]
    have hk : ¬ key2 a x := by
     intro hk
     rcases hx with h | h
     ·have := h1 x h; unfold ltk key2 at *; omega
     ·have := h2 x h; unfold ltk key2 at *; omega
    obtain ⟨x1, x2, x3⟩ := k.sub x hxL
    refine ⟨(mA x).2 (.inl x1), x2, fun c hc hk2 => ?_⟩
    rcases (mA c).1 hc with hc | rfl
    ·exact x3 c hc hk2
    ·exact absurd hk2 hk
   rcases List.mem_append.1 hx with h | h
   ·exact old (.inl h)
   ·rcases List.mem_cons.1 h with rfl | h
    ·refine ⟨(mA _).2 (.inr rfl), hn, fun c hc hk2 => ?_⟩
     rcases (mA c).1 hc with hc | rfl
     ·exfalso
      obtain ⟨y, hy, hk⟩ := k.sup c hc (by unfold key2 at hk2; omega)
      rcases List.mem_append.1 hy with h | h
      ·have := h1 y h; unfold ltk key2 at *; omega
      ·have := h2 y h; unfold ltk key2 at *; omega
     ·omega
    ·exact old (.inr h)
  ·rcases (mA c).1 hc with hc | rfl
   ·obtain ⟨y, hy, hk⟩ := k.sup c hc hcn
    rcases List.mem_append.1 hy with h | h
    ·exact ⟨y, by simp [h], hk⟩
    ·exact ⟨y, by simp [h], hk⟩
   ·exact ⟨c, by simp, rfl, rfl⟩
theorem Nrm.loop {a : A3} (k : Nrm A L) (hn : a.1 = a.2.1) : Nrm (A ++ [a]) L := by
 have mA : ∀ c, c ∈ A ++ [a] ↔ (c ∈ A ∨ c = a) := fun c => by simp
 refine ⟨k.inc, fun x hx => ?_, fun c hc hcn => ?_⟩
 ·obtain ⟨x1, x2, x3⟩ := k.sub x hx
  refine ⟨(mA x).2 (.inl x1), x2, fun c hc hk => ?_⟩
  rcases (mA c).1 hc with hc | rfl
  ·exact x3 c hc hk
  ·unfold key2 at hk; omega
 ·rcases (mA c).1 hc with hc | rfl
  ·exact k.sup c hc hcn
  ·exact absurd hn hcn
theorem Nrm.zero : Nrm [] [] := { inc := .nil, sub := fun a h => (by cases h), sup := fun a h => (by cases h) }
end Go.Vd

/-! (PrR0) -/

set_option linter.unusedVariables false
set_option linter.unusedSectionVars false
set_option linter.unusedSimpArgs false
namespace Go.Vd
variable {N : Int} {A L : List A3}
theorem p_rOf (hl : (A.length : Int) ≤ 262144) : T (z_viaductref04_Of N A) fun r => r.1 = N ∧ Nrm A r.2 ∧ r.2.length ≤ A.length := by
 unfold z_viaductref04_Of
 refine T_bindr (fun c => Nrm A c ∧ c.length ≤ A.length) ?_ fun c hc => by simp only [T_some]; exact ⟨trivial, hc⟩
 refine T_loop (fun z => 0 ≤ z.1 ∧ z.1 ≤ (A.length : Int) ∧ Nrm (A.take z.1.toNat) z.2 ∧ (z.2.length : Int) ≤ z.1) (fun z => ((A.length : Int) - z.1).toNat) ?_ ⟨by simp, by simp, by simpa using Nrm.zero, by simp⟩
 rintro ⟨i, c⟩ ⟨i0, i1, hc, hlc⟩
 dsimp only at *
 unfold z_viaductref04_Of_l0
 rw [T_ite]
 refine ⟨fun hlt => ?_, fun hge => ?_⟩
 rotate_left
 ·simp only [T_some, Sum.elim_inr]
  rw [List.take_of_length_le (by omega)] at hc
  exact ⟨hc, by omega⟩
 rw [T_G, T_ite]
 refine ⟨i0, fun h => ?_, fun h => ?_⟩
 ·simp only [T_G, T_some, Sum.elim_inl]
  refine ⟨by omega, ⟨by omega, by omega, ?_, by omega⟩, by omega⟩
  rw [take_gtE i0 hlt]; exact hc.loop h
 ·refine T_bindr _ (p_Put hc.inc (by omega)) ?_
  rintro r ⟨hr, hrl⟩
  simp only [T_G, T_some, Sum.elim_inl]
  refine ⟨by omega, ⟨by omega, by omega, ?_, by omega⟩, by omega⟩
  rw [take_gtE i0 hlt]; exact hr.nrm hc h
end Go.Vd

/-! (HxG) -/

set_option linter.unusedVariables false
set_option linter.unusedSimpArgs false
set_option maxHeartbeats 2000000
namespace Go.Vd
variable {l N UF DF ranks : List Int} {U D : List B4} {k i j r : Int} {all all' : List E7}
structure InF (N UF : List Int) (U : List B4) (DF : List Int) (D : List B4) (all : List E7) : Prop where
 sm : SmX N U D
 ln : LnX N UF DF
 fU : Fst UF (U.length : Int)
 fD : Fst DF (D.length : Int)
 od : OrdL N
 X : AllX UF DF U D all
 sh : ∀ j, 0 ≤ j → j < (all.length : Int) → ShpX N U all j
 wg : ∀ j, 0 ≤ j → j < (all.length : Int) → WgtX all j
theorem InF.mid (h : InF N UF U DF D all) {m : Int} (im : i ≤ m) (mj : m ≤ j) (side : j < (U.length : Int) ∨ (U.length : Int) ≤ i) (h1 : RkX UF DF U i r) (h2 : RkX UF DF U j r) : RkX UF DF U m r := by
 unfold RkX at *
 rcases side with s | s
 ·rw [if_pos (by omega)] at *
  obtain ⟨a, b, c, d⟩ := h1
  obtain ⟨_, _, _, d'⟩ := h2
  exact ⟨a, b, by omega, by omega⟩
 ·rw [if_neg (by omega)] at *
  obtain ⟨a, b, c, d⟩ := h1
  obtain ⟨_, _, _, d'⟩ := h2
  exact ⟨a, b, by omega, by omega⟩
theorem InF.rank (h : InF N UF U DF D all) (i0 : 0 ≤ i) (i1 : i < (all.length : Int)) (h1 : RkX UF DF U i r) : gt all i = e7 U D i r := by
 obtain ⟨r', a, b⟩ := h.X.at' i i0 i1
 rw [b, RkX.uniq h.fU h.fD a h1]
theorem InF.rise (h : InF N UF U DF D all) (i0 : 0 ≤ i) (ij : i < j) (j1 : j < (all.length : Int)) (side : j < (U.length : Int) ∨ (U.length : Int) ≤ i) (h1 : RkX UF DF U i r) (h2 : RkX UF DF U j r) : (gt all i).1 < (gt all j).1 := by
 have key : ∀ n : Nat, i + n ≤ j → (gt all i).1 + n ≤ (gt all (i + n)).1 := by
  intro n
  induction n with
  | zero => intro _; simp
  | succ n ih =>
   intro hn
   have a := ih (by omega)
   have e1 := h.rank (i := i + n) (by omega) (by omega) (h.mid (m := i + n) (by omega) (by omega) side h1 h2)
   have e2 := h.rank (i := i + n + 1) (by omega) (by omega) (h.mid (m := i + n + 1) (by omega) (by omega) side h1 h2)
   have q := (h.sh (i + n + 1) (by omega) (by omega)).2.2.1
   rw [show i + (n : Int) + 1 - 1 = i + n from by omega] at q
   have q' : ¬ (gt all (i + n)).1 ≥ (gt all (i + n + 1)).1 := fun z => q ⟨by omega, by rcases side with s | s <;> omega, by rw [e1, e2]; rfl, z⟩
   rw [show i + ((n + 1 : Nat) : Int) = i + n + 1 from by omega]
   omega
 have := key (j - i).toNat (by omega)
 rw [show i + ((j - i).toNat : Int) = j from by omega] at this
 omega
def tlE (x : E7) : Int := x.2.2.2.2.1
def hdE (x : E7) : Int := x.2.2.2.2.2.1
theorem InF.ends (h : InF N UF U DF D all) (i0 : 0 ≤ i) (i1 : i < (all.length : Int)) : ∃ r, RkX UF DF U i r ∧ 0 ≤ r ∧ r < (gt all i).1 ∧ (gt all i).1 < (N.length : Int) ∧ ((i < (U.length : Int) ∧ tlE (gt all i) = r ∧ hdE (gt all i) = (gt all i).1) ∨ ((U.length : Int) ≤ i ∧ tlE (gt all i) = (gt all i).1 ∧ hdE (gt all i) = r)) := by
 obtain ⟨r, a, b⟩ := h.X.at' i i0 i1
 obtain ⟨s1, s2, _⟩ := h.sh i i0 i1
 obtain ⟨r0, r1⟩ := a.rng h.ln.1 h.ln.2
 refine ⟨r, a, r0, ?_, s1, ?_⟩
 ·rw [b] at s2 ⊢; exact s2
 ·rw [b]
  unfold tlE hdE e7
  by_cases q : i < (U.length : Int)
  ·exact .inl ⟨q, by simp [q], by simp [q]⟩
  ·exact .inr ⟨by omega, by simp [q], by simp [q]⟩
theorem InF.key (h : InF N UF U DF D all) (i0 : 0 ≤ i) (ij : i < j) (j1 : j < (all.length : Int)) : ¬ (tlE (gt all i) = tlE (gt all j) ∧ hdE (gt all i) = hdE (gt all j)) := by
 rintro ⟨e1, e2⟩
 obtain ⟨r, a1, a2, a3, a4, a5⟩ := h.ends i0 (by omega)
 obtain ⟨q, b1, b2, b3, b4, b5⟩ := h.ends (i := j) (by omega) j1
 rcases a5 with ⟨c1, c2, c3⟩ | ⟨c1, c2, c3⟩ <;> rcases b5 with ⟨d1, d2, d3⟩ | ⟨d1, d2, d3⟩
 ·have : r = q := by omega
  subst this
  have := h.rise i0 ij j1 (.inl d1) a1 b1
  omega
 ·omega
 ·omega
 ·have : r = q := by omega
  subst this
  have := h.rise i0 ij j1 (.inr c1) a1 b1
  omega
instance : Decidable (PlX all i) := by unfold PlX; exact inferInstance
def ar (N : List Int) (x : E7) : A3 := (gt N (tlE x), gt N (hdE x), x.2.1)
def ga (N : List Int) (all : List E7) : Nat → List A3
 | 0 => []
 | k + 1 => ga N all k ++ if PlX all (k : Int) then [ar N (gt all (k : Int))] else []
theorem ga_mem {x : A3} {m : Nat} (h : x ∈ ga N all m) : ∃ i : Int, 0 ≤ i ∧ i < m ∧ PlX all i ∧ x = ar N (gt all i) := by
 induction m with
 | zero => cases h
 | succ m ih =>
  rcases List.mem_append.1 h with h | h
  ·obtain ⟨i, a, b, c⟩ := ih h; exact ⟨i, a, by omega, c⟩
  ·by_cases q : PlX all (m : Int)
   ·rw [if_pos q] at h
    obtain rfl := List.mem_singleton.1 h
    exact ⟨m, by omega, by omega, q, rfl⟩
   ·rw [if_neg q] at h; cases h
theorem ga_len (m : Nat) : (ga N all m).length ≤ m := by
 induction m with
 | zero => simp [ga]
 | succ m ih => simp only [ga, List.length_append]; split <;> simp <;> omega
theorem InF.arne (h : InF N UF U DF D all) (i0 : 0 ≤ i) (ij : i < j) (j1 : j < (all.length : Int)) : ¬ key2 (ar N (gt all i)) (ar N (gt all j)) := by
 rintro ⟨e1, e2⟩
 obtain ⟨r, a1, a2, a3, a4, a5⟩ := h.ends i0 (by omega)
 obtain ⟨q, b1, b2, b3, b4, b5⟩ := h.ends (i := j) (by omega) j1
 refine h.key i0 ij j1 ⟨h.od.2 _ _ ?_ ?_ ?_ ?_ e1, h.od.2 _ _ ?_ ?_ ?_ ?_ e2⟩ <;> omega
theorem InF.noloop (h : InF N UF U DF D all) (i0 : 0 ≤ i) (i1 : i < (all.length : Int)) : (ar N (gt all i)).1 ≠ (ar N (gt all i)).2.1 := by
 intro e
 obtain ⟨r, a1, a2, a3, a4, a5⟩ := h.ends i0 i1
 have := h.od.2 (tlE (gt all i)) (hdE (gt all i)) (by omega) (by omega) (by omega) (by omega) e
 omega
theorem InF.uniq (h : InF N UF U DF D all) {x y : A3} (hx : x ∈ ga N all all.length) (hy : y ∈ ga N all all.length) (k : key2 x y) : x = y := by
 obtain ⟨i, i0, i1, _, rfl⟩ := ga_mem hx
 obtain ⟨j, j0, j1, _, rfl⟩ := ga_mem hy
 rcases Int.lt_trichotomy i j with q | q | q
 ·exact absurd k (h.arne i0 q j1)
 ·rw [q]
 ·exact absurd ⟨k.1.symm, k.2.symm⟩ (h.arne j0 q i1)
theorem InF.nd (h : InF N UF U DF D all) : ∀ m : Nat, m ≤ all.length → (ga N all m).Nodup := by
 intro m
 induction m with
 | zero => intro _; exact List.nodup_nil
 | succ m ih =>
  intro hm
  refine List.nodup_append.2 ⟨ih (by omega), ?_, fun x hx y hy => ?_⟩
  ·split <;> simp
  ·by_cases q : PlX all (m : Int)
   ·rw [if_pos q] at hy
    obtain rfl := List.mem_singleton.1 hy
    obtain ⟨i, i0, i1, _, rfl⟩ := ga_mem hx
    intro e
    exact h.arne i0 i1 (by omega) (by rw [e]; exact ⟨rfl, rfl⟩)
   ·rw [if_neg q] at hy; cases hy
noncomputable abbrev cG : A3 → A3 → Option Int := fun a_ b_ => z_hier_Graph_1 a_.1 a_.2.1 a_.2.2 b_.1 b_.2.1 b_.2.2
theorem InF.rng (h : InF N UF U DF D all) (hN : W32 N) {x : A3} (hx : x ∈ ga N all all.length) : -4294967296 ≤ x.1 ∧ x.1 ≤ 4294967296 ∧ -4294967296 ≤ x.2.1 ∧ x.2.1 ≤ 4294967296 := by
 obtain ⟨i, i0, i1, _, rfl⟩ := ga_mem hx
 obtain ⟨r, a1, a2, a3, a4, a5⟩ := h.ends i0 i1
 have q1 := hN _ (gt_mem (xs := N) (i := tlE (gt all i)) (by omega) (by omega))
 have q2 := hN _ (gt_mem (xs := N) (i := hdE (gt all i)) (by omega) (by omega))
 unfold ar
 dsimp only
 omega
theorem InF.on (h : InF N UF U DF D all) (hN : W32 N) : SortOn cG (ga N all all.length) := sort_small (fun x hx => h.rng hN hx) fun x hx y hy e1 e2 => h.uniq hx hy ⟨e1, e2⟩
theorem InF.nrm (h : InF N UF U DF D all) (hN : W32 N) : Nrm (ga N all all.length) (sortL cG (ga N all all.length)) := by
 have pm := sortL_perm cG (ga N all all.length)
 have mem : ∀ x, x ∈ sortL cG (ga N all all.length) ↔ x ∈ ga N all all.length := fun x => pm.mem_iff
 refine ⟨?_, fun a ha => ?_, fun a ha _ => ⟨a, (mem a).2 ha, rfl, rfl⟩⟩
 ·have p1 := sortL_sortedOn (h.on hN)
  have p2 : (sortL cG (ga N all all.length)).Nodup := pm.nodup_iff.2 (h.nd _ (Nat.le_refl _))
  refine (p1.and p2).imp_of_mem fun {x y} hx hy q => ?_
  obtain ⟨q1, q2⟩ := q
  have bx := h.rng hN ((mem x).1 hx)
  have by' := h.rng hN ((mem y).1 hy)
  unfold cG at q1
  rw [g1_small by' bx] at q1
  unfold ltk
  by_cases e : y.1 = x.1
  ·rw [if_pos e] at q1
   simp only [Option.getD_some] at q1
   by_cases e2 : y.2.1 = x.2.1
   ·exact absurd (h.uniq ((mem x).1 hx) ((mem y).1 hy) ⟨e.symm, e2.symm⟩) q2
   ·omega
  ·rw [if_neg e] at q1
   simp only [Option.getD_some] at q1
   omega
 ·have ha' := (mem a).1 ha
  refine ⟨ha', ?_, fun b hb k => by rw [h.uniq hb ha' k]; exact Int.le_refl _⟩
  obtain ⟨i, i0, i1, _, rfl⟩ := ga_mem ha'
  exact h.noloop i0 i1
end Go.Vd

/-! (PrHy) -/

set_option linter.unusedVariables false
set_option linter.unusedSimpArgs false
set_option maxHeartbeats 4000000
namespace Go.Vd
variable {l N UF DF ranks : List Int} {U D : List B4} {k i j r : Int} {all all' : List E7}
theorem p_count (h : U.length + D.length ≤ 100000000000000) : z_viaductref10_Count N UF U DF D = some ((U.length : Int) + D.length) := by
 unfold z_viaductref10_Count G; rw [if_pos (by omega)]
theorem ga_next (i0 : 0 ≤ i) : ga N all (i + 1).toNat = ga N all i.toNat ++ if PlX all i then [ar N (gt all i)] else [] := by
 rw [show (i + 1).toNat = i.toNat + 1 from by omega]
 simp only [ga]
 rw [show ((i.toNat : Nat) : Int) = i from by omega]
theorem p_hGraph (h : InF N UF U DF D all) (hN : W32 N) (hU : WL U) (hD : WL D) (e : z_hier_ends N UF U DF D = some (all, .nil)) : z_hier_Graph N UF U DF D = some ((N.length : Int), sortL cG (ga N all all.length), .nil) := by
 have hl := h.X.len
 obtain ⟨n1, m1⟩ := h.sm
 refine T_eq.1 ?_
 unfold z_hier_Graph
 rw [e, Option.bind_some, if_pos rfl]
 refine T_bindr (fun o => o = ga N all all.length) ?_ ?_
 ·refine T_loop (fun z => 0 ≤ z.1 ∧ z.1 ≤ (all.length : Int) ∧ z.2 = ga N all z.1.toNat) (fun z => ((all.length : Int) - z.1).toNat) ?_ ⟨by simp, by simp, rfl⟩
  rintro ⟨i, g⟩ ⟨i0, i1, hg⟩
  dsimp only at i0 i1 hg
  subst hg
  unfold z_hier_Graph_l0
  dsimp only
  rw [T_ite]
  refine ⟨fun hi => ?_, fun hi => by simp only [T_some, Sum.elim_inr]; rw [show i.toNat = all.length from by omega]⟩
  obtain ⟨r, a1, a2, a3, a4, a5⟩ := h.ends i0 hi
  have hg := ga_len (N := N) (all := all) i.toNat
  have q1 := hN _ (gt_mem (xs := N) (i := tlE (gt all i)) (by omega) (by omega))
  have q2 := hN _ (gt_mem (xs := N) (i := hdE (gt all i)) (by omega) (by omega))
  have sA := (h.X.s h.ln.1 h.ln.2).rng hU hD i0 hi
  rw [T_G, p_plain, Option.bind_some, T_ite]
  refine ⟨i0, fun hp => ?_, fun hp => ?_⟩
  ·have hp' : PlX all i := of_decide_eq_true hp
   have hw := (h.wg i i0 hi).1 hp'
   simp only [T_G, T_some, Sum.elim_inl]
   unfold tlE at q1 a5
   unfold hdE at q2 a5
   refine ⟨by omega, by omega, by omega, by omega, by omega, by simp only [List.length_cons, List.length_nil]; omega, by omega, ⟨by omega, by omega, ?_⟩, by omega⟩
   rw [ga_next i0, if_pos hp']; rfl
  ·have hp' : ¬ PlX all i := fun q => hp (decide_eq_true q)
   simp only [T_G, T_some, Sum.elim_inl]
   refine ⟨by omega, ⟨by omega, by omega, ?_⟩, by omega⟩
   rw [ga_next i0, if_neg hp', List.append_nil]
 ·rintro _ rfl
  have hg := ga_len (N := N) (all := all) all.length
  rw [T_G, show sortO (fun (a_ b_ : Int × Int × Int) => z_hier_Graph_1 a_.1 a_.2.1 a_.2.2 b_.1 b_.2.1 b_.2.2) (ga N all all.length) = some (sortL cG (ga N all all.length)) from sortO_on (h.on hN), Option.bind_some, T_some]
  exact ⟨by omega, rfl⟩
theorem p_rGraph (h : InF N UF U DF D all) (hN : W32 N) (hU : WL U) (hD : WL D) (few : U.length + D.length ≤ 2000) : z_viaductref10_Graph N UF U DF D = some ((N.length : Int), sortL cG (ga N all all.length)) := by
 have hl := h.X.len
 obtain ⟨n1, m1⟩ := h.sm
 refine T_eq.1 ?_
 unfold z_viaductref10_Graph
 refine T_bindr (fun a => a = all.map fun x => (tlE x, hdE x, x.2.2.2.2.2.2)) ?_ ?_
 ·unfold z_viaductref10_Arcs
  refine T_bindr _ (p_rRanks h.ln h.sm h.fU h.fD h.X) fun ranks hr => ?_
  have hrl := hr.1
  rw [T_bind]
  refine T_mono (Q := fun a => a = all.map fun x => (tlE x, hdE x, x.2.2.2.2.2.2)) ?_ fun a ha => by simp only [T_some]; exact ha
  refine T_loop (fun z => 0 ≤ z.1 ∧ z.1 ≤ (all.length : Int) ∧ z.2 = (all.take z.1.toNat).map fun x => (tlE x, hdE x, x.2.2.2.2.2.2)) (fun z => ((all.length : Int) - z.1).toNat) ?_ ⟨by simp, by simp, rfl⟩
  rintro ⟨i, g⟩ ⟨i0, i1, hg⟩
  dsimp only at i0 i1 hg
  subst hg
  unfold z_viaductref10_Arcs_l0
  rw [hrl, T_ite]
  refine ⟨fun hi => ?_, fun hi => by simp only [T_some, Sum.elim_inr]; rw [List.take_of_length_le (by omega)]⟩
  rw [p_endOf h.sm hU hD h.X hr i0 hi, Option.bind_some]
  have hm : ((all.take i.toNat).map fun x => (tlE x, hdE x, x.2.2.2.2.2.2)).length = i.toNat := by rw [List.length_map, List.length_take]; omega
  simp only [T_G, T_some, Sum.elim_inl]
  refine ⟨by omega, by omega, ⟨by omega, by omega, ?_⟩, by omega⟩
  rw [take_gtE i0 hi, List.map_append]; rfl
 rintro _ rfl
 refine T_bindr (fun o => o = ga N all all.length) ?_ ?_
 ·have hml : ((all.map fun x => (tlE x, hdE x, x.2.2.2.2.2.2)).length : Int) = all.length := by rw [List.length_map]
  refine T_loop (fun z => 0 ≤ z.1 ∧ z.1 ≤ (all.length : Int) ∧ z.2 = ga N all z.1.toNat) (fun z => ((all.length : Int) - z.1).toNat) ?_ ⟨by simp, by simp, rfl⟩
  rintro ⟨i, g⟩ ⟨i0, i1, hg⟩
  dsimp only at i0 i1 hg
  subst hg
  unfold z_viaductref10_Graph_l0
  rw [hml, T_ite]
  refine ⟨fun hi => ?_, fun hi => by simp only [T_some, Sum.elim_inr]; rw [show i.toNat = all.length from by omega]⟩
  obtain ⟨r, a1, a2, a3, a4, a5⟩ := h.ends i0 hi
  obtain ⟨k1, k2, k3, k4⟩ := h.X.lk i0 hi
  have hg := ga_len (N := N) (all := all) i.toNat
  have q1 := hN _ (gt_mem (xs := N) (i := tlE (gt all i)) (by omega) (by omega))
  have q2 := hN _ (gt_mem (xs := N) (i := hdE (gt all i)) (by omega) (by omega))
  have sA := (h.X.s h.ln.1 h.ln.2).rng hU hD i0 hi
  rw [T_G, p_link (by omega) i0 (by omega), Option.bind_some, p_rplain, Option.bind_some, gt_mp i0 hi, ← k2, ← k3, ← k4, T_ite]
  dsimp only
  refine ⟨i0, fun hp => ?_, fun hp => ?_⟩
  ·have hp' : PlX all i := of_decide_eq_true hp
   have hw := (h.wg i i0 hi).1 hp'
   simp only [T_G, T_some, Sum.elim_inl]
   refine ⟨by omega, by omega, by omega, by omega, by omega, by simp only [List.length_cons, List.length_nil]; omega, by omega, ⟨by omega, by omega, ?_⟩, by omega⟩
   rw [ga_next i0, if_pos hp']; rfl
  ·have hp' : ¬ PlX all i := fun q => hp (decide_eq_true q)
   simp only [T_G, T_some, Sum.elim_inl]
   refine ⟨by omega, ⟨by omega, by omega, ?_⟩, by omega⟩
   rw [ga_next i0, if_neg hp', List.append_nil]
 ·rintro _ rfl
  have hg := ga_len (N := N) (all := all) all.length
  refine T_bindr _ (p_rOf (by omega)) ?_
  rintro ⟨n, L⟩ ⟨e1, e2, _⟩
  dsimp only at e1 e2 ⊢
  rw [T_some, e1, e2.uniq (h.nrm hN)]
theorem p_graph2 {er : Er} (e : z_hier_ends N UF U DF D = some (all, er)) (e2 : z_viaductref10_DocCheck N UF U DF D = some (er.code, er.pls)) (hA : HierA N UF U DF D er) (hN : W32 N) (hU : WL U) (hD : WL D) (few : er = .nil → U.length + D.length ≤ 2000) (g : er = .nil → InF N UF U DF D all) : ∃ n l, z_hier_Graph N UF U DF D = some (n, l, er) ∧ z_viaductref10_DocGraph N UF U DF D = some (n, l, er.code, er.pls) ∧ l.length ≤ 100000000 := by
 unfold z_viaductref10_DocGraph
 rw [e2, Option.bind_some, p_Bad, Option.bind_some]
 by_cases h : er = .nil
 ·have F := g h
  have fw := few h
  subst h
  have hl := F.X.len
  have hg := ga_len (N := N) (all := all) all.length
  refine ⟨(N.length : Int), sortL cG (ga N all all.length), p_hGraph F hN hU hD e, ?_, by rw [(sortL_perm _ _).length_eq]; omega⟩
  rw [if_neg (by simp [Er.code, Er.pls]), p_rGraph F hN hU hD fw, Option.bind_some]
  rfl
 ·refine ⟨0, [], ?_, ?_, by simp⟩
  ·unfold z_hier_Graph
   rw [e, Option.bind_some, if_neg h]
  ·rw [if_pos (by simp only [decide_eq_true_iff]; exact hA.badC.2 h)]
end Go.Vd

/-! (PrHierMemory) -/

set_option linter.unusedVariables false
set_option linter.unusedSimpArgs false
set_option maxHeartbeats 4000000
namespace Go.Vd
variable {l N UF DF ranks : List Int} {U D : List B4} {k i j r : Int} {all all' : List E7}
theorem p_EqW {a : List Int} (ha : a.length ≤ 1000000000000000) : z_slices_Equal a = some true := by
 refine T_eq.1 ?_
 unfold z_slices_Equal
 rw [if_pos rfl]
 refine T_binds (fun _ => True) ?_ fun _ _ => by simp
 refine T_loop (fun i => 0 ≤ i ∧ i ≤ (a.length : Int)) (fun i => ((a.length : Int) - i).toNat) ?_ ⟨by simp, by simp⟩
 rintro i ⟨i0, i1⟩
 unfold z_slices_Equal_l0
 rw [T_ite]
 refine ⟨fun hi => ?_, fun _ => by simp⟩
 rw [if_pos rfl]
 simp only [T_G, T_some, Sum.elim_inl]
 omega
theorem p_EqL {a : List B4} (ha : a.length ≤ 1000000000000000) : z_slices_Equal_1 a = some true := by
 refine T_eq.1 ?_
 unfold z_slices_Equal_1
 rw [if_pos rfl]
 refine T_binds (fun _ => True) ?_ fun _ _ => by simp
 refine T_loop (fun i => 0 ≤ i ∧ i ≤ (a.length : Int)) (fun i => ((a.length : Int) - i).toNat) ?_ ⟨by simp, by simp⟩
 rintro i ⟨i0, i1⟩
 unfold z_slices_Equal_1_l0
 rw [T_ite]
 refine ⟨fun hi => ?_, fun _ => by simp⟩
 rw [if_pos ⟨rfl, rfl, rfl, rfl⟩]
 simp only [T_G, T_some, Sum.elim_inl]
 omega
theorem p_hSame (lN : N.length ≤ 35184372088000) (lUF : UF.length ≤ 35184372088000) (lU : U.length ≤ 5864062014700) (lDF : DF.length ≤ 35184372088000) (lD : D.length ≤ 5864062014700) : z_hier_Same N UF U DF D = some true := by
 unfold z_hier_Same
 rw [p_EqW (by omega), Option.bind_some, if_pos rfl, p_EqW (by omega), Option.bind_some, if_pos rfl, p_EqL (by omega), Option.bind_some, if_pos rfl, p_EqW (by omega), Option.bind_some, if_pos rfl, p_EqL (by omega), Option.bind_some]
theorem fill1 {E : Type} {f : List E → Int → Option ((List E × Int) ⊕ List E)} {x : E} {l0 : List E} (hl : l0.length ≤ 1000000000000000)
  (hf : ∀ a i, f a i = if i < (l0.length : Int) then (G (0 ≤ i ∧ i < (a.length : Int)) (G ((i + 1) ≤ 9223372036854775807) (some (Sum.inl (a.set i.toNat x, i + 1))))) else some (Sum.inr a)) :
  T (loopO (fun zz_ => f zz_.1 zz_.2) (l0, 0)) fun a => a.length = l0.length := by
 refine T_loop (fun z => 0 ≤ z.2 ∧ z.2 ≤ (l0.length : Int) ∧ z.1.length = l0.length) (fun z => ((l0.length : Int) - z.2).toNat) ?_ ⟨by simp, by simp, rfl⟩
 rintro ⟨a, i⟩ ⟨i0, i1, la⟩
 dsimp only at *
 rw [hf, T_ite]
 refine ⟨fun hlt => ?_, fun hge => by simp only [T_some, Sum.elim_inr]; exact la⟩
 simp only [T_G, T_some, Sum.elim_inl, List.length_set]
 exact ⟨⟨i0, by omega⟩, by omega, ⟨by omega, by omega, la⟩, by omega⟩
theorem fill2 {E : Type} {f : List E → Int → Option ((List E × Int) ⊕ Unit)} {x : E} {l0 : List E} (hl : l0.length ≤ 1000000000000000)
  (hf : ∀ a i, f a i = if i < (l0.length : Int) then (G (0 ≤ i ∧ i < (a.length : Int)) (G ((i + 1) ≤ 9223372036854775807) (some (Sum.inl (a.set i.toNat x, i + 1))))) else some (Sum.inr ())) :
  T (loopO (fun zz_ => f zz_.1 zz_.2) (l0, 0)) fun _ => True := by
 refine T_loop (fun z => 0 ≤ z.2 ∧ z.2 ≤ (l0.length : Int) ∧ z.1.length = l0.length) (fun z => ((l0.length : Int) - z.2).toNat) ?_ ⟨by simp, by simp, rfl⟩
 rintro ⟨a, i⟩ ⟨i0, i1, la⟩
 dsimp only at *
 rw [hf, T_ite]
 refine ⟨fun hlt => ?_, fun hge => by simp⟩
 simp only [T_G, T_some, Sum.elim_inl, List.length_set]
 exact ⟨⟨i0, by omega⟩, by omega, ⟨by omega, by omega, la⟩, by omega⟩
theorem fill3 {E : Type} {f : Int → List E → Option ((Int × List E) ⊕ Unit)} {x : E} {l0 : List E} (hl : l0.length ≤ 1000000000000000)
  (hf : ∀ i a, f i a = if i < (l0.length : Int) then (G (0 ≤ i ∧ i < (a.length : Int)) (G ((i + 1) ≤ 9223372036854775807) (some (Sum.inl (i + 1, a.set i.toNat x))))) else some (Sum.inr ())) :
  T (loopO (fun zz_ => f zz_.1 zz_.2) (0, l0)) fun _ => True := by
 refine T_loop (fun z => 0 ≤ z.1 ∧ z.1 ≤ (l0.length : Int) ∧ z.2.length = l0.length) (fun z => ((l0.length : Int) - z.1).toNat) ?_ ⟨by simp, by simp, rfl⟩
 rintro ⟨i, a⟩ ⟨i0, i1, la⟩
 dsimp only at *
 rw [hf, T_ite]
 refine ⟨fun hlt => ?_, fun hge => by simp⟩
 simp only [T_G, T_some, Sum.elim_inl, List.length_set]
 exact ⟨⟨i0, by omega⟩, by omega, ⟨by omega, by omega, la⟩, by omega⟩
theorem p_HierMemory (hN : W32 N) (hUF : W32 UF) (hU : WL U) (hDF : W32 DF) (hD : WL D) (lN : N.length ≤ 35184372088000) (lUF : UF.length ≤ 35184372088000) (lU : U.length ≤ 5864062014700) (lDF : DF.length ≤ 35184372088000) (lD : D.length ≤ 5864062014700) : z_viaductlaw10_HierMemory N UF U DF D = some true := by
 unfold z_viaductlaw10_HierMemory
 rw [t_awake, Option.bind_some, if_neg (by decide)]
 obtain ⟨b, hb, hbb⟩ : ∃ b, z_viaductlaw10_great N UF U DF D = some b ∧ (b = false → U.length + D.length ≤ 2000 ∨ 1048576 < U.length + D.length) := by
  unfold z_viaductlaw10_great
  rw [p_count (by omega), Option.bind_some]
  by_cases q : (U.length : Int) + D.length > 2000
  ·rw [if_pos q, Option.bind_some]
   exact ⟨_, rfl, fun h => by have := of_decide_eq_false h; omega⟩
  ·rw [if_neg q]; exact ⟨_, rfl, fun _ => by omega⟩
 rw [hb, Option.bind_some]
 cases b with
 | true => rw [if_pos rfl]
 | false =>
 rw [if_neg (by decide)]
 have few := hbb rfl
 obtain ⟨⟨all, er⟩, e, hA, hF, _⟩ := p_endsX hN hUF hU hDF hD (by omega) (by omega) (by omega)
 obtain ⟨_, e2, er2, hA2, rfl⟩ := p_rDocCheck hN hUF hU hDF hD (by omega) (by omega) (by omega)
 dsimp only at hA hF
 obtain rfl := hA2.uniq hA
 have F : er2 = .nil → InF N UF U DF D all := fun h => by
  obtain ⟨f1, f2, f3, f4, f5, f6, f7⟩ := hF h
  exact ⟨f1, f2, f3, f4, f5, f6, fun j j0 j1 => (f7 j j0 j1).1, fun j j0 j1 => (f7 j j0 j1).2⟩
 have fw : er2 = .nil → U.length + D.length ≤ 2000 := fun h => by
  have := (F h).sm.2; omega
 obtain ⟨n, l, h1, h2, h3⟩ := p_graph2 e e2 hA hN hU hD fw F
 obtain ⟨rk, k1, k2, k3⟩ := p_rksame e e2 hA.badC fun h => ⟨(F h).sm, (F h).od⟩
 have t1 := p_hTurn e hU hD fun h => ⟨(F h).sm, (F h).ln⟩
 have t2 := p_rDocTurn e2 hA.badC hU hD fun h => ⟨(F h).sm, (F h).ln⟩
 obtain ⟨A, B, C, E, K, et, et2, l1, l2, l3, l4, l5⟩ : ∃ A B C E K, z_hier_Turn N UF U DF D = some (A, B, C, E, K, er2) ∧ z_viaductref10_DocTurn N UF U DF D = some (A, B, C, E, K, er2.code, er2.pls) ∧ A.length ≤ 35184372088000 ∧ B.length ≤ 35184372088000 ∧ C.length ≤ 5864062014700 ∧ E.length ≤ 35184372088000 ∧ K.length ≤ 5864062014700 := by
  by_cases h : er2 = .nil
  ·rw [if_pos h] at t1 t2
   subst h
   exact ⟨N, DF, D.map (tl (U.length : Int) (D.length : Int)), UF, U.map (tl (U.length : Int) (D.length : Int)), t1, t2, lN, lDF, by simpa using lD, lUF, by simpa using lU⟩
  ·rw [if_neg h] at t1 t2
   exact ⟨[], [], [], [], [], t1, t2, by simp, by simp, by simp, by simp, by simp⟩
 refine T_eq.1 ?_
 rw [p_rTwin (by omega) (by omega) (by omega) (by omega) (by omega)]
 simp only [Option.bind_some, et, h1, k1, p_hSame lN lUF lU lDF lD]
 rw [p_rSame (by omega) (by omega) (by omega) (by omega) (by omega), Option.bind_some, decide_eq_true ⟨rfl, rfl, rfl, rfl, rfl⟩]
 simp only [Bool.not_true, Bool.false_eq_true, if_false]
 have e12 : ([1, 2] : List Int).length = 2 := rfl
 refine T_bindr _ (fill1 (x := 7777) (l0 := A) (by omega) fun a i => rfl) fun a1 b1 => ?_
 simp only [T_G, e12]
 refine ⟨by omega, by omega, ?_⟩
 rw [if_pos (by rw [List.length_append, e12]; omega)]
 refine T_bindr _ (fill1 (x := 7777) (l0 := B) (by omega) fun a i => rfl) fun a2 b2 => ?_
 simp only [T_G, e12]
 refine ⟨by omega, by omega, ?_⟩
 rw [if_pos (by rw [List.length_append, e12]; omega)]
 refine T_bindr _ (fill1 (x := 7777) (l0 := E) (by omega) fun a i => rfl) fun a3 b3 => ?_
 simp only [T_G, e12]
 refine ⟨by omega, by omega, ?_⟩
 rw [if_pos (by rw [List.length_append, e12]; omega)]
 refine T_bindr _ (fill1 (x := 7777) (l0 := N) (by omega) fun a i => rfl) fun a4 b4 => ?_
 simp only [T_G, e12]
 refine ⟨by omega, by omega, ?_⟩
 rw [if_pos (by rw [List.length_append, e12]; omega)]
 refine T_bindr _ (fill1 (x := 7777) (l0 := UF) (by omega) fun a i => rfl) fun a5 b5 => ?_
 simp only [T_G, e12]
 refine ⟨by omega, by omega, ?_⟩
 rw [if_pos (by rw [List.length_append, e12]; omega)]
 refine T_bindr _ (fill1 (x := 7777) (l0 := DF) (by omega) fun a i => rfl) fun a6 b6 => ?_
 simp only [T_G, e12]
 refine ⟨by omega, by omega, ?_⟩
 rw [if_pos (by rw [List.length_append, e12]; omega)]
 refine T_bindr _ (fill1 (x := (9, 0, 0, 0)) (l0 := C) (by omega) fun a i => rfl) fun _ _ => ?_
 refine T_bindr _ (fill1 (x := (9, 0, 0, 0)) (l0 := K) (by omega) fun a i => rfl) fun _ _ => ?_
 refine T_bindr _ (fill1 (x := (9, 0, 0, 0)) (l0 := U) (by omega) fun a i => rfl) fun _ _ => ?_
 refine T_bindr _ (fill1 (x := (9, 0, 0, 0)) (l0 := D) (by omega) fun a i => rfl) fun _ _ => ?_
 refine T_bindr _ (fill3 (x := (-1, 0, 0)) (l0 := l) (by omega) fun a i => rfl) fun _ _ => ?_
 refine T_bindr _ (fill2 (x := -1) (l0 := rk) (by omega) fun a i => rfl) fun _ _ => ?_
 rw [et2, Option.bind_some, h2, Option.bind_some, k2, Option.bind_some]
 dsimp only
 rw [p_rSame (by omega) (by omega) (by omega) (by omega) (by omega), Option.bind_some, decide_eq_true ⟨rfl, rfl, rfl, rfl, rfl⟩, if_pos rfl, p_gSame (by omega), Option.bind_some, decide_eq_true ⟨rfl, rfl⟩, if_pos rfl, p_SameInts (by omega)]
 simp
end Go.Vd
