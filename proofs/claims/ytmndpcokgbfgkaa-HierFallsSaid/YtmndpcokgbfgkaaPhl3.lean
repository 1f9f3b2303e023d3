/- Lists and places. Plain Lean: no program here. -/
import Derived.Test.YtmndpcokgbfgkaaPhl2
import Derived.Test.YtmndpcokgbfgkaaSo0
import Derived.Test.YtmndpcokgbfgkaaVdQ
import Derived.Test.YtmndpcokgbfgkaaIHl
set_option linter.unusedVariables false
set_option linter.unusedSimpArgs false
set_option linter.unusedSectionVars false
/-! (Mo0) -/

namespace Go.Vd
theorem take_gtE {E : Type} [Inhabited E] {l : List E} {i : Int} (h0 : 0 ≤ i) (h1 : i < (l.length : Int)) : l.take (i + 1).toNat = l.take i.toNat ++ [gt l i] := by
  have hi : i.toNat < l.length := by omega
  rw [show (i + 1).toNat = i.toNat + 1 from by omega, List.take_add_one, List.getElem?_eq_getElem hi]
  have : gt l i = l[i.toNat] := by simp [gt, List.getD_eq_getElem?_getD, hi]
  rw [this]; rfl
theorem gt_setE {E : Type} [Inhabited E] {l : List E} {i j : Int} {v : E} (i0 : 0 ≤ i) (i1 : i < (l.length : Int)) (j0 : 0 ≤ j) : gt (l.set i.toNat v) j = if j = i then v else gt l j := by
  unfold gt
  rw [List.getD_eq_getElem?_getD, List.getD_eq_getElem?_getD, List.getElem?_set]
  by_cases h : j = i
  · subst h; rw [if_pos rfl, if_pos rfl, if_pos (by omega)]; rfl
  · rw [if_neg h, if_neg (by omega)]
theorem list_gtE {E : Type} [Inhabited E] {l m : List E} (hl : l.length = m.length) (h : ∀ j : Int, 0 ≤ j → j < (l.length : Int) → gt l j = gt m j) : l = m := by
  refine List.ext_getElem hl fun j h1 h2 => ?_
  have := h (j : Int) (by omega) (by omega)
  rwa [gt_nat h1, gt_nat h2] at this
end Go.Vd

/-! (Gb) -/

set_option linter.unusedVariables false
set_option linter.unusedSimpArgs false
namespace Go.Vd
abbrev A3 := Int × Int × Int
theorem eq3 {x y : A3} (h1 : x.1 = y.1) (h2 : x.2.1 = y.2.1) (h3 : x.2.2 = y.2.2) : x = y := by
  obtain ⟨a, b, c⟩ := x; obtain ⟨a', b', c'⟩ := y
  simp only at h1 h2 h3
  subst h1; subst h2; subst h3; rfl

theorem mem_gtE {E : Type} [Inhabited E] {l : List E} {x : E} (h : x ∈ l) : ∃ i : Int, 0 ≤ i ∧ i < (l.length : Int) ∧ x = gt l i := by
  obtain ⟨i, hi, rfl⟩ := List.getElem_of_mem h
  exact ⟨i, by omega, by omega, (gt_nat hi).symm⟩

end Go.Vd

/-! (HrA) -/

set_option linter.unusedVariables false
set_option linter.unusedSimpArgs false
set_option maxHeartbeats 1000000
namespace Go.Vd
abbrev B4 := Int × Int × Int × Int
abbrev E7 := Int × Int × Int × Int × Int × Int × Int
abbrev E8 := Int × Int × Int × Int × Int × Int × Int × Int
abbrev W32 (l : List Int) : Prop := ∀ x ∈ l, (0 ≤ x ∧ x ≤ 4294967295)
abbrev WL (l : List B4) : Prop := ∀ x ∈ l, (0 ≤ x.1 ∧ x.1 ≤ 4294967295) ∧ (0 ≤ x.2.1 ∧ x.2.1 ≤ 18446744073709551615) ∧ (0 ≤ x.2.2.1 ∧ x.2.2.1 ≤ 4294967295) ∧ (0 ≤ x.2.2.2 ∧ x.2.2.2 ≤ 4294967295)
structure Fst (l : List Int) (k : Int) : Prop where
  z : gt l 0 = 0
  up : ∀ r, 0 ≤ r → r < (l.length : Int) - 1 → gt l r ≤ gt l (r + 1)
  e : gt l ((l.length : Int) - 1) = k
def Rk (l : List Int) (i r : Int) : Prop := 0 ≤ r ∧ r < (l.length : Int) - 1 ∧ gt l r ≤ i ∧ i < gt l (r + 1)
variable {l N UF DF : List Int} {U D : List B4} {k i r : Int} {all : List E7}

theorem Fst.mono (h : Fst l k) : ∀ (m : Nat) (a : Int), 0 ≤ a → a + m ≤ (l.length : Int) - 1 → gt l a ≤ gt l (a + m) := by
  intro m
  induction m with
  | zero => intro a _ _; simp
  | succ m ih =>
    intro a a0 a1
    have h1 := ih a a0 (by omega)
    have h2 := h.up (a + m) (by omega) (by omega)
    rw [show a + ((m + 1 : Nat) : Int) = a + m + 1 from by omega]; omega
theorem Fst.le (h : Fst l k) {a b : Int} (a0 : 0 ≤ a) (ab : a ≤ b) (b1 : b ≤ (l.length : Int) - 1) : gt l a ≤ gt l b := by
  have := h.mono (b - a).toNat a a0 (by omega)
  rwa [show a + ((b - a).toNat : Int) = b from by omega] at this
theorem Fst.uniq (h : Fst l k) {r' : Int} (h1 : Rk l i r) (h2 : Rk l i r') : r = r' := by
  obtain ⟨a0, a1, a2, a3⟩ := h1
  obtain ⟨b0, b1, b2, b3⟩ := h2
  rcases Int.lt_trichotomy r r' with q | q | q
  · have := h.le (a := r + 1) (b := r') (by omega) (by omega) (by omega); omega
  · exact q
  · have := h.le (a := r' + 1) (b := r) (by omega) (by omega) (by omega); omega
theorem Fst.rk (h : Fst l k) (i0 : 0 ≤ i) (i1 : i < k) (hl : 0 < (l.length : Int)) : ∃ r, Rk l i r := by
  have key : ∀ m : Nat, (m : Int) ≤ (l.length : Int) - 1 → i < gt l m → ∃ r, Rk l i r := by
    intro m
    induction m with
    | zero => intro _ q; rw [show ((0 : Nat) : Int) = 0 from rfl, h.z] at q; omega
    | succ m ih =>
      intro hm q
      by_cases e : i < gt l m
      · exact ih (by omega) e
      · exact ⟨m, by omega, by omega, by omega, by rw [show ((m + 1 : Nat) : Int) = (m : Int) + 1 from rfl] at q; exact q⟩
  exact key (l.length - 1) (by omega) (by rw [show ((l.length - 1 : Nat) : Int) = (l.length : Int) - 1 from by omega, h.e]; exact i1)

theorem p_f10 {a b n : Int} : z_fault_At a b (.no n) = some (.at a b (.no n)) := by
  unfold z_fault_At; rw [if_neg (by simp)]

theorem p_firsts (hw : W32 l) (h0 : 0 < (l.length : Int)) (hl : l.length ≤ 1000000) : T (z_hier_firsts l k) fun er => er = .nil → Fst l k := by
  unfold z_hier_firsts
  rw [T_G, T_ite]
  refine ⟨h0, fun hz => ?_, fun _ => by simp⟩
  rw [T_G]
  refine ⟨by omega, T_binds (fun _ => ∀ r, 0 ≤ r → r < (l.length : Int) - 1 → gt l r ≤ gt l (r + 1)) ?_ fun _ hu => ?_⟩
  · refine T_loop (fun i => 0 ≤ i ∧ i ≤ (l.length : Int) - 1 ∧ ∀ r, 0 ≤ r → r < i → gt l r ≤ gt l (r + 1)) (fun i => ((l.length : Int) - 1 - i).toNat) ?_ ⟨by simp, by omega, fun r r0 r1 => by omega⟩
    rintro i ⟨i0, i1, hi⟩
    unfold z_hier_firsts_l0
    rw [p_f10]
    simp only [T_ite, T_G, T_map, T_some, Option.bind_some, Sum.elim_inl, Sum.elim_inr]
    refine ⟨fun hlt => ⟨by omega, by omega, by omega, fun _ => (by simp), fun hge => ⟨by omega, ⟨by omega, by omega, fun r r0 r1 => ?_⟩, by omega⟩⟩, fun hge r r0 r1 => hi r r0 (by omega)⟩
    by_cases e : r = i
    · subst e; omega
    · exact hi r r0 (by omega)
  · have := hw _ (gt_mem (i := (l.length : Int) - 1) (by omega) (by omega))
    simp only [T_G, T_ite, T_some]
    refine ⟨by omega, by omega, fun he => fun _ => ⟨hz, hu, he⟩, fun _ => by simp⟩

/-- Each number below the length once. -/
def OrdL (l : List Int) : Prop := (∀ r, 0 ≤ r → r < (l.length : Int) → 0 ≤ gt l r ∧ gt l r < (l.length : Int)) ∧ ∀ r r', 0 ≤ r → r < (l.length : Int) → 0 ≤ r' → r' < (l.length : Int) → gt l r = gt l r' → r = r'
theorem p_order10 (hw : W32 l) (hl : l.length ≤ 1000000) : T (z_hier_order l) fun er => er = .nil → OrdL l := by
  unfold z_hier_order
  rw [T_G]
  refine ⟨by omega, T_binds (fun _ => OrdL l) ?_ fun _ h => by simp [h]⟩
  refine T_loop (fun z => 0 ≤ z.1 ∧ z.1 ≤ (l.length : Int) ∧ (z.2.length : Int) = l.length ∧ (∀ r, 0 ≤ r → r < z.1 → 0 ≤ gt l r ∧ gt l r < (l.length : Int)) ∧ (∀ r r', 0 ≤ r → r < r' → r' < z.1 → gt l r ≠ gt l r') ∧ ∀ r, 0 ≤ r → r < z.1 → gt z.2 (gt l r) > 0) (fun z => ((l.length : Int) - z.1).toNat) ?_ ⟨by simp, by simp, by simp, fun r r0 r1 => by dsimp only at r1; omega, fun r r' r0 r1 r2 => by dsimp only at r2; omega, fun r r0 r1 => by dsimp only at r1; omega⟩
  rintro ⟨i, sn⟩ ⟨i0, i1, ls, h1, h2, h3⟩
  dsimp only at *
  unfold z_hier_order_l0
  rw [p_f10, T_ite]
  refine ⟨fun hi => ?_, fun hi => ?_⟩
  rotate_left
  · simp only [T_some, Sum.elim_inr]
    refine ⟨fun r r0 r1 => h1 r r0 (by omega), fun r r' r0 r1 q0 q1 e => ?_⟩
    rcases Int.lt_trichotomy r r' with q | q | q
    · exact absurd e (h2 r r' r0 q (by omega))
    · exact q
    · exact absurd e.symm (h2 r' r q0 q (by omega))
  have hr := hw _ (gt_mem i0 hi)
  rw [T_G]
  refine ⟨i0, T_bindr (fun o => o = false → gt l i < (l.length : Int) ∧ ¬ gt sn (gt l i) > 0) ?_ fun o ho => ?_⟩
  · simp only [T_G, T_ite, T_some]
    refine ⟨by omega, fun _ => by simp, fun hlt => ⟨by omega, fun h => ⟨by omega, by simpa using h⟩⟩⟩
  rw [T_ite]
  refine ⟨fun _ => by simp, fun hne => ?_⟩
  obtain ⟨a1, a2⟩ := ho (by simpa using hne)
  simp only [T_G, T_some, Sum.elim_inl]
  refine ⟨by omega, by omega, ⟨by omega, by omega, by simpa using ls, fun r r0 r1 => ?_, fun r r' r0 r1 r2 => ?_, fun r r0 r1 => ?_⟩, by omega⟩
  · by_cases e : r = i
    · subst e; omega
    · exact h1 r r0 (by omega)
  · by_cases e : r' = i
    · subst e
      intro q
      have := h3 r r0 r1
      rw [q] at this; omega
    · exact h2 r r' r0 r1 (by omega)
  · by_cases e : r = i
    · subst e; rw [gt_setE hr.1 (by omega) hr.1, if_pos rfl]; omega
    · have q := h1 r r0 (by omega)
      rw [gt_setE hr.1 (by omega) q.1]
      split
      · omega
      · exact h3 r r0 (by omega)
end Go.Vd

/-! (HrB) -/

set_option linter.unusedVariables false
set_option linter.unusedSimpArgs false
set_option maxHeartbeats 2000000
namespace Go.Vd
variable {l N UF DF : List Int} {U D : List B4} {k i r : Int} {all : List E7} {ok_ : List E8 → Bool}

theorem gt_ap1 {E : Type} [Inhabited E] {l : List E} {y : E} {j : Int} (j0 : 0 ≤ j) (j1 : j < (l.length : Int) + 1) : gt (l ++ [y]) j = if j = l.length then y else gt l j := by
  obtain ⟨j, rfl⟩ := Int.eq_ofNat_of_zero_le j0
  by_cases h : (j : Int) = l.length
  · rw [if_pos h]
    have : j = l.length := by omega
    subst this
    simp [gt, List.getD_eq_getElem?_getD]
  · rw [if_neg h]
    have : j < l.length := by omega
    simp [gt, List.getD_eq_getElem?_getD, List.getElem?_append_left this]
theorem gt_sl {E : Type} [Inhabited E] {L : List E} {a b j : Int} (a0 : 0 ≤ a) (j0 : 0 ≤ j) (h : a + j < b) (hb : b ≤ (L.length : Int)) : gt ((L.take b.toNat).drop a.toNat) j = gt L (a + j) := by
  obtain ⟨j, rfl⟩ := Int.eq_ofNat_of_zero_le j0
  obtain ⟨a, rfl⟩ := Int.eq_ofNat_of_zero_le a0
  rw [gt_nat (by simp; omega), show (a : Int) + (j : Int) = ((a + j : Nat) : Int) from by omega, gt_nat (by omega)]
  simp [List.getElem_drop, List.getElem_take]
theorem len_sl {E : Type} {L : List E} {a b : Int} (a0 : 0 ≤ a) (ab : a ≤ b) (hb : b ≤ (L.length : Int)) : (((L.take b.toNat).drop a.toNat).length : Int) = b - a := by
  simp; omega

def upE (i r : Int) (x : B4) : E8 := (i, x.1, x.2.1, x.2.2.1, x.2.2.2, r, x.1, r)
def dnE (i r : Int) (x : B4) : E8 := (i, x.1, x.2.1, x.2.2.1, x.2.2.2, x.1, r, r)
def UpT (UF : List Int) (U : List B4) (m : Int) (t : List E8) : Prop := ∀ i, 0 ≤ i → i < m → ∀ r, Rk UF i r → gt t i = upE i r (gt U i)
def DnT (u : Int) (DF : List Int) (D : List B4) (m : Int) (t : List E8) : Prop := ∀ i, 0 ≤ i → i < m → ∀ r, Rk DF i r → gt t (u + i) = dnE (u + i) r (gt D i)

theorem p_ups (hok : ∀ t : List E8, t.length ≤ 3000000 → ok_ t = true) (hf : Fst UF (U.length : Int)) (hn : (UF.length : Int) = N.length + 1) (hN : N.length ≤ 65536) (hl : U.length ≤ 1048576) (hU : WL U) :
    T (loopO (fun zz_ => z_hier_links_1_l1 ok_ N UF U zz_.1 zz_.2.1 zz_.2.2) ([], 0, 0)) fun o => (o.1.length : Int) = U.length ∧ o.2 = (U.length : Int) ∧ UpT UF U (U.length : Int) o.1 := by
  have fin : gt UF (N.length : Int) = U.length := by
    have := hf.e; rwa [show (UF.length : Int) - 1 = N.length from by omega] at this
  refine T_loop (fun z => 0 ≤ z.2.1 ∧ z.2.1 ≤ (N.length : Int) ∧ z.2.2 = gt UF z.2.1 ∧ (z.1.length : Int) = gt UF z.2.1 ∧ UpT UF U (gt UF z.2.1) z.1) (fun z => ((N.length : Int) - z.2.1).toNat) ?_ ⟨by simp, by simp, hf.z.symm, by simp [hf.z], fun i i0 i1 => by dsimp only at i1; rw [hf.z] at i1; omega⟩
  rintro ⟨y, q, c⟩ ⟨q0, q1, hcc, hy, ht⟩
  dsimp only at *
  subst hcc
  unfold z_hier_links_1_l1
  rw [T_ite]
  refine ⟨fun hq => ?_, fun hq => ?_⟩
  rotate_left
  · have e : q = N.length := by omega
    subst e
    rw [fin] at hy ht ⊢
    simp only [T_some, Sum.elim_inr]
    exact ⟨hy, trivial, ht⟩
  have m1 := hf.up q q0 (by omega)
  have m0 := hf.le (a := 0) (b := q) (by omega) q0 (by omega)
  have m2 := hf.le (a := q + 1) (b := N.length) (by omega) (by omega) (by omega)
  rw [hf.z] at m0
  rw [fin] at m2
  simp only [T_G]
  refine ⟨by omega, by omega, by omega, by omega, ?_⟩
  refine T_bindr (fun o => (o.1.length : Int) = gt UF (q + 1) ∧ o.2 = gt UF (q + 1) ∧ UpT UF U (gt UF (q + 1)) o.1) ?_ ?_
  · have ls := len_sl (L := U) m0 m1 m2
    refine T_loop (fun z => 0 ≤ z.2.2 ∧ z.2.2 ≤ gt UF (q + 1) - gt UF q ∧ z.2.1 = gt UF q + z.2.2 ∧ (z.1.length : Int) = gt UF q + z.2.2 ∧ UpT UF U (gt UF q + z.2.2) z.1) (fun z => (gt UF (q + 1) - gt UF q - z.2.2).toNat) ?_ ⟨by simp, by simp; omega, by simp, by simpa using hy, by simpa using ht⟩
    rintro ⟨y, c, j⟩ ⟨j0, j1, hcc, hy, ht⟩
    dsimp only at *
    subst hcc
    unfold z_hier_links_1_l0
    rw [ls, T_ite]
    refine ⟨fun hj => ?_, fun hj => ?_⟩
    rotate_left
    · have e : gt UF q + j = gt UF (q + 1) := by omega
      rw [e] at hy ht ⊢
      simp only [T_some, Sum.elim_inr]
      exact ⟨hy, trivial, ht⟩
    rw [gt_sl m0 j0 (by omega) m2]
    have hx := hU _ (gt_mem (xs := U) (i := gt UF q + j) (by omega) (by omega))
    simp only [T_G, T_some, Sum.elim_inl]
    refine ⟨j0, by omega, hok _ (by simp; omega), by omega, by omega, ⟨by omega, by omega, by omega, by simp; omega, fun i i0 i1 r hr => ?_⟩, by omega⟩
    rw [gt_ap1 i0 (by omega), hy]
    by_cases e : i = gt UF q + j
    · rw [if_pos e]
      have : Rk UF i q := ⟨q0, by omega, by omega, by omega⟩
      obtain rfl := hf.uniq hr this
      rw [e]; rfl
    · rw [if_neg e]; exact ht i i0 (by omega) r hr
  · rintro ⟨y', c'⟩ ⟨h1, h2, h3⟩
    dsimp only at *
    simp only [T_some, Sum.elim_inl]
    exact ⟨⟨by omega, by omega, h2, h1, h3⟩, by omega⟩

theorem p_dns {t0 : List E8} {u : Int} (u0 : 0 ≤ u) (hu : (t0.length : Int) = u) (hul : u ≤ 1048576) (hok : ∀ t : List E8, t.length ≤ 3000000 → ok_ t = true) (hf : Fst DF (D.length : Int)) (hn : (DF.length : Int) = N.length + 1) (hN : N.length ≤ 65536) (hl : D.length ≤ 1048576) (hU : WL D) :
    T (loopO (fun zz_ => z_hier_links_1_l3 ok_ N DF D zz_.1 zz_.2.1 zz_.2.2) (t0, u, 0)) fun o => (o.length : Int) = u + D.length ∧ (∀ i, 0 ≤ i → i < u → gt o i = gt t0 i) ∧ DnT u DF D (D.length : Int) o := by
  have fin : gt DF (N.length : Int) = D.length := by
    have := hf.e; rwa [show (DF.length : Int) - 1 = N.length from by omega] at this
  refine T_loop (fun z => 0 ≤ z.2.2 ∧ z.2.2 ≤ (N.length : Int) ∧ z.2.1 = u + gt DF z.2.2 ∧ (z.1.length : Int) = u + gt DF z.2.2 ∧ (∀ i, 0 ≤ i → i < u → gt z.1 i = gt t0 i) ∧ DnT u DF D (gt DF z.2.2) z.1) (fun z => ((N.length : Int) - z.2.2).toNat) ?_ ⟨by simp, by simp, by simp [hf.z], by simp [hf.z, hu], fun i _ _ => rfl, fun i i0 i1 => by dsimp only at i1; rw [hf.z] at i1; omega⟩
  rintro ⟨y, c, q⟩ ⟨q0, q1, hcc, hy, hk, ht⟩
  dsimp only at *
  subst hcc
  unfold z_hier_links_1_l3
  rw [T_ite]
  refine ⟨fun hq => ?_, fun hq => ?_⟩
  rotate_left
  · have e : q = N.length := by omega
    subst e
    rw [fin] at hy ht
    simp only [T_some, Sum.elim_inr]
    exact ⟨hy, hk, ht⟩
  have m1 := hf.up q q0 (by omega)
  have m0 := hf.le (a := 0) (b := q) (by omega) q0 (by omega)
  have m2 := hf.le (a := q + 1) (b := N.length) (by omega) (by omega) (by omega)
  rw [hf.z] at m0
  rw [fin] at m2
  simp only [T_G]
  refine ⟨by omega, by omega, by omega, by omega, ?_⟩
  refine T_bindr (fun o => (o.1.length : Int) = u + gt DF (q + 1) ∧ o.2 = u + gt DF (q + 1) ∧ (∀ i, 0 ≤ i → i < u → gt o.1 i = gt t0 i) ∧ DnT u DF D (gt DF (q + 1)) o.1) ?_ ?_
  · have ls := len_sl (L := D) m0 m1 m2
    refine T_loop (fun z => 0 ≤ z.2.2 ∧ z.2.2 ≤ gt DF (q + 1) - gt DF q ∧ z.2.1 = u + gt DF q + z.2.2 ∧ (z.1.length : Int) = u + gt DF q + z.2.2 ∧ (∀ i, 0 ≤ i → i < u → gt z.1 i = gt t0 i) ∧ DnT u DF D (gt DF q + z.2.2) z.1) (fun z => (gt DF (q + 1) - gt DF q - z.2.2).toNat) ?_ ⟨by simp, by simp; omega, by simp, by simpa using hy, hk, by simpa using ht⟩
    rintro ⟨y, c, j⟩ ⟨j0, j1, hcc, hy, hk, ht⟩
    dsimp only at *
    subst hcc
    unfold z_hier_links_1_l2
    rw [ls, T_ite]
    refine ⟨fun hj => ?_, fun hj => ?_⟩
    rotate_left
    · have e : gt DF q + j = gt DF (q + 1) := by omega
      rw [e] at ht
      simp only [T_some, Sum.elim_inr]
      exact ⟨by omega, by omega, hk, ht⟩
    rw [gt_sl m0 j0 (by omega) m2]
    have hx := hU _ (gt_mem (xs := D) (i := gt DF q + j) (by omega) (by omega))
    simp only [T_G, T_some, Sum.elim_inl]
    refine ⟨j0, by omega, hok _ (by simp; omega), by omega, by omega, ⟨by omega, by omega, by omega, by simp; omega, fun i i0 i1 => ?_, fun i i0 i1 r hr => ?_⟩, by omega⟩
    · rw [gt_ap1 i0 (by omega), if_neg (by omega)]; exact hk i i0 i1
    rw [gt_ap1 (by omega) (by omega), hy]
    by_cases e : i = gt DF q + j
    · rw [if_pos (by omega)]
      have : Rk DF i q := ⟨q0, by omega, by omega, by omega⟩
      obtain rfl := hf.uniq hr this
      rw [e]; unfold dnE; rw [Int.add_assoc]
    · rw [if_neg (by omega)]; exact ht i i0 (by omega) r hr
  · rintro ⟨y', c'⟩ ⟨h1, h2, h3, h4⟩
    dsimp only at *
    simp only [T_some, Sum.elim_inl]
    exact ⟨⟨by omega, by omega, h2, h1, h3, h4⟩, by omega⟩

/-- The rounds gather all. -/
theorem fold_all : ∀ (t : List E8) (acc : List E7), acc.length + t.length ≤ 2000000000 → foldO (fun x_ zz_ => z_hier_ends_l0 x_ zz_) acc t = some (acc ++ t.map (·.2)) := by
  intro t
  induction t with
  | nil => intro acc _; simp [foldO]
  | cons x t ih =>
    intro acc h
    simp only [List.length_cons] at h
    have e : z_hier_ends_l0 x acc = some (acc ++ [x.2]) := by
      unfold z_hier_ends_l0 G
      rw [if_pos (by omega)]
    simp only [foldO]
    rw [e, Option.bind_some, ih _ (by simp; omega)]
    simp
end Go.Vd

/-! (HrC) -/

set_option linter.unusedVariables false
set_option linter.unusedSimpArgs false
set_option maxHeartbeats 2000000
namespace Go.Vd
variable {l N UF DF : List Int} {U D : List B4} {k i r : Int} {all : List E7}

def lnk (U D : List B4) (i : Int) : B4 := if i < (U.length : Int) then gt U i else gt D (i - U.length)
theorem lnk_rng (hU : WL U) (hD : WL D) (i0 : 0 ≤ i) (i1 : i < (U.length : Int) + D.length) : (0 ≤ (lnk U D i).1 ∧ (lnk U D i).1 ≤ 4294967295) ∧ (0 ≤ (lnk U D i).2.1 ∧ (lnk U D i).2.1 ≤ 18446744073709551615) ∧ (0 ≤ (lnk U D i).2.2.1 ∧ (lnk U D i).2.2.1 ≤ 4294967295) ∧ (0 ≤ (lnk U D i).2.2.2 ∧ (lnk U D i).2.2.2 ≤ 4294967295) := by
  unfold lnk
  by_cases h : i < (U.length : Int)
  · rw [if_pos h]; exact hU _ (gt_mem i0 h)
  · rw [if_neg h]; exact hD _ (gt_mem (by omega) (by omega))
/-- All links, by their numbers. -/
structure AllS (N : List Int) (U D : List B4) (all : List E7) : Prop where
  len : (all.length : Int) = U.length + D.length
  at' : ∀ i, 0 ≤ i → i < (all.length : Int) → ∃ r, 0 ≤ r ∧ r < (N.length : Int) ∧ gt all i = ((lnk U D i).1, (lnk U D i).2.1, (lnk U D i).2.2.1, (lnk U D i).2.2.2, (if i < (U.length : Int) then r else (lnk U D i).1), (if i < (U.length : Int) then (lnk U D i).1 else r), r)
theorem gt_mp {E F : Type} [Inhabited E] [Inhabited F] {l : List E} {f : E → F} {i : Int} (i0 : 0 ≤ i) (i1 : i < (l.length : Int)) : gt (l.map f) i = f (gt l i) := by
  obtain ⟨i, rfl⟩ := Int.eq_ofNat_of_zero_le i0
  rw [gt_nat (show i < (l.map f).length by simp; omega), gt_nat (by omega)]; simp
theorem allS_of {t0 t : List E8} (hfU : Fst UF (U.length : Int)) (hfD : Fst DF (D.length : Int)) (hnU : (UF.length : Int) = N.length + 1) (hnD : (DF.length : Int) = N.length + 1)
    (h0 : (t0.length : Int) = U.length) (hu : UpT UF U (U.length : Int) t0) (h1 : (t.length : Int) = U.length + D.length) (hk : ∀ i, 0 ≤ i → i < (U.length : Int) → gt t i = gt t0 i) (hd : DnT (U.length : Int) DF D (D.length : Int) t) : AllS N U D (t.map (·.2)) := by
  refine ⟨by rw [List.length_map]; exact h1, fun i i0 i1 => ?_⟩
  rw [List.length_map] at i1
  rw [gt_mp i0 i1]
  by_cases h : i < (U.length : Int)
  · obtain ⟨r, hr⟩ := hfU.rk i0 h (by omega)
    have hr' := hr
    obtain ⟨r0, r1, _⟩ := hr'
    refine ⟨r, r0, by omega, ?_⟩
    rw [hk i i0 h, hu i i0 h r hr, if_pos h, if_pos h]
    unfold lnk
    rw [if_pos h]; rfl
  · obtain ⟨r, hr⟩ := hfD.rk (i := i - U.length) (by omega) (by omega) (by omega)
    have hr' := hr
    obtain ⟨r0, r1, _⟩ := hr'
    refine ⟨r, r0, by omega, ?_⟩
    have := hd (i - U.length) (by omega) (by omega) r hr
    rw [show (U.length : Int) + (i - U.length) = i from by omega] at this
    rw [this, if_neg h, if_neg h]
    unfold lnk
    rw [if_neg h]; rfl

theorem p_plain {a b c d : Int} : z_hier_plain a b c d = some (decide (c = 4294967295 ∧ d = 4294967295)) := by
  unfold z_hier_plain
  by_cases h : c = 4294967295 <;> simp [h]

def Shp (N : List Int) (U : List B4) (all : List E7) (i : Int) : Prop :=
  (gt all i).1 < (N.length : Int) ∧ (gt all i).2.2.2.2.2.2 < (gt all i).1 ∧ (¬ ((gt all i).2.2.1 = 4294967295 ∧ (gt all i).2.2.2.1 = 4294967295) →
    (U.length : Int) ≤ (gt all i).2.2.1 ∧ (gt all i).2.2.1 < (all.length : Int) ∧ (gt all i).2.2.2.1 < (U.length : Int) ∧
    (gt all (gt all i).2.2.1).2.2.2.2.1 = (gt all i).2.2.2.2.1 ∧ (gt all (gt all i).2.2.2.1).2.2.2.2.2.1 = (gt all i).2.2.2.2.2.1 ∧ (gt all (gt all i).2.2.1).2.2.2.2.2.2 = (gt all (gt all i).2.2.2.1).2.2.2.2.2.2)
def Wgt (all : List E7) (i : Int) : Prop :=
  ¬ ((gt all i).2.2.1 = 4294967295 ∧ (gt all i).2.2.2.1 = 4294967295) → 0 ≤ (gt all (gt all i).2.2.1).2.1 + (gt all (gt all i).2.2.2.1).2.1 ∧ (gt all (gt all i).2.2.1).2.1 + (gt all (gt all i).2.2.2.1).2.1 ≤ 18446744073709551615 ∧ (gt all (gt all i).2.2.1).2.1 + (gt all (gt all i).2.2.2.1).2.1 = (gt all i).2.1
theorem AllS.rng (h : AllS N U D all) (hU : WL U) (hD : WL D) (i0 : 0 ≤ i) (i1 : i < (all.length : Int)) : (0 ≤ (gt all i).1 ∧ (gt all i).1 ≤ 4294967295) ∧ (0 ≤ (gt all i).2.1 ∧ (gt all i).2.1 ≤ 18446744073709551615) ∧ (0 ≤ (gt all i).2.2.1 ∧ (gt all i).2.2.1 ≤ 4294967295) ∧ (0 ≤ (gt all i).2.2.2.1 ∧ (gt all i).2.2.2.1 ≤ 4294967295) := by
  obtain ⟨r, _, _, e⟩ := h.at' i i0 i1
  rw [e]
  exact lnk_rng hU hD i0 (by have := h.len; omega)
theorem p_shape (h : AllS N U D all) (hU : WL U) (hD : WL D) (hs : U.length + D.length ≤ 1048576) (i0 : 0 ≤ i) (i1 : i < (all.length : Int)) : T (z_hier_shape N UF U DF D all i) fun b => b = true → Shp N U all i := by
  obtain ⟨g1, g2, g3, g4⟩ := h.rng hU hD i0 i1
  have hl := h.len
  unfold z_hier_shape
  rw [T_G]
  refine ⟨⟨i0, i1⟩, T_bindr (fun o => o = false → (gt all i).1 < (N.length : Int) ∧ (gt all i).2.2.2.2.2.2 < (gt all i).1) ?_ fun o ho => ?_⟩
  · simp only [T_G, T_ite, T_some]
    exact ⟨by omega, fun _ => by simp, fun h1 h2 => ⟨by omega, by simpa using h2⟩⟩
  rw [T_ite]
  refine ⟨fun _ => by simp, fun hn => ?_⟩
  obtain ⟨a1, a2⟩ := ho (by simpa using hn)
  refine T_bindr (fun _ => True) ?_ fun o _ => ?_
  · simp only [T_G, T_ite, T_some]
    exact ⟨fun _ => ⟨fun _ => trivial, fun _ => ⟨by omega, by omega, fun _ => ⟨by omega, trivial⟩, fun _ => trivial⟩⟩, fun _ => trivial⟩
  rw [T_ite]
  refine ⟨fun _ => by simp, fun _ => ?_⟩
  rw [p_plain, Option.bind_some, T_ite]
  refine ⟨fun hp => ?_, fun hp => ?_⟩
  · simp only [T_some]
    exact fun _ => ⟨a1, a2, fun q => absurd (of_decide_eq_true hp) q⟩
  rw [T_G, T_G]
  refine ⟨by omega, by omega, T_bindr (fun o => o = false → (U.length : Int) ≤ (gt all i).2.2.1 ∧ (gt all i).2.2.1 < (all.length : Int) ∧ (gt all i).2.2.2.1 < (U.length : Int)) ?_ fun o ho => ?_⟩
  · simp only [T_ite, T_some]
    exact ⟨fun _ => by simp, fun h1 => ⟨fun _ => by simp, fun h2 h3 => ⟨by omega, by omega, by simpa using h3⟩⟩⟩
  rw [T_ite]
  refine ⟨fun _ => by simp, fun hn => ?_⟩
  obtain ⟨b1, b2, b3⟩ := ho (by simpa using hn)
  simp only [T_G, T_ite, T_some]
  refine ⟨by omega, by omega, fun h1 => ⟨fun h2 => fun h3 => ⟨a1, a2, fun _ => ⟨b1, b2, b3, h1, h2, of_decide_eq_true h3⟩⟩, fun _ => by simp⟩, fun _ => by simp⟩
theorem p_weight (h : AllS N U D all) (hU : WL U) (hD : WL D) (i0 : 0 ≤ i) (i1 : i < (all.length : Int)) (hs : Shp N U all i) : T (z_hier_weight all i) fun b => b = true → Wgt all i := by
  obtain ⟨g1, g2, g3, g4⟩ := h.rng hU hD i0 i1
  have hl := h.len
  unfold z_hier_weight
  rw [T_G, p_plain, Option.bind_some, T_ite]
  refine ⟨⟨i0, i1⟩, fun hp => ?_, fun hp => ?_⟩
  · simp only [T_some]
    exact fun _ q => absurd (of_decide_eq_true hp) q
  obtain ⟨_, _, q⟩ := hs
  obtain ⟨b1, b2, b3, _⟩ := q (by simpa using hp)
  obtain ⟨_, c2, _⟩ := h.rng hU hD (i := (gt all i).2.2.1) (by omega) b2
  obtain ⟨_, d2, _⟩ := h.rng hU hD (i := (gt all i).2.2.2.1) (by omega) (by omega)
  simp only [T_G, T_ite, T_some]
  refine ⟨by omega, by omega, fun h1 => ⟨fun h2 => ⟨fun h3 => ⟨by omega, fun h4 _ => ⟨by omega, by omega, of_decide_eq_true h4⟩⟩, fun _ => by simp⟩, fun _ => by simp⟩, fun _ => by simp⟩

/-- A hierarchy in form. -/
structure Form (N : List Int) (U D : List B4) (all : List E7) : Prop where
  as' : AllS N U D all
  ord : OrdL N
  n : N.length ≤ 65536
  m : U.length + D.length ≤ 1048576
  shp : ∀ i, 0 ≤ i → i < (all.length : Int) → Shp N U all i
  wgt : ∀ i, 0 ≤ i → i < (all.length : Int) → Wgt all i
theorem p_ends (hN : W32 N) (hUF : W32 UF) (hU : WL U) (hDF : W32 DF) (hD : WL D) (lU : U.length ≤ 9000000000000) (lD : D.length ≤ 9000000000000) (lN : N.length ≤ 9000000000000000) : T (z_hier_ends N UF U DF D) fun r => r.2 = .nil → Form N U D r.1 := by
  unfold z_hier_ends
  refine T_bindr (fun o => o = false → N.length ≤ 65536 ∧ U.length + D.length ≤ 1048576) ?_ fun o ho => ?_
  · simp only [T_G, T_ite, T_some]
    exact ⟨fun _ => by simp, fun h1 => ⟨by omega, fun h2 => ⟨by omega, by have := of_decide_eq_false h2; omega⟩⟩⟩
  rw [T_ite]
  refine ⟨fun _ => by simp, fun hn => ?_⟩
  obtain ⟨n1, m1⟩ := ho (by simpa using hn)
  refine T_bindr (fun o => o = false → (UF.length : Int) = N.length + 1 ∧ (DF.length : Int) = N.length + 1) ?_ fun o ho => ?_
  · simp only [T_G, T_ite, T_some]
    exact ⟨by omega, fun h1 h2 => ⟨h1, by simpa using h2⟩, fun _ => by simp⟩
  rw [T_ite]
  refine ⟨fun _ => by simp, fun hn => ?_⟩
  obtain ⟨nU, nD⟩ := ho (by simpa using hn)
  refine T_bindr _ (p_firsts hUF (by omega) (by omega)) fun er h1 => ?_
  rw [T_ite]
  refine ⟨fun e1 => ?_, fun e1 => by simp only [T_some]; exact fun q => absurd q e1⟩
  have fU := h1 e1
  refine T_bindr _ (p_firsts hDF (by omega) (by omega)) fun er h2 => ?_
  rw [T_ite]
  refine ⟨fun e2 => ?_, fun e2 => by simp only [T_some]; exact fun q => absurd q e2⟩
  have fD := h2 e2
  refine T_bindr _ (p_order10 hN (by omega)) fun er h3 => ?_
  rw [T_ite]
  refine ⟨fun e3 => ?_, fun e3 => by simp only [T_some]; exact fun q => absurd q e3⟩
  have od := h3 e3
  rw [show z_hier_links N UF U DF D = some () from rfl, Option.bind_some]
  have hok : ∀ t : List E8, t.length ≤ 3000000 → (fun tr_ => (foldO (fun x_ zz_ => z_hier_ends_l0 x_ zz_) [] tr_).isSome) t = true := fun t ht => by
    show (foldO (fun x_ zz_ => z_hier_ends_l0 x_ zz_) [] t).isSome = true
    rw [fold_all t [] (by simp; omega)]; rfl
  refine T_bindr (fun t : List E8 => (t.length : Int) = U.length + D.length ∧ AllS N U D (t.map (·.2))) ?_ ?_
  · unfold z_hier_links_1
    refine T_bindr _ (p_ups hok fU nU n1 (by omega) hU) ?_
    rintro ⟨t0, c⟩ ⟨a1, rfl, a3⟩
    dsimp only at *
    refine T_bindr _ (p_dns (by omega) a1 (by omega) hok fD nD n1 (by omega) hD) fun t ⟨b1, b2, b3⟩ => ?_
    simp only [T_some]
    exact ⟨b1, allS_of fU fD nU nD a1 a3 b1 b2 b3⟩
  rintro t ⟨ht, hA⟩
  rw [fold_all t [] (by simp; omega), Option.bind_some, List.nil_append]
  generalize t.map (·.2) = all at hA
  have hl := hA.len
  refine T_binds (fun _ => ∀ i, 0 ≤ i → i < (all.length : Int) → Shp N U all i ∧ Wgt all i) ?_ fun _ h => by
    simp only [T_some]
    exact fun _ => ⟨hA, od, n1, m1, fun i i0 i1 => (h i i0 i1).1, fun i i0 i1 => (h i i0 i1).2⟩
  refine T_loop (fun i => 0 ≤ i ∧ i ≤ (all.length : Int) ∧ ∀ j, 0 ≤ j → j < i → Shp N U all j ∧ Wgt all j) (fun i => ((all.length : Int) - i).toNat) ?_ ⟨by simp, by omega, fun j j0 j1 => by omega⟩
  rintro i ⟨i0, i1, hi⟩
  unfold z_hier_ends_l1
  rw [T_ite]
  refine ⟨fun hlt => ?_, fun hge => by simp only [T_some, Sum.elim_inr]; exact fun j j0 j1 => hi j j0 (by omega)⟩
  refine T_bindr _ (p_shape hA hU hD m1 i0 hlt) fun b hb => ?_
  rw [p_f10, p_f10, T_ite]
  refine ⟨fun _ => by simp, fun hn => ?_⟩
  have sh := hb (by simpa using hn)
  refine T_bindr _ (p_weight hA hU hD i0 hlt sh) fun b hb => ?_
  rw [T_ite]
  refine ⟨fun _ => by simp, fun hn => ?_⟩
  have wg := hb (by simpa using hn)
  simp only [T_G, T_some, Sum.elim_inl]
  refine ⟨by omega, ⟨by omega, by omega, fun j j0 j1 => ?_⟩, by omega⟩
  by_cases e : j = i
  · subst e; exact ⟨sh, wg⟩
  · exact hi j j0 (by omega)
end Go.Vd

/-! (PrHierFalls) -/

set_option linter.unusedVariables false
set_option linter.unusedSimpArgs false
set_option maxHeartbeats 2000000
namespace Go.Vd
variable {l N UF DF : List Int} {U D : List B4} {k i r : Int} {all : List E7}

theorem ends_at (e : z_hier_ends N UF U DF D = some (all, .nil)) (i0 : 0 ≤ i) (i1 : i < (all.length : Int)) : z_hier_Ends N UF U DF D i = some ((gt all i).2.2.2.2.1, (gt all i).2.2.2.2.2.1, .nil) := by
  unfold z_hier_Ends
  rw [e, Option.bind_some, if_pos rfl, if_neg (by omega), Option.bind_some, if_neg (by simp; omega)]
  unfold G
  rw [if_pos ⟨i0, i1⟩]
theorem check_at {er : Er} (e : z_hier_ends N UF U DF D = some (all, er)) : z_hier_Check N UF U DF D = some er := by
  unfold z_hier_Check; rw [e]; rfl
theorem p_count (h : U.length + D.length ≤ 100000000000000) : z_viaductref10_Count N UF U DF D = some ((U.length : Int) + D.length) := by
  unfold z_viaductref10_Count G; rw [if_pos (by omega)]
theorem p_link (h : U.length + D.length ≤ 100000000000000) (i0 : 0 ≤ i) (i1 : i < (U.length : Int) + D.length) : z_viaductref10_Link N UF U DF D i = some (lnk U D i) := by
  unfold z_viaductref10_Link lnk G
  by_cases q : i < (U.length : Int)
  · rw [if_pos q, if_pos q, if_pos i0]
  · rw [if_neg q, if_neg q, if_pos (by omega), if_pos (by omega)]
theorem p_rplain {a b c d : Int} : z_viaductref10_Plain a b c d = some (decide (c = 4294967295 ∧ d = 4294967295)) := by
  unfold z_viaductref10_Plain
  by_cases h : c = 4294967295 <;> simp [h]

theorem p_ranks (e : z_hier_ends N UF U DF D = some (all, .nil)) (h : OrdL N) (hn : N.length ≤ 65536) : T (z_hier_Ranks N UF U DF D) fun x => x.2 = .nil ∧ (x.1.length : Int) = N.length ∧ ∀ r, 0 ≤ r → r < (N.length : Int) → gt x.1 (gt N r) = r := by
  unfold z_hier_Ranks
  rw [check_at e, Option.bind_some, if_pos rfl, T_G]
  refine ⟨by omega, T_bindr (fun l => (l.length : Int) = N.length ∧ ∀ r, 0 ≤ r → r < (N.length : Int) → gt l (gt N r) = r) ?_ fun l hl => by simp only [T_some]; exact ⟨trivial, hl⟩⟩
  refine T_loop (fun z => 0 ≤ z.1 ∧ z.1 ≤ (N.length : Int) ∧ (z.2.length : Int) = N.length ∧ ∀ r, 0 ≤ r → r < z.1 → gt z.2 (gt N r) = r) (fun z => ((N.length : Int) - z.1).toNat) ?_ ⟨by simp, by simp, by simp, fun r r0 r1 => by dsimp only at r1; omega⟩
  rintro ⟨i, l⟩ ⟨i0, i1, hl, hr⟩
  dsimp only at *
  unfold z_hier_Ranks_l0
  simp only [T_ite, T_G, T_some, Sum.elim_inl, Sum.elim_inr]
  refine ⟨fun hi => ?_, fun hi => ⟨hl, fun r r0 r1 => hr r r0 (by omega)⟩⟩
  obtain ⟨v0, v1⟩ := h.1 i i0 hi
  refine ⟨i0, by omega, by omega, ⟨by omega, by omega, by simpa using hl, fun r r0 r1 => ?_⟩, by omega⟩
  obtain ⟨w0, w1⟩ := h.1 r r0 (by omega)
  rw [gt_setE v0 (by omega) w0]
  by_cases q : gt N r = gt N i
  · rw [if_pos q]; exact (h.2 r i r0 (by omega) i0 hi q).symm
  · rw [if_neg q]
    refine hr r r0 ?_
    by_cases q2 : r = i
    · subst q2; exact absurd rfl q
    · omega

theorem p_HierFalls (hN : W32 N) (hUF : W32 UF) (hU : WL U) (hDF : W32 DF) (hD : WL D) (lU : U.length ≤ 9000000000000) (lD : D.length ≤ 9000000000000) (lN : N.length ≤ 9000000000000000) : z_viaductlaw10_HierFalls N UF U DF D = some true := by
  refine T_eq.1 ?_
  unfold z_viaductlaw10_HierFalls
  rw [t_awake, Option.bind_some, if_neg (by decide)]
  obtain ⟨⟨all, er⟩, e, hF⟩ := p_ends hN hUF hU hDF hD lU lD lN
  dsimp only at hF
  refine T_bindr (fun o => o = false → er = .nil) ?_ fun o ho => ?_
  · refine T_bindr (fun _ => True) ?_ fun b _ => ?_
    · unfold z_viaductlaw10_great
      rw [p_count (by omega), Option.bind_some]
      simp only [T_ite, Option.bind_some, T_some]
      exact ⟨fun _ => trivial, fun _ => trivial⟩
    · rw [check_at e, Option.bind_some]
      simp only [T_ite, T_some]
      exact ⟨fun _ => by simp, fun _ => ⟨fun h _ => h, fun _ => by simp⟩⟩
  rw [T_ite]
  refine ⟨fun _ => by simp, fun hn => ?_⟩
  have he := ho (by simpa using hn)
  subst he
  obtain ⟨hA, od, n1, m1, shp, wgt⟩ := hF rfl
  have hl := hA.len
  rw [p_count (by omega), Option.bind_some]
  refine T_binds (fun _ => True) ?_ fun _ _ => ?_
  · refine T_loop (fun i => 0 ≤ i ∧ i ≤ (all.length : Int)) (fun i => ((all.length : Int) - i).toNat) ?_ ⟨by simp, by omega⟩
    rintro i ⟨i0, i1⟩
    unfold z_viaductlaw10_HierFalls_l0
    rw [T_ite]
    refine ⟨fun hi => ?_, fun hi => by simp⟩
    have i2 : i < (all.length : Int) := by omega
    have gl := lnk_rng hU hD i0 hi
    obtain ⟨r, r0, r1, ea⟩ := hA.at' i i0 i2
    obtain ⟨s1, s2, s3⟩ := shp i i0 i2
    have wg := wgt i i0 i2
    unfold Wgt at wg
    rw [ends_at e i0 i2, Option.bind_some]
    rw [ea] at s1 s2 s3 wg ⊢
    dsimp only at s1 s2 s3 wg ⊢
    generalize hx : lnk U D i = x at *
    obtain ⟨ta, ha, eth⟩ : ∃ ta ha, ta = (if i < (U.length : Int) then r else x.1) ∧ ha = (if i < (U.length : Int) then x.1 else r) ∧ ((ta = r ∧ ha = x.1) ∨ (ta = x.1 ∧ ha = r)) := by
      by_cases q : i < (U.length : Int)
      · exact ⟨r, x.1, by rw [if_pos q], by rw [if_pos q], .inl ⟨rfl, rfl⟩⟩
      · exact ⟨x.1, r, by rw [if_neg q], by rw [if_neg q], .inr ⟨rfl, rfl⟩⟩
    obtain ⟨e1, e2, e3⟩ := eth
    rw [← e1, ← e2] at s3 ⊢
    refine T_bindr (fun o => o = false) ?_ ?_
    · rw [if_pos rfl, if_neg (by omega), if_neg (by omega), if_neg (by omega), if_neg (by omega), T_some]
      exact decide_eq_false (by omega)
    rintro _ rfl
    rw [if_neg (by decide), p_link (by omega) i0 hi, Option.bind_some, p_rplain, Option.bind_some, hx, T_ite]
    refine ⟨fun _ => by simp only [T_G, T_some, Sum.elim_inl]; exact ⟨by omega, ⟨by omega, by omega⟩, by omega⟩, fun hp => ?_⟩
    have hp' : ¬ (x.2.2.1 = 4294967295 ∧ x.2.2.2 = 4294967295) := by simpa using hp
    obtain ⟨b1, b2, b3, b4, b5, b6⟩ := s3 hp'
    obtain ⟨w1, w2, w3⟩ := wg hp'
    refine T_bindr (fun o => o = false) ?_ ?_
    · rw [T_G, p_count (by omega), Option.bind_some, if_neg (by omega), T_G, Option.bind_some, T_some]
      exact ⟨by omega, by omega, decide_eq_false (by omega)⟩
    rintro _ rfl
    rw [if_neg (by decide), T_G]
    have R2 : x.2.2.2 < (all.length : Int) := by omega
    have L0 : 0 ≤ x.2.2.1 := by omega
    have R0 : 0 ≤ x.2.2.2 := by omega
    obtain ⟨rL, _, _, eL⟩ := hA.at' x.2.2.1 L0 b2
    obtain ⟨rR, _, _, eR⟩ := hA.at' x.2.2.2 R0 R2
    obtain ⟨p1, p2, _⟩ := shp x.2.2.1 L0 b2
    obtain ⟨q1, q2, _⟩ := shp x.2.2.2 R0 R2
    rw [if_neg (by omega), if_neg (by omega)] at eL
    rw [if_pos b3, if_pos b3] at eR
    rw [eL] at b4 b6 w1 w2 w3 p1 p2
    rw [eR] at b5 b6 w1 w2 w3 q1 q2
    dsimp only at b4 b5 b6 w1 w2 w3 p1 p2 q1 q2
    rw [ends_at e L0 b2, Option.bind_some, T_G, ends_at e R0 R2, Option.bind_some, eL, eR]
    dsimp only
    rw [if_pos rfl, if_pos rfl, if_pos b4, if_pos b5, if_pos b6, if_neg (by omega), if_neg (by omega), p_link (by omega) L0 (by omega), Option.bind_some, p_link (by omega) R0 (by omega), Option.bind_some, T_G, if_pos w3, T_G, T_some]
    simp only [Sum.elim_inl]
    exact ⟨by omega, by omega, by omega, by omega, ⟨by omega, by omega⟩, by omega⟩
  refine T_bindr _ (p_ranks e od n1) ?_
  rintro ⟨rk, er⟩ ⟨rfl, lr, hr⟩
  dsimp only at *
  rw [if_pos rfl, Option.bind_some, if_neg (by simp; omega)]
  refine T_binds (fun _ => True) ?_ fun _ _ => by simp
  refine T_loop (fun i => 0 ≤ i ∧ i ≤ (N.length : Int)) (fun i => ((N.length : Int) - i).toNat) ?_ ⟨by simp, by omega⟩
  rintro i ⟨i0, i1⟩
  unfold z_viaductlaw10_HierFalls_l1
  dsimp only
  rw [T_ite]
  refine ⟨fun hi => ?_, fun hi => by simp⟩
  obtain ⟨v0, v1⟩ := od.1 i i0 hi
  rw [T_G, T_G, if_neg (by omega), T_G, if_pos (hr i i0 hi), T_G, T_some]
  simp only [Sum.elim_inl]
  exact ⟨i0, by omega, by omega, by omega, ⟨by omega, by omega⟩, by omega⟩
end Go.Vd
