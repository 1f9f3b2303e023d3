/- Lists and places. Plain Lean: no program here. -/
import Derived.Test.YtlohhdkkhedejaaGreatDoorPst3
import Derived.Test.YtlohhdkkhedejaaGreatDoorPstSo0
import Derived.Test.YtlohhdkkhedejaaGreatDoorPstVdQ
import Derived.Test.YtlohhdkkhedejaaGreatDoorPstISt
import Derived.Test.YtlohhdkkhedejaaGreatDoorPstVpB
set_option linter.unusedVariables false
set_option linter.unusedSimpArgs false
set_option linter.unusedSectionVars false
/-! (Mo0) -/

namespace Go.Vd
theorem take_gtE {E : Type} [Inhabited E] {l : List E} {i : Int} (h0 : 0 ≤ i) (h1 : i < (l.length : Int)) : l.take (i + 1).toNat = l.take i.toNat ++ [gt l i] := by
 have hi : i.toNat < l.length := by omega
 rw [show (i + 1).toNat = i.toNat + 1 from by omega, List.take_add_one, List.getElem?_eq_getElem hi]
 have : gt l i = l[i.toNat] := by simp [gt, List.getD_eq_getElem?_getD, hi]
 rw [this]; rfl
theorem gt_setE {E : Type} [Inhabited E] {l : List E} {i j : Int} {v : E} (i0 : 0 ≤ i) (i1 : i < (l.length : Int)) (j0 : 0 ≤ j) : gt (l.set i.toNat v) j = if j = i then v else gt l j := by
 unfold gt
 rw [List.getD_eq_getElem?_getD, List.getD_eq_getElem?_getD, List.getElem?_set]
 by_cases h : j = i
 ·subst h; rw [if_pos rfl, if_pos rfl, if_pos (by omega)]; rfl
 ·rw [if_neg h, if_neg (by omega)]
end Go.Vd

/-! (Gb) -/

set_option linter.unusedVariables false
set_option linter.unusedSimpArgs false
namespace Go.Vd
abbrev A3 := Int × Int × Int
theorem eq3 {x y : A3} (h1 : x.1 = y.1) (h2 : x.2.1 = y.2.1) (h3 : x.2.2 = y.2.2) : x = y := by
 obtain ⟨a, b, c⟩ := x; obtain ⟨a', b', c'⟩ := y
 simp only at h1 h2 h3
 subst h1; subst h2; subst h3; rfl
theorem mem_gtE {E : Type} [Inhabited E] {l : List E} {x : E} (h : x ∈ l) : ∃ i : Int, 0 ≤ i ∧ i < (l.length : Int) ∧ x = gt l i := by
 obtain ⟨i, hi, rfl⟩ := List.getElem_of_mem h
 exact ⟨i, by omega, by omega, (gt_nat hi).symm⟩
end Go.Vd

/-! (Gc) -/

set_option linter.unusedVariables false
set_option linter.unusedSimpArgs false
namespace Go.Vd
variable {N : Int} {A L : List A3}
def arcG (N : Int) (a : A3) : Int := if a.1 < 0 ∨ a.1 ≥ N ∨ a.2.1 < 0 ∨ a.2.1 ≥ N then 7 else if a.2.2 < 0 ∨ a.2.2 > 2147483647 then 8 else 0
def BigG (N : Int) (A : List A3) : Prop := N < 0 ∨ N > 65536 ∨ (A.length : Int) > 262144
inductive GChk (N : Int) (A : List A3) : Er → Prop
 | limit : BigG N A → GChk N A (.no 9)
 | arc (i : Int) : ¬ BigG N A → 0 ≤ i → i < (A.length : Int) → arcG N (gt A i) ≠ 0 → (∀ j, 0 ≤ j → j < i → arcG N (gt A j) = 0) → GChk N A (.at 4 i (.no (arcG N (gt A i))))
 | ok : ¬ BigG N A → (∀ j, 0 ≤ j → j < (A.length : Int) → arcG N (gt A j) = 0) → GChk N A .nil
theorem arcG_7 {a : A3} (h : a.1 < 0 ∨ a.1 ≥ N ∨ a.2.1 < 0 ∨ a.2.1 ≥ N) : arcG N a = 7 := by unfold arcG; rw [if_pos h]
theorem arcG_8 {a : A3} (h : ¬ (a.1 < 0 ∨ a.1 ≥ N ∨ a.2.1 < 0 ∨ a.2.1 ≥ N)) (k : a.2.2 < 0 ∨ a.2.2 > 2147483647) : arcG N a = 8 := by unfold arcG; rw [if_neg h, if_pos k]
theorem arcG_0 {a : A3} (h : ¬ (a.1 < 0 ∨ a.1 ≥ N ∨ a.2.1 < 0 ∨ a.2.1 ≥ N)) (k : ¬ (a.2.2 < 0 ∨ a.2.2 > 2147483647)) : arcG N a = 0 := by unfold arcG; rw [if_neg h, if_neg k]
theorem arcG_ok {a : A3} (h : arcG N a = 0) : 0 ≤ a.1 ∧ a.1 < N ∧ 0 ≤ a.2.1 ∧ a.2.1 < N ∧ 0 ≤ a.2.2 ∧ a.2.2 ≤ 2147483647 := by
 unfold arcG at h
 split at h
 ·cases h
 ·split at h
  ·cases h
  ·omega
theorem GChk.uniq {er er' : Er} (h : GChk N A er) (k : GChk N A er') : er = er' := by
 cases h with
 | limit h1 =>
  cases k with
  | limit _ => rfl
  | arc _ k1 => exact absurd h1 k1
  | ok k1 _ => exact absurd h1 k1
 | arc i h1 h2 h3 h4 h5 =>
  cases k with
  | limit k1 => exact absurd k1 h1
  | arc j _ k2 k3 k4 k5 =>
   have : i = j := by
    rcases Int.lt_trichotomy i j with q | q | q
    ·exact absurd (k5 i h2 q) h4
    ·exact q
    ·exact absurd (h5 j k2 q) k4
   rw [this]
  | ok _ k2 => exact absurd (k2 i h2 h3) h4
 | ok h1 h2 =>
  cases k with
  | limit k1 => exact absurd k1 h1
  | arc j _ k2 k3 k4 _ => exact absurd (h2 j k2 k3) k4
  | ok _ _ => rfl
theorem GChk.bad {er : Er} (h : GChk N A er) : (er.code ≠ 0 ∨ er.pls ≠ []) ↔ er ≠ .nil := by
 cases h with
 | limit _ => simp [Er.code]
 | arc i _ _ _ h4 _ => simp [Er.pls]
 | ok _ _ => simp [Er.code, Er.pls]
theorem GChk.small (h : GChk N A .nil) : 0 ≤ N ∧ N ≤ 65536 ∧ (A.length : Int) ≤ 262144 := by
 cases h with
 | ok h1 _ => unfold BigG at h1; omega
theorem GChk.arcs (h : GChk N A .nil) : ∀ a ∈ A, 0 ≤ a.1 ∧ a.1 < N ∧ 0 ≤ a.2.1 ∧ a.2.1 < N ∧ 0 ≤ a.2.2 ∧ a.2.2 ≤ 2147483647 := by
 cases h with
 | ok h1 h2 =>
  intro a ha
  obtain ⟨i, i0, i1, rfl⟩ := mem_gtE ha
  exact arcG_ok (h2 i i0 i1)
theorem GChk.of_arcs (n0 : 0 ≤ N) (n1 : N ≤ 65536) (n2 : (A.length : Int) ≤ 262144) (h : ∀ a ∈ A, 0 ≤ a.1 ∧ a.1 < N ∧ 0 ≤ a.2.1 ∧ a.2.1 < N ∧ 0 ≤ a.2.2 ∧ a.2.2 ≤ 2147483647) : GChk N A .nil :=
 .ok (by unfold BigG; omega) fun j j0 j1 => by have := h _ (gt_mem j0 j1); exact arcG_0 (by omega) (by omega)
theorem p_garc {a : A3} : z_gtext_arc a.1 a.2.1 a.2.2 N = some (if arcG N a = 0 then .nil else .no (arcG N a)) := by
 refine T_eq.1 ?_
 unfold z_gtext_arc
 refine T_bindr (fun o => o = decide (a.1 < 0 ∨ a.1 ≥ N ∨ a.2.1 < 0 ∨ a.2.1 ≥ N)) ?_ ?_
 ·unfold z_gtext_within
  simp only [T_bind, T_ite, T_some]
  refine ⟨fun h1 => ⟨fun h2 => ⟨fun h3 => ?_, fun h3 => ?_⟩, fun h2 => ?_⟩, fun h1 => ⟨fun h2 => ?_, fun h2 => ?_⟩⟩
  ·have h2' : a.1 < N := by simpa using h2
   by_cases h4 : a.2.1 < N
   ·simp [h4]; omega
   ·simp [h4]; omega
  ·simp; omega
  ·have h2' : ¬ a.1 < N := by simpa using h2
   simp; omega
  ·simp at h2
  ·simp; omega
 ·rintro _ rfl
  by_cases h : a.1 < 0 ∨ a.1 ≥ N ∨ a.2.1 < 0 ∨ a.2.1 ≥ N
  ·rw [arcG_7 h]; simp [h]
  ·rw [decide_eq_false h, if_neg (by decide)]
   by_cases k1 : a.2.2 < 0
   ·rw [if_pos k1, arcG_8 h (.inl k1)]; simp
   ·rw [if_neg k1]
    by_cases k2 : a.2.2 > 2147483647
    ·rw [if_pos k2, arcG_8 h (.inr k2)]; simp
    ·rw [if_neg k2, arcG_0 h (by omega)]; simp
theorem p_fAtG {k i : Int} {e : Er} (h : e ≠ .nil) : z_fault_At k i e = some (.at k i e) := by
 unfold z_fault_At; rw [if_neg h]
theorem p_big : T (if N < 0 then (some true) else (if N > 65536 then (some true) else (some (decide ((A.length : Int) > 262144)))) : Option Bool) fun o => o = true ↔ BigG N A := by
 unfold BigG
 simp only [T_ite, T_some]
 exact ⟨fun h => by simp [h], fun h => ⟨fun h2 => by simp [h2], fun h2 => by simp; omega⟩⟩
theorem p_gCheck : T (z_gtext_Check N A) (GChk N A) := by
 unfold z_gtext_Check
 refine T_bindr _ p_big fun o ho => ?_
 rw [T_ite]
 refine ⟨fun h => by simp only [T_some]; exact .limit (ho.1 h), fun h => ?_⟩
 have hb : ¬ BigG N A := fun k => h (ho.2 k)
 have hl : (A.length : Int) ≤ 262144 := by unfold BigG at hb; omega
 refine T_binds (fun _ => ∀ j, 0 ≤ j → j < (A.length : Int) → arcG N (gt A j) = 0) ?_ fun _ h => by simp only [T_some]; exact .ok hb h
 refine T_loop (fun i => 0 ≤ i ∧ i ≤ (A.length : Int) ∧ ∀ j, 0 ≤ j → j < i → arcG N (gt A j) = 0) (fun i => ((A.length : Int) - i).toNat) ?_ ⟨by simp, by simp, fun j j0 j1 => by omega⟩
 rintro i ⟨i0, i1, hi⟩
 unfold z_gtext_Check_l0
 rw [T_ite]
 refine ⟨fun hlt => ?_, fun hge => by simp only [T_some, Sum.elim_inr]; exact fun j j0 j1 => hi j j0 (by omega)⟩
 rw [T_G, p_garc, Option.bind_some]
 refine ⟨i0, ?_⟩
 by_cases h0 : arcG N (gt A i) = 0
 ·rw [if_pos h0, if_pos rfl]
  simp only [T_G, T_some, Sum.elim_inl]
  refine ⟨by omega, ⟨by omega, by omega, fun j j0 j1 => ?_⟩, by omega⟩
  by_cases e : j = i
  ·rw [e]; exact h0
  ·exact hi j j0 (by omega)
 ·rw [if_neg h0, if_neg (by simp), p_fAtG (by simp), Option.bind_some]
  simp only [T_map, T_some, Sum.elim_inr, Sum.elim_inl]
  exact .arc i hb i0 hlt h0 hi
def swp3 (a : A3) : A3 := (a.2.1, a.1, a.2.2)
inductive RevA (N : Int) (A : List A3) : Int → List A3 → Er → Prop
 | bad (er : Er) : GChk N A er → er ≠ .nil → RevA N A 0 [] er
 | ok : GChk N A .nil → RevA N A N (A.map swp3) .nil
theorem GChk.rev (h : GChk N A .nil) : GChk N (A.map swp3) .nil := by
 obtain ⟨n0, n1, n2⟩ := h.small
 refine .of_arcs n0 n1 (by simpa using n2) fun a ha => ?_
 obtain ⟨b, hb, rfl⟩ := List.mem_map.1 ha
 have := h.arcs b hb
 unfold swp3; dsimp only; omega
end Go.Vd

/-! (PrGd) -/

set_option linter.unusedVariables false
set_option linter.unusedSimpArgs false
namespace Go.Vd
variable {N : Int} {A L : List A3}
theorem p_gDocCheck : T (z_viaductref03_DocCheck N A) fun r => ∃ er, GChk N A er ∧ r = (er.code, er.pls) := by
 unfold z_viaductref03_DocCheck
 refine T_bindr _ p_big fun o ho => ?_
 rw [T_ite]
 refine ⟨fun h => by rw [p_E, Option.bind_some]; simp only [T_some]; exact ⟨.no 9, .limit (ho.1 h), rfl⟩, fun h => ?_⟩
 have hb : ¬ BigG N A := fun k => h (ho.2 k)
 have hl : (A.length : Int) ≤ 262144 := by unfold BigG at hb; omega
 refine T_binds (fun _ => ∀ j, 0 ≤ j → j < (A.length : Int) → arcG N (gt A j) = 0) ?_ fun _ h => by simp only [T_some]; exact ⟨.nil, .ok hb h, rfl⟩
 refine T_loop (fun i => 0 ≤ i ∧ i ≤ (A.length : Int) ∧ ∀ j, 0 ≤ j → j < i → arcG N (gt A j) = 0) (fun i => ((A.length : Int) - i).toNat) ?_ ⟨by simp, by simp, fun j j0 j1 => by omega⟩
 rintro i ⟨i0, i1, hi⟩
 unfold z_viaductref03_DocCheck_l0
 rw [T_ite]
 refine ⟨fun hlt => ?_, fun hge => by simp only [T_some, Sum.elim_inr]; exact fun j j0 j1 => hi j j0 (by omega)⟩
 rw [T_G]
 refine ⟨i0, T_bindr (fun o => o = true ↔ ((gt A i).1 < 0 ∨ (gt A i).1 ≥ N ∨ (gt A i).2.1 < 0 ∨ (gt A i).2.1 ≥ N)) ?_ fun o ho => ?_⟩
 ·simp only [T_ite, T_some]
  refine ⟨fun h => by simp [h], fun h1 => ⟨fun h => by simp; omega, fun h2 => ⟨fun h => by simp [h], fun h3 => by simp; omega⟩⟩⟩
 rw [T_ite]
 refine ⟨fun h => ?_, fun h => ?_⟩
 ·have h7 := arcG_7 (ho.1 h)
  rw [p_E, Option.bind_some, p_At (by simp), Option.bind_some]
  simp only [T_map, T_some, Sum.elim_inr, Sum.elim_inl]
  refine ⟨_, .arc i hb i0 hlt (by rw [h7]; decide) hi, ?_⟩
  rw [h7]; rfl
 ·have hn : ¬ ((gt A i).1 < 0 ∨ (gt A i).1 ≥ N ∨ (gt A i).2.1 < 0 ∨ (gt A i).2.1 ≥ N) := fun k => h (ho.2 k)
  refine T_bindr (fun o => o = true ↔ ((gt A i).2.2 < 0 ∨ (gt A i).2.2 > 2147483647)) ?_ fun o ho => ?_
  ·simp only [T_ite, T_some]
   exact ⟨fun h => by simp [h], fun h => by simp; omega⟩
  rw [T_ite]
  refine ⟨fun h => ?_, fun h => ?_⟩
  ·have h8 := arcG_8 hn (ho.1 h)
   rw [p_E, Option.bind_some, p_At (by simp), Option.bind_some]
   simp only [T_map, T_some, Sum.elim_inr, Sum.elim_inl]
   refine ⟨_, .arc i hb i0 hlt (by rw [h8]; decide) hi, ?_⟩
   rw [h8]; rfl
  ·have h0 := arcG_0 hn fun k => h (ho.2 k)
   simp only [T_G, T_some, Sum.elim_inl]
   refine ⟨by omega, ⟨by omega, by omega, fun j j0 j1 => ?_⟩, by omega⟩
   by_cases e : j = i
   ·rw [e]; exact h0
   ·exact hi j j0 (by omega)
end Go.Vd

/-! (PrGf) -/

set_option linter.unusedVariables false
set_option linter.unusedSimpArgs false
namespace Go.Vd
variable {N : Int} {A L : List A3}
theorem p_Few {most : Int} : T (z_viaductref04_Few N A most) fun b => b = true ↔ (GChk N A .nil ∧ N ≤ most ∧ (A.length : Int) ≤ 2000) := by
 unfold z_viaductref04_Few
 refine T_bindr _ p_gDocCheck ?_
 rintro _ ⟨er, hc, rfl⟩
 dsimp only
 rw [p_Bad, Option.bind_some, T_ite]
 refine ⟨fun h => ?_, fun h => ?_⟩
 ·have hne := hc.bad.1 (by simpa using h)
  simp only [T_some]
  simp; exact fun k => absurd (hc.uniq k) hne
 ·have he : er = .nil := Classical.not_not.1 fun k => h (by simpa using hc.bad.2 k)
  subst he
  rw [T_ite]
  simp only [T_some]
  exact ⟨fun h => by simp [hc, h], fun h => by simp; intro _ k; omega⟩
end Go.Vd

/-! (So3r) -/

set_option linter.unusedVariables false
set_option linter.unusedSectionVars false
set_option linter.unusedSimpArgs false
namespace Go.Vd
variable {N : Int} {A L : List A3}
theorem p_Rev : T (z_normal_Reverse N A) fun r => RevA N A r.1 r.2.1 r.2.2 := by
 unfold z_normal_Reverse
 refine T_bindr _ p_gCheck fun er hc => ?_
 rw [T_ite]
 refine ⟨fun he => ?_, fun he => by simp only [T_some]; exact .bad er hc he⟩
 subst he
 obtain ⟨n0, n1, n2⟩ := hc.small
 refine T_bindr (fun c => c = A.map swp3) ?_ ?_
 ·refine T_loop (fun z => 0 ≤ z.1 ∧ z.1 ≤ (A.length : Int) ∧ z.2 = (A.take z.1.toNat).map swp3) (fun z => ((A.length : Int) - z.1).toNat) ?_ ⟨by simp, by simp, by simp⟩
  rintro ⟨i, c⟩ ⟨i0, i1, e⟩
  dsimp only at *
  subst e
  unfold z_normal_Reverse_l0
  rw [T_ite]
  refine ⟨fun hlt => ?_, fun hge => ?_⟩
  rotate_left
  ·simp only [T_some, Sum.elim_inr]
   rw [List.take_of_length_le (by omega)]
  simp only [T_G, T_some, Sum.elim_inl, List.length_map, List.length_take]
  refine ⟨i0, by omega, by omega, ⟨by omega, by omega, ?_⟩, by omega⟩
  rw [take_gtE i0 hlt, List.map_append]; rfl
 ·rintro _ rfl
  simp only [T_some]
  exact .ok hc
end Go.Vd

/-! (So1) -/

set_option linter.unusedVariables false
set_option linter.unusedSimpArgs false
namespace Go.Vd
theorem p_Compare {x y : Int} : z_cmp_Compare x y = some (if x < y then -1 else if x > y then 1 else 0) := by
 unfold z_cmp_Compare z_cmp_isNaN
 simp only [Option.bind_some]
 simp
 by_cases h1 : x < y
 ·simp [h1]
 ·by_cases h2 : y < x <;> simp [h1, h2]
theorem p_Or3 {a b c : Int} : z_cmp_Or [a, b, c] = some (if a ≠ 0 then a else if b ≠ 0 then b else c) := by
 unfold z_cmp_Or
 have h3 : z_cmp_Or_l0 [a, b, c] 3 = some (Sum.inr (Sum.inr ())) := by unfold z_cmp_Or_l0; rw [if_neg (by simp)]
 have step : ∀ i : Int, 0 ≤ i → i < 3 → z_cmp_Or_l0 [a, b, c] i = if gt [a, b, c] i = 0 then some (Sum.inl (i + 1)) else some (Sum.inr (Sum.inl (gt [a, b, c] i))) := fun i i0 i1 => by
  unfold z_cmp_Or_l0 G
  rw [if_pos (by simp; omega), if_pos i0]
  split
  ·rw [if_pos (by omega)]
  ·rfl
 have g0 : gt [a, b, c] 0 = a := rfl
 have g1 : gt [a, b, c] 1 = b := rfl
 have g2 : gt [a, b, c] 2 = c := rfl
 rw [loopO_eq, step 0 (by omega) (by omega), g0]
 by_cases ha : a = 0
 ·rw [if_pos ha, if_neg (by simp [ha]), Option.bind_some, Sum.elim_inl, show (0 : Int) + 1 = 1 from rfl, loopO_eq, step 1 (by omega) (by omega), g1]
  by_cases hb : b = 0
  ·rw [if_pos hb, if_neg (by simp [hb]), Option.bind_some, Sum.elim_inl, show (1 : Int) + 1 = 2 from rfl, loopO_eq, step 2 (by omega) (by omega), g2]
   by_cases hc : c = 0
   ·rw [if_pos hc, Option.bind_some, Sum.elim_inl, show (2 : Int) + 1 = 3 from rfl, loopO_eq, h3]
    simp [hc]
   ·rw [if_neg hc]; simp
  ·rw [if_neg hb, if_pos hb]; simp
 ·rw [if_neg ha, if_pos ha]; simp
def lt3 (x y : Int × Int × Int) : Prop := x.1 < y.1 ∨ (x.1 = y.1 ∧ (x.2.1 < y.2.1 ∨ (x.2.1 = y.2.1 ∧ x.2.2 < y.2.2)))
instance (x y : Int × Int × Int) : Decidable (lt3 x y) := by unfold lt3; infer_instance
noncomputable abbrev ord3 : Int × Int × Int → Int × Int × Int → Option Int := fun a_ b_ => z_normal_order a_.1 a_.2.1 a_.2.2 b_.1 b_.2.1 b_.2.2
theorem p_order (x y : Int × Int × Int) : ∃ r, ord3 x y = some r ∧ (r < 0 ↔ lt3 x y) := by
 unfold ord3 z_normal_order
 simp only [p_Compare, Option.bind_some, p_Or3]
 refine ⟨_, rfl, ?_⟩
 unfold lt3
 by_cases a1 : x.1 < y.1
 ·simp [a1]
 ·by_cases a2 : x.1 > y.1
  ·have : ¬ x.1 = y.1 := by omega
   simp [a1, a2, this]
  ·have e : x.1 = y.1 := by omega
   by_cases b1 : x.2.1 < y.2.1
   ·simp [e, b1]
   ·by_cases b2 : x.2.1 > y.2.1
    ·have : ¬ x.2.1 = y.2.1 := by omega
     simp [e, b1, b2, this]
    ·have e2 : x.2.1 = y.2.1 := by omega
     by_cases c1 : x.2.2 < y.2.2
     ·simp [e, e2, c1]
     ·by_cases c2 : x.2.2 > y.2.2 <;> simp [e, e2, c1, c2]
theorem ord3_lt (x y : Int × Int × Int) : (ord3 x y).getD 0 < 0 ↔ lt3 x y := by
 obtain ⟨r, h1, h2⟩ := p_order x y
 rw [h1]; exact h2
theorem ord3_ok : SortOk ord3 :=
 { ans := fun x y => let ⟨r, h, _⟩ := p_order x y; ⟨r, h⟩
   irr := fun x => by rw [ord3_lt]; unfold lt3; omega
   trn := fun x y z => by rw [ord3_lt, ord3_lt, ord3_lt]; unfold lt3; omega
   ntr := fun x y z => by rw [ord3_lt, ord3_lt, ord3_lt]; unfold lt3; omega
   tot := fun x y h1 h2 => by
    rw [ord3_lt] at h1 h2
    obtain ⟨x1, x2, x3⟩ := x
    obtain ⟨y1, y2, y3⟩ := y
    unfold lt3 at h1 h2
    dsimp only at h1 h2
    simp only [Prod.mk.injEq]
    omega }
theorem p_sort (xs : List (Int × Int × Int)) : sortO (fun (a_ b_ : Int × Int × Int) => z_normal_order a_.1 a_.2.1 a_.2.2 b_.1 b_.2.1 b_.2.2) xs = some (sortL ord3 xs) := sortO_ok ord3_ok xs
theorem sort_rise (xs : List (Int × Int × Int)) : (sortL ord3 xs).Pairwise fun x y => ¬ lt3 y x := (sortL_sorted ord3_ok xs).imp fun h => by rwa [ord3_lt] at h
def key2 (x y : Int × Int × Int) : Prop := x.1 = y.1 ∧ x.2.1 = y.2.1
instance (x y : Int × Int × Int) : Decidable (key2 x y) := by unfold key2; infer_instance
theorem p_like {x y : Int × Int × Int} : z_normal_Of_1 x.1 x.2.1 x.2.2 y.1 y.2.1 y.2.2 = some (decide (key2 x y)) := by
 unfold z_normal_Of_1 key2
 by_cases h : x.1 = y.1 <;> simp [h]
def cpt (s : List (Int × Int × Int)) : Nat → List (Int × Int × Int)
 | 0 => []
 | k + 1 => cpt s k ++ if k ≠ 0 ∧ key2 (gt s (k : Int)) (gt s ((k : Int) - 1)) then [] else [gt s (k : Int)]
theorem cpt_len (s : List (Int × Int × Int)) (k : Nat) : (cpt s k).length ≤ k := by
 induction k with
 | zero => simp [cpt]
 | succ k ih =>
  simp only [cpt, List.length_append]
  split <;> simp <;> omega
theorem cpt_next {s : List (Int × Int × Int)} {i : Int} (i0 : 0 ≤ i) : cpt s (i + 1).toNat = cpt s i.toNat ++ if i ≠ 0 ∧ key2 (gt s i) (gt s (i - 1)) then [] else [gt s i] := by
 rw [show (i + 1).toNat = i.toNat + 1 from by omega]
 simp only [cpt]
 rw [show ((i.toNat : Nat) : Int) = i from by omega]
 have : i.toNat ≠ 0 ↔ i ≠ 0 := by omega
 simp only [ne_eq, this]
theorem gt_drop {E : Type} [Inhabited E] {l : List E} {k j : Int} (k0 : 0 ≤ k) (j0 : 0 ≤ j) : gt (l.drop k.toNat) j = gt l (k + j) := by
 unfold gt
 rw [List.getD_eq_getElem?_getD, List.getD_eq_getElem?_getD, List.getElem?_drop, show k.toNat + j.toNat = (k + j).toNat from by omega]
theorem p_Compact {s : List (Int × Int × Int)} (hl : s.length ≤ 1000000000000) : T (z_slices_CompactFunc s) fun r => r.1 = cpt s s.length := by
 unfold z_slices_CompactFunc
 rw [T_ite]
 have c1 : 0 < s.length → cpt s 1 = s.take 1 := fun h => by
  simp only [cpt]
  have := take_gtE (l := s) (i := 0) (by omega) (by omega)
  simpa using this.symm
 refine ⟨fun h => ?_, fun h => ?_⟩
 ·simp only [T_some]
  by_cases h0 : s.length = 0
  ·rw [h0]; exact List.eq_nil_of_length_eq_zero h0
  ·have : s.length = 1 := by omega
   have h2 := c1 (by omega)
   rw [this, h2, List.take_of_length_le (by omega)]
 refine T_binds (fun _ => cpt s s.length = s) ?_ fun _ h => by simp only [T_some]; exact h.symm
 refine T_loop (fun k => 1 ≤ k ∧ k ≤ (s.length : Int) ∧ cpt s k.toNat = s.take k.toNat) (fun k => ((s.length : Int) - k).toNat) ?_ ⟨by omega, by omega, c1 (by omega)⟩
 rintro k ⟨k0, k1, hk⟩
 unfold z_slices_CompactFunc_l1
 rw [T_ite]
 refine ⟨fun hlt => ?_, fun hge => ?_⟩
 rotate_left
 ·simp only [T_some, Sum.elim_inr]
  have : k = s.length := by omega
  subst this
  simpa using hk
 simp only [T_G]
 refine ⟨by omega, by omega, by omega, ?_⟩
 rw [p_like, Option.bind_some, T_ite]
 refine ⟨fun heq => ?_, fun hne => ?_⟩
 rotate_left
 ·have hne' : ¬ key2 (gt s k) (gt s (k - 1)) := by simpa using hne
  simp only [T_G, T_some, Sum.elim_inl]
  refine ⟨by omega, ⟨by omega, by omega, ?_⟩, by omega⟩
  rw [cpt_next (by omega), if_neg (fun h => hne' h.2), hk]
  exact (take_gtE (by omega) hlt).symm
 have heq' : key2 (gt s k) (gt s (k - 1)) := by simpa using heq
 simp only [T_G]
 refine ⟨by omega, ?_⟩
 refine T_bindr (fun r => (r.1.length : Int) = s.length ∧ 0 ≤ r.2 ∧ r.2 ≤ (s.length : Int) ∧ cpt s s.length = r.1.take r.2.toNat) ?_ ?_
 ·refine T_loop (fun z => 1 ≤ z.2.2 ∧ z.2.2 ≤ (s.length : Int) - k ∧ k ≤ z.2.1 ∧ z.2.1 ≤ k + z.2.2 - 1 ∧ (z.1.length : Int) = s.length ∧ cpt s (k + z.2.2).toNat = z.1.take z.2.1.toNat ∧ ∀ j, k + z.2.2 - 1 ≤ j → gt z.1 j = gt s j) (fun z => ((s.length : Int) - k - z.2.2).toNat) ?_ ⟨by simp, by dsimp only; omega, by simp, by dsimp only; omega, rfl, ?_, fun _ _ => rfl⟩
  rotate_left
  ·dsimp only
   rw [cpt_next (by omega), if_pos ⟨by omega, heq'⟩, hk, List.append_nil]
  rintro ⟨s0, k1', k2⟩ ⟨a0, a1, a2, a3, a4, a5, a6⟩
  dsimp only at *
  have hdl : ((s0.drop k.toNat).length : Int) = s.length - k := by rw [List.length_drop]; omega
  unfold z_slices_CompactFunc_l0
  rw [hdl, T_ite]
  refine ⟨fun hlt2 => ?_, fun hge2 => ?_⟩
  rotate_left
  ·simp only [T_some, Sum.elim_inr]
   have : k + k2 = s.length := by omega
   rw [this] at a5
   exact ⟨a4, by omega, by omega, by simpa using a5⟩
  have e1 : gt (s0.drop k.toNat) k2 = gt s (k + k2) := by rw [gt_drop (by omega) (by omega)]; exact a6 _ (by omega)
  have e2 : gt (s0.drop k.toNat) (k2 - 1) = gt s (k + k2 - 1) := by rw [gt_drop (by omega) (by omega), show k + (k2 - 1) = k + k2 - 1 from by omega]; exact a6 _ (by omega)
  simp only [T_G]
  refine ⟨by omega, by omega, by omega, ?_⟩
  rw [p_like, e1, e2, Option.bind_some, T_ite]
  have nx : (k + (k2 + 1)).toNat = (k + k2 + 1).toNat := by omega
  refine ⟨fun hn => ?_, fun hy => ?_⟩
  ·have hn' : ¬ key2 (gt s (k + k2)) (gt s (k + k2 - 1)) := by simpa using hn
   simp only [T_G, T_some, Sum.elim_inl]
   refine ⟨by omega, by omega, by omega, ⟨by omega, by omega, by omega, by omega, by simpa using a4, ?_, fun j hj => ?_⟩, by omega⟩
   ·rw [nx, cpt_next (by omega), if_neg (fun h => hn' h.2), a5]
    have h1 := take_gtE (l := s0.set k1'.toNat (gt s (k + k2))) (i := k1') (by omega) (by simp; omega)
    rw [h1, gt_setE (by omega) (by omega) (by omega), if_pos rfl, List.take_set_of_le (Nat.le_refl _)]
   ·rw [gt_setE (by omega) (by omega) (by omega), if_neg (by omega)]; exact a6 j (by omega)
  ·have hy' : key2 (gt s (k + k2)) (gt s (k + k2 - 1)) := by simpa using hy
   simp only [T_G, T_some, Sum.elim_inl]
   refine ⟨by omega, ⟨by omega, by omega, by omega, by omega, a4, ?_, fun j hj => a6 j (by omega)⟩, by omega⟩
   rw [nx, cpt_next (by omega), if_pos ⟨by omega, hy'⟩, a5, List.append_nil]
 ·rintro ⟨r, q⟩ ⟨b1, b2, b3, b4⟩
  dsimp only at *
  have hlen : ((r.take q.toNat ++ List.replicate (r.length - q.toNat) ((0, 0, 0) : Int × Int × Int)).length : Int) = r.length := by simp; omega
  simp only [T_G, T_map, T_some, Sum.elim_inr, Sum.elim_inl]
  refine ⟨by omega, by omega, by omega, ?_⟩
  rw [List.take_left' (by rw [List.length_take]; omega)]
  exact b4.symm
end Go.Vd

/-! (So2) -/

set_option linter.unusedVariables false
set_option linter.unusedSectionVars false
set_option linter.unusedSimpArgs false
namespace Go.Vd
def ltk (x y : A3) : Prop := x.1 < y.1 ∨ (x.1 = y.1 ∧ x.2.1 < y.2.1)
structure Nrm (A L : List A3) : Prop where
 inc : L.Pairwise ltk
 sub : ∀ a ∈ L, a ∈ A ∧ a.1 ≠ a.2.1 ∧ ∀ b ∈ A, key2 b a → a.2.2 ≤ b.2.2
 sup : ∀ a ∈ A, a.1 ≠ a.2.1 → ∃ b ∈ L, key2 b a
theorem sorted_eq : ∀ {L M : List A3}, L.Pairwise ltk → M.Pairwise ltk → (∀ x, x ∈ L ↔ x ∈ M) → L = M := by
 intro L
 induction L with
 | nil =>
  intro M _ _ h
  cases M with
  | nil => rfl
  | cons b M => have := (h b).2 (List.mem_cons_self ..); cases this
 | cons a L ih =>
  intro M hL hM h
  cases M with
  | nil => have := (h a).1 (List.mem_cons_self ..); cases this
  | cons b M =>
   have hab : a = b := by
    rcases List.mem_cons.1 ((h a).1 (List.mem_cons_self ..)) with h1 | h1
    ·exact h1
    ·rcases List.mem_cons.1 ((h b).2 (List.mem_cons_self ..)) with h2 | h2
     ·exact h2.symm
     ·have k1 := (List.pairwise_cons.1 hM).1 a h1
      have k2 := (List.pairwise_cons.1 hL).1 b h2
      unfold ltk at k1 k2
      omega
   subst hab
   rw [ih (List.pairwise_cons.1 hL).2 (List.pairwise_cons.1 hM).2 fun x => ⟨fun hx => ?_, fun hx => ?_⟩]
   ·rcases List.mem_cons.1 ((h x).1 (List.mem_cons_of_mem _ hx)) with rfl | h1
    ·have := (List.pairwise_cons.1 hL).1 x hx
     unfold ltk at this; omega
    ·exact h1
   ·rcases List.mem_cons.1 ((h x).2 (List.mem_cons_of_mem _ hx)) with rfl | h1
    ·have := (List.pairwise_cons.1 hM).1 x hx
     unfold ltk at this; omega
    ·exact h1
theorem inc_tri {L : List A3} (h : L.Pairwise ltk) : ∀ x ∈ L, ∀ y ∈ L, x = y ∨ ltk x y ∨ ltk y x := by
 induction L with
 | nil => intro x hx; cases hx
 | cons a L ih =>
  intro x hx y hy
  obtain ⟨h1, h2⟩ := List.pairwise_cons.1 h
  rcases List.mem_cons.1 hx with ex | hx'
  ·rcases List.mem_cons.1 hy with ey | hy'
   ·exact .inl (ex.trans ey.symm)
   ·rw [ex]; exact .inr (.inl (h1 y hy'))
  ·rcases List.mem_cons.1 hy with ey | hy'
   ·rw [ey]; exact .inr (.inr (h1 x hx'))
   ·exact ih h2 x hx' y hy'
theorem inc_key {L : List A3} (h : L.Pairwise ltk) {x y : A3} (hx : x ∈ L) (hy : y ∈ L) (k : key2 x y) : x = y := by
 rcases inc_tri h x hx y hy with h | h | h
 ·exact h
 ·unfold ltk at h; unfold key2 at k; omega
 ·unfold ltk at h; unfold key2 at k; omega
theorem Nrm.mem {A L M : List A3} (h : Nrm A L) (k : Nrm A M) {x : A3} (hx : x ∈ L) : x ∈ M := by
 obtain ⟨h1, h2, h3⟩ := h.sub x hx
 obtain ⟨b, b1, b2⟩ := k.sup x h1 h2
 obtain ⟨k1, k2, k3⟩ := k.sub b b1
 have e1 := h3 b k1 b2
 have e2 := k3 x h1 ⟨b2.1.symm, b2.2.symm⟩
 have : x = b := eq3 b2.1.symm b2.2.symm (by omega)
 rw [this]; exact b1
theorem Nrm.uniq {A L M : List A3} (h : Nrm A L) (k : Nrm A M) : L = M :=
 sorted_eq h.inc k.inc fun x => ⟨h.mem k, k.mem h⟩
theorem Nrm.self {A L : List A3} (h : Nrm A L) : Nrm L L :=
 ⟨h.inc, fun a ha => ⟨ha, (h.sub a ha).2.1, fun b hb k => by rw [inc_key h.inc hb ha k]; exact Int.le_refl _⟩, fun a ha _ => ⟨a, ha, rfl, rfl⟩⟩
section
variable {s : List A3} (hs : ∀ i j : Int, 0 ≤ i → i < j → j < (s.length : Int) → ¬ lt3 (gt s j) (gt s i))
include hs
theorem rise2 {i j : Int} (i0 : 0 ≤ i) (ij : i < j) (j1 : j < (s.length : Int)) : ltk (gt s i) (gt s j) ∨ (key2 (gt s i) (gt s j) ∧ (gt s i).2.2 ≤ (gt s j).2.2) := by
 have := hs i j i0 ij j1
 unfold lt3 at this; unfold ltk key2
 omega
theorem cpt_mem {k : Nat} (hk : k ≤ s.length) : ∀ x ∈ cpt s k, ∃ i : Int, 0 ≤ i ∧ i < k ∧ x = gt s i := by
 induction k with
 | zero => intro x hx; cases hx
 | succ k ih =>
  intro x hx
  simp only [cpt] at hx
  rcases List.mem_append.1 hx with hx | hx
  ·obtain ⟨i, i0, i1, e⟩ := ih (by omega) x hx
   exact ⟨i, i0, by omega, e⟩
  ·split at hx
   ·cases hx
   ·exact ⟨k, by omega, by omega, List.mem_singleton.1 hx⟩
theorem cpt_inc {k : Nat} (hk : k ≤ s.length) : (cpt s k).Pairwise ltk := by
 induction k with
 | zero => exact .nil
 | succ k ih =>
  simp only [cpt]
  split
  ·rw [List.append_nil]; exact ih (by omega)
  ·rename_i hn
   rw [List.pairwise_append]
   refine ⟨ih (by omega), List.pairwise_singleton _ _, fun x hx y hy => ?_⟩
   obtain rfl := List.mem_singleton.1 hy
   obtain ⟨i, i0, i1, rfl⟩ := cpt_mem hs (by omega) x hx
   have hk0 : k ≠ 0 := by omega
   have hn' : ¬ key2 (gt s (k : Int)) (gt s ((k : Int) - 1)) := fun q => hn ⟨hk0, q⟩
   have h1 := rise2 hs (i := (k : Int) - 1) (j := k) (by omega) (by omega) (by omega)
   by_cases e : i = (k : Int) - 1
   ·subst e
    unfold ltk key2 at *; omega
   ·have h2 := rise2 hs (i := i) (j := (k : Int) - 1) i0 (by omega) (by omega)
    unfold ltk key2 at *; omega
theorem cpt_has {k : Nat} (hk : k ≤ s.length) : ∀ i : Int, 0 ≤ i → i < k → ∃ x ∈ cpt s k, key2 x (gt s i) ∧ x.2.2 ≤ (gt s i).2.2 := by
 induction k with
 | zero => intro i i0 i1; simp at i1; omega
 | succ k ih =>
  intro i i0 i1
  by_cases e : i = (k : Int)
  ·subst e
   by_cases hn : k ≠ 0 ∧ key2 (gt s (k : Int)) (gt s ((k : Int) - 1))
   ·obtain ⟨x, h1, h2, h3⟩ := ih (by omega) ((k : Int) - 1) (by omega) (by omega)
    refine ⟨x, by simp only [cpt]; exact List.mem_append_left _ h1, ?_, ?_⟩
    ·have := hn.2; unfold key2 at *; omega
    ·have h4 := rise2 hs (i := (k : Int) - 1) (j := k) (by omega) (by omega) (by omega)
     have := hn.2; unfold ltk key2 at *; omega
   ·refine ⟨gt s (k : Int), ?_, ⟨rfl, rfl⟩, Int.le_refl _⟩
    simp only [cpt]
    rw [if_neg hn]
    exact List.mem_append_right _ (List.mem_singleton.2 rfl)
  ·obtain ⟨x, h1, h2⟩ := ih (by omega) i i0 (by omega)
   exact ⟨x, by simp only [cpt]; exact List.mem_append_left _ h1, h2⟩
end
def noLp (a : A3) : Bool := !decide (a.1 = a.2.1)
theorem nrm_of {A F s : List A3} (hF : F = A.filter noLp) (hp : s.Perm F) (hs : s.Pairwise fun x y => ¬ lt3 y x) : Nrm A (cpt s s.length) := by
 have hs' : ∀ i j : Int, 0 ≤ i → i < j → j < (s.length : Int) → ¬ lt3 (gt s j) (gt s i) := fun i j i0 ij j1 => by
  obtain ⟨i, rfl⟩ := Int.eq_ofNat_of_zero_le i0
  obtain ⟨j, rfl⟩ := Int.eq_ofNat_of_zero_le (show 0 ≤ j by omega)
  rw [gt_nat (show i < s.length by omega), gt_nat (show j < s.length by omega)]
  exact List.pairwise_iff_getElem.1 hs i j (by omega) (by omega) (by omega)
 have mem : ∀ x, x ∈ s ↔ (x ∈ A ∧ x.1 ≠ x.2.1) := fun x => by
  rw [hp.mem_iff, hF, List.mem_filter]; simp [noLp]
 have inc := cpt_inc hs' (Nat.le_refl _)
 refine ⟨inc, fun a ha => ?_, fun a ha hn => ?_⟩
 ·obtain ⟨i, i0, i1, e⟩ := cpt_mem hs' (Nat.le_refl _) a ha
  have hm := (mem a).1 (by rw [e]; exact gt_mem i0 i1)
  refine ⟨hm.1, hm.2, fun b hb hk => ?_⟩
  have hbn : b.1 ≠ b.2.1 := by have := hm.2; unfold key2 at hk; omega
  obtain ⟨j, j0, j1, rfl⟩ := mem_gtE ((mem b).2 ⟨hb, hbn⟩)
  obtain ⟨x, x1, x2, x3⟩ := cpt_has hs' (Nat.le_refl _) j j0 j1
  have : x = a := inc_key inc x1 ha (by unfold key2 at *; omega)
  rw [← this]; exact x3
 ·obtain ⟨j, j0, j1, rfl⟩ := mem_gtE ((mem a).2 ⟨ha, hn⟩)
  obtain ⟨x, x1, x2, _⟩ := cpt_has hs' (Nat.le_refl _) j j0 j1
  exact ⟨x, x1, x2⟩
end Go.Vd

/-! (So3) -/

set_option linter.unusedVariables false
set_option linter.unusedSimpArgs false
namespace Go.Vd
variable {N : Int} {A L : List A3}
inductive OfA (N : Int) (A : List A3) : Int → List A3 → Er → Prop
 | bad (er : Er) : GChk N A er → er ≠ .nil → OfA N A 0 [] er
 | ok (L : List A3) : GChk N A .nil → Nrm A L → L.length ≤ A.length → OfA N A N L .nil
theorem p_Of : T (z_normal_Of N A) fun r => OfA N A r.1 r.2.1 r.2.2 := by
 unfold z_normal_Of
 refine T_bindr _ p_gCheck fun er hc => ?_
 rw [T_ite]
 refine ⟨fun he => ?_, fun he => by simp only [T_some]; exact .bad er hc he⟩
 subst he
 obtain ⟨n0, n1, n2⟩ := hc.small
 refine T_bindr (fun c => c = A.filter noLp) ?_ ?_
 ·refine T_loop (fun z => 0 ≤ z.1 ∧ z.1 ≤ (A.length : Int) ∧ z.2 = (A.take z.1.toNat).filter noLp) (fun z => ((A.length : Int) - z.1).toNat) ?_ ⟨by simp, by simp, by simp⟩
  rintro ⟨i, c⟩ ⟨i0, i1, e⟩
  dsimp only at *
  subst e
  unfold z_normal_Of_l0
  rw [T_ite]
  refine ⟨fun hlt => ?_, fun hge => ?_⟩
  rotate_left
  ·simp only [T_some, Sum.elim_inr]
   rw [List.take_of_length_le (by omega)]
  have hll := List.length_filter_le noLp (A.take i.toNat)
  have hlt2 : (A.take i.toNat).length ≤ A.length := by rw [List.length_take]; omega
  have next : (A.take (i + 1).toNat).filter noLp = (A.take i.toNat).filter noLp ++ if (gt A i).1 = (gt A i).2.1 then [] else [gt A i] := by
   rw [take_gtE i0 hlt, List.filter_append]
   congr 1
   by_cases h : (gt A i).1 = (gt A i).2.1 <;> simp [List.filter, noLp, h]
  simp only [T_G, T_ite, T_some, Sum.elim_inl]
  refine ⟨i0, fun h => ⟨by omega, ⟨by omega, by omega, ?_⟩, by omega⟩, fun h => ⟨by omega, by omega, ⟨by omega, by omega, ?_⟩, by omega⟩⟩
  ·rw [next, if_pos h, List.append_nil]
  ·rw [next, if_neg h]
 ·rintro _ rfl
  have hll := List.length_filter_le noLp A
  rw [T_G, p_sort, Option.bind_some]
  refine ⟨by omega, ?_⟩
  have hp := sortL_perm ord3 (A.filter noLp)
  have hlen := hp.length_eq
  refine T_bindr _ (p_Compact (by omega)) fun r hr => ?_
  simp only [T_some]
  rw [hr]
  refine .ok _ hc (nrm_of rfl hp (sort_rise _)) ?_
  have := cpt_len (sortL ord3 (A.filter noLp)) (sortL ord3 (A.filter noLp)).length
  omega
theorem GChk.nrm (h : GChk N A .nil) (k : Nrm A L) (hl : L.length ≤ A.length) : GChk N L .nil := by
 obtain ⟨n0, n1, n2⟩ := h.small
 exact .of_arcs n0 n1 (by omega) fun a ha => h.arcs a (k.sub a ha).1
end Go.Vd

/-! (So4) -/

set_option linter.unusedVariables false
set_option linter.unusedSectionVars false
set_option linter.unusedSimpArgs false
namespace Go.Vd
variable {N : Int} {A L : List A3} {F T' W : List Int}
def cnt (L : List A3) (v : Int) : Int := ((L.filter fun a => decide (a.1 < v)).length : Int)
def cq (L : List A3) (v : Int) : Int := ((L.filter fun a => decide (a.1 = v)).length : Int)
theorem cnt_succ (L : List A3) (v : Int) : cnt L (v + 1) = cnt L v + cq L v := by
 unfold cnt cq
 induction L with
 | nil => rfl
 | cons a L ih =>
  simp only [List.filter_cons]
  by_cases h1 : a.1 < v
  ·rw [if_pos (by simp; omega), if_pos (by simpa using h1), if_neg (by simp; omega)]
   simp only [List.length_cons]; omega
  ·by_cases h2 : a.1 = v
   ·rw [if_pos (by simp; omega), if_neg (by simpa using h1), if_pos (by simpa using h2)]
    simp only [List.length_cons]; omega
   ·rw [if_neg (by simp; omega), if_neg (by simpa using h1), if_neg (by simpa using h2)]; exact ih
theorem cnt_le (L : List A3) (v : Int) : 0 ≤ cnt L v ∧ cnt L v ≤ L.length := by
 unfold cnt; have := List.length_filter_le (fun a : A3 => decide (a.1 < v)) L; omega
theorem cq_le (L : List A3) (v : Int) : 0 ≤ cq L v ∧ cq L v ≤ L.length := by
 unfold cq; have := List.length_filter_le (fun a : A3 => decide (a.1 = v)) L; omega
theorem cnt_none {v : Int} (h : ∀ a ∈ L, v ≤ a.1) : cnt L v = 0 := by
 unfold cnt
 rw [List.filter_eq_nil_iff.2 fun a ha => by have := h a ha; simp; omega]; rfl
theorem cnt_all {v : Int} (h : ∀ a ∈ L, a.1 < v) : cnt L v = L.length := by
 unfold cnt
 rw [List.filter_eq_self.2 fun a ha => by have := h a ha; simpa using this]
theorem cq_snoc (l : List A3) (a : A3) (v : Int) : cq (l ++ [a]) v = cq l v + if a.1 = v then 1 else 0 := by
 unfold cq
 rw [List.filter_append, List.length_append]
 by_cases h : a.1 = v <;> simp [List.filter, h]
theorem idx_nat : ∀ {L : List A3} {v : Int}, L.Pairwise (fun a b => a.1 ≤ b.1) → ∀ (i : Nat) (h : i < L.length), (L[i].1 < v ↔ (i : Int) < cnt L v) := by
 intro L v
 induction L with
 | nil => intro _ i h; simp at h
 | cons a L ih =>
  intro hp i h
  obtain ⟨h1, h2⟩ := List.pairwise_cons.1 hp
  by_cases ha : a.1 < v
  ·have hc : cnt (a :: L) v = cnt L v + 1 := by
    unfold cnt; rw [List.filter_cons, if_pos (by simpa using ha)]; simp
   cases i with
   | zero => simp only [List.getElem_cons_zero]; have := (cnt_le L v).1; constructor <;> intro <;> omega
   | succ i =>
    simp only [List.getElem_cons_succ]
    have := ih h2 i (by simpa using h)
    rw [this, hc]; omega
  ·have hz : cnt (a :: L) v = 0 := cnt_none fun b hb => by
    rcases List.mem_cons.1 hb with rfl | hb
    ·omega
    ·have := h1 b hb; omega
   rw [hz]
   constructor
   ·intro hi
    cases i with
    | zero => simp only [List.getElem_cons_zero] at hi; omega
    | succ i =>
     simp only [List.getElem_cons_succ] at hi
     have := h1 _ (List.getElem_mem (show i < L.length by simpa using h)); omega
   ·intro hi; omega
theorem inc_le (h : L.Pairwise ltk) : L.Pairwise (fun a b => a.1 ≤ b.1) := h.imp fun h => by unfold ltk at h; omega
theorem idx_cnt (h : L.Pairwise ltk) {i v : Int} (i0 : 0 ≤ i) (i1 : i < (L.length : Int)) : (gt L i).1 < v ↔ i < cnt L v := by
 obtain ⟨i, rfl⟩ := Int.eq_ofNat_of_zero_le i0
 rw [gt_nat (by omega)]
 exact idx_nat (inc_le h) i (by omega)
structure Flat (N : Int) (L : List A3) (F T' W : List Int) : Prop where
 lf : (F.length : Int) = N + 1
 lt : T'.length = L.length
 lw : W.length = L.length
 ft : ∀ v, 0 ≤ v → v ≤ N → gt F v = cnt L v
 tw : ∀ i, 0 ≤ i → i < (L.length : Int) → gt T' i = (gt L i).2.1 ∧ gt W i = (gt L i).2.2
theorem gt_mapE {E : Type} [Inhabited E] {l : List E} {f : E → Int} {i : Int} (i0 : 0 ≤ i) (i1 : i < (l.length : Int)) : gt (l.map f) i = f (gt l i) := by
 obtain ⟨i, rfl⟩ := Int.eq_ofNat_of_zero_le i0
 rw [gt_nat (show i < (l.map f).length by simp; omega), gt_nat (by omega)]; simp
theorem gt_rep0 {m : Nat} {x : Int} : gt (List.replicate m (0 : Int)) x = 0 := by
 simp [gt, List.getD_eq_getElem?_getD, List.getElem?_replicate]
 split <;> rfl
theorem p_flat (hg : GChk N L .nil) : T (z_csr_flat N L) fun r => Flat N L r.1 r.2.1 r.2.2 := by
 obtain ⟨n0, n1, n2⟩ := hg.small
 have ha := hg.arcs
 have hz : cnt L 0 = 0 := cnt_none fun a h => (ha a h).1
 unfold z_csr_flat
 simp only [T_G]
 refine ⟨by omega, by omega, ?_⟩
 refine T_bindr (fun r => (r.1.length : Int) = N + 1 ∧ gt r.1 0 = 0 ∧ (∀ u, 0 ≤ u → u < N → gt r.1 (u + 1) = cq L u) ∧ r.2.1 = L.map (fun a => a.2.1) ∧ r.2.2 = L.map (fun a => a.2.2)) ?_ ?_
 ·refine T_loop (fun z => 0 ≤ z.1 ∧ z.1 ≤ (L.length : Int) ∧ (z.2.1.length : Int) = N + 1 ∧ gt z.2.1 0 = 0 ∧ (∀ u, 0 ≤ u → u < N → gt z.2.1 (u + 1) = cq (L.take z.1.toNat) u) ∧ z.2.2.1 = (L.take z.1.toNat).map (fun a => a.2.1) ∧ z.2.2.2 = (L.take z.1.toNat).map (fun a => a.2.2)) (fun z => ((L.length : Int) - z.1).toNat) ?_ ⟨by simp, by simp, by simp; omega, gt_rep0, fun u u0 u1 => by dsimp only; rw [gt_rep0]; simp [cq], by simp, by simp⟩
  rintro ⟨i, c1, c2, c3⟩ ⟨i0, i1, h1, h2, h3, h4, h5⟩
  dsimp only at *
  subst h4; subst h5
  unfold z_csr_flat_l0
  rw [T_ite]
  refine ⟨fun hlt => ?_, fun hge => ?_⟩
  rotate_left
  ·simp only [T_some, Sum.elim_inr]
   rw [List.take_of_length_le (by omega)] at *
   exact ⟨h1, h2, h3, rfl, rfl⟩
  obtain ⟨a1, a2, a3, a4, a5, a6⟩ := ha _ (gt_mem i0 hlt)
  have hq := h3 (gt L i).1 a1 a2
  have hq2 := cq_le (L.take i.toNat) (gt L i).1
  have htl : (L.take i.toNat).length = i.toNat := by rw [List.length_take]; omega
  have nx := take_gtE i0 hlt
  simp only [T_G, T_some, Sum.elim_inl, List.length_map, htl]
  refine ⟨i0, by omega, by omega, by omega, by omega, by omega, by omega, ⟨by omega, by omega, by simpa using h1, ?_, fun u u0 u1 => ?_, ?_, ?_⟩, by omega⟩
  ·rw [gt_setE (by omega) (by omega) (by omega), if_neg (by omega)]; exact h2
  ·rw [gt_setE (by omega) (by omega) (by omega), nx, cq_snoc]
   by_cases e : u = (gt L i).1
   ·rw [if_pos (by omega), if_pos e.symm, e, hq]
   ·rw [if_neg (by omega), if_neg (fun q => e q.symm), h3 u u0 u1]; omega
  ·rw [nx, List.map_append]; rfl
  ·rw [nx, List.map_append]; rfl
 ·rintro ⟨c1, c2, c3⟩ ⟨h1, h2, h3, h4, h5⟩
  dsimp only at *
  subst h4; subst h5
  refine T_bindr (fun r => (r.length : Int) = N + 1 ∧ ∀ v, 0 ≤ v → v ≤ N → gt r v = cnt L v) ?_ ?_
  ·refine T_loop (fun z => 0 ≤ z.2 ∧ z.2 ≤ N ∧ (z.1.length : Int) = N + 1 ∧ (∀ v, 0 ≤ v → v ≤ z.2 → gt z.1 v = cnt L v) ∧ ∀ v, z.2 ≤ v → v < N → gt z.1 (v + 1) = cq L v) (fun z => (N - z.2).toNat) ?_ ⟨by simp, n0, h1, fun v v0 v1 => by dsimp only at v1 ⊢; rw [show v = 0 from by omega, h2, hz], fun v v0 v1 => h3 v v0 v1⟩
   rintro ⟨c, i⟩ ⟨i0, i1, g1, g2, g3⟩
   dsimp only at *
   unfold z_csr_flat_l1
   rw [T_ite]
   refine ⟨fun hlt => ?_, fun hge => ?_⟩
   rotate_left
   ·simp only [T_some, Sum.elim_inr]
    exact ⟨g1, fun v v0 v1 => g2 v v0 (by omega)⟩
   have e1 := g2 i i0 (by omega)
   have e2 := g3 i (by omega) hlt
   have l1 := cnt_le L i; have l2 := cq_le L i
   have hs := cnt_succ L i
   simp only [T_G, T_some, Sum.elim_inl]
   refine ⟨by omega, by omega, by omega, by omega, by omega, ⟨by omega, by omega, by simpa using g1, fun v v0 v1 => ?_, fun v v0 v1 => ?_⟩, by omega⟩
   ·rw [gt_setE (by omega) (by omega) v0]
    by_cases e : v = i + 1
    ·rw [if_pos e, e]; omega
    ·rw [if_neg e]; exact g2 v v0 (by omega)
   ·rw [gt_setE (by omega) (by omega) (by omega), if_neg (by omega)]; exact g3 v (by omega) v1
  ·rintro r ⟨g1, g2⟩
   simp only [T_some]
   exact ⟨g1, by simp, by simp, g2, fun i i0 i1 => ⟨gt_mapE i0 i1, gt_mapE i0 i1⟩⟩
section
variable (hf : Flat N L F T' W) (hi : L.Pairwise ltk) (hg : GChk N L .nil)
include hf hi hg
theorem Flat.row {u j : Int} (u0 : 0 ≤ u) (u1 : u < N) : In F u j ↔ (0 ≤ j ∧ j < (L.length : Int) ∧ (gt L j).1 = u) := by
 have lf := hf.lf
 have e1 := hf.ft u u0 (by omega)
 have e2 := hf.ft (u + 1) (by omega) (by omega)
 have l1 := cnt_le L u; have l2 := cnt_le L (u + 1)
 unfold In
 constructor
 ·rintro ⟨_, _, h1, h2⟩
  have k1 := idx_cnt hi (i := j) (v := u) (by omega) (by omega)
  have k2 := idx_cnt hi (i := j) (v := u + 1) (by omega) (by omega)
  refine ⟨by omega, by omega, ?_⟩
  have a1 : ¬ (gt L j).1 < u := fun q => by have := k1.1 q; omega
  have a2 := k2.2 (by omega)
  omega
 ·rintro ⟨h1, h2, h3⟩
  have k1 := idx_cnt hi (i := j) (v := u) h1 h2
  have k2 := idx_cnt hi (i := j) (v := u + 1) h1 h2
  have a1 : ¬ j < cnt L u := fun q => by have := k1.2 q; omega
  have a2 := k2.1 (by omega)
  exact ⟨u0, by omega, by omega, by omega⟩
theorem Flat.arcw {u x w : Int} : Arcw F T' W u x w ↔ (u, x, w) ∈ L := by
 have lf := hf.lf
 constructor
 ·rintro ⟨j, hI, h1, h2⟩
  have u0 := hI.1; have u1 := hI.2.1
  obtain ⟨j0, j1, e⟩ := (hf.row hi hg u0 (by omega)).1 hI
  obtain ⟨t1, t2⟩ := hf.tw j j0 j1
  have : (u, x, w) = gt L j := eq3 e.symm (by dsimp only; omega) (by dsimp only; omega)
  rw [this]; exact gt_mem j0 j1
 ·intro h
  obtain ⟨j, j0, j1, e⟩ := mem_gtE h
  have ha := hg.arcs _ h
  dsimp only at ha
  obtain ⟨t1, t2⟩ := hf.tw j j0 j1
  rw [← e] at t1 t2
  refine ⟨j, (hf.row hi hg ha.1 ha.2.1).2 ⟨j0, j1, by rw [← e]⟩, t1, t2.symm⟩
theorem Flat.chk (hn : ∀ a ∈ L, a.1 ≠ a.2.1) : Chk F T' W .nil := by
 obtain ⟨n0, n1, n2⟩ := hg.small
 have lf := hf.lf; have lt := hf.lt; have lw := hf.lw
 have ha := hg.arcs
 have e0 := hf.ft 0 (by omega) n0
 have en := hf.ft N n0 (by omega)
 rw [cnt_none fun a h => (ha a h).1] at e0
 rw [cnt_all fun a h => (ha a h).2.1] at en
 have hlast : (F.length : Int) - 1 = N := by omega
 refine .ok ⟨by omega, e0, by rw [hlast]; omega, by omega⟩ ⟨by omega, by omega⟩ (fun u u0 u1 => ?_) fun u j hI => ?_
 ·rw [hf.ft u u0 (by omega), hf.ft (u + 1) (by omega) (by omega), cnt_succ]
  have := cq_le L u; omega
 ·have u0 := hI.1; have u1 := hI.2.1
  obtain ⟨j0, j1, e⟩ := (hf.row hi hg u0 (by omega)).1 hI
  obtain ⟨t1, t2⟩ := hf.tw j j0 j1
  have hm := gt_mem j0 j1
  obtain ⟨a1, a2, a3, a4, a5, a6⟩ := ha _ hm
  have hne := hn _ hm
  refine arcNo_0 (by omega) (by omega) ?_ (by omega) (by omega)
  rintro (h | ⟨h1, h2⟩)
  ·omega
  ·have hI2 : In F u (j - 1) := ⟨u0, u1, by omega, by have := hI.2.2.2; omega⟩
   obtain ⟨q0, q1, q2⟩ := (hf.row hi hg u0 (by omega)).1 hI2
   obtain ⟨s1, s2⟩ := hf.tw (j - 1) q0 q1
   have hlt : ltk (gt L (j - 1)) (gt L j) := by
    obtain ⟨m, hm⟩ := Int.eq_ofNat_of_zero_le q0
    have hj : j = ((m + 1 : Nat) : Int) := by omega
    rw [hm, hj, gt_nat (show m < L.length by omega), gt_nat (show m + 1 < L.length by omega)]
    exact List.pairwise_iff_getElem.1 hi m (m + 1) (by omega) (by omega) (by omega)
   unfold ltk at hlt
   omega
end
inductive BldA (N : Int) (A : List A3) : List Int → List Int → List Int → Er → Prop
 | bad (er : Er) : GChk N A er → er ≠ .nil → BldA N A [] [] [] er
 | ok (L : List A3) (F T' W : List Int) : GChk N A .nil → Nrm A L → L.length ≤ A.length → Flat N L F T' W → BldA N A F T' W .nil
theorem p_Build : T (z_csr_Build N A) fun r => BldA N A r.1 r.2.1 r.2.2.1 r.2.2.2 := by
 unfold z_csr_Build
 refine T_bindr _ p_Of ?_
 rintro ⟨n, l, er⟩ h
 dsimp only at *
 cases h with
 | bad _ h1 h2 => rw [if_neg h2]; simp only [T_some]; exact .bad er h1 h2
 | ok _ h1 h2 h3 =>
  rw [if_pos rfl]
  refine T_bindr _ (p_flat (h1.nrm h2 h3)) ?_
  rintro ⟨F, T', W⟩ hf
  simp only [T_some]
  exact .ok l F T' W h1 h2 h3 hf
theorem BldA.use {er : Er} (h : BldA N A F T' W er) (hg : GChk N A .nil) : er = .nil ∧ ∃ L, Nrm A L ∧ GChk N L .nil ∧ Flat N L F T' W ∧ Chk F T' W .nil ∧ (F.length : Int) = N + 1 ∧ ∀ u x w, Arcw F T' W u x w ↔ (u, x, w) ∈ L := by
 cases h with
 | bad _ h1 h2 => exact absurd (h1.uniq hg) h2
 | ok L _ _ _ h1 h2 h3 h4 =>
  have hgl := h1.nrm h2 h3
  exact ⟨rfl, L, h2, hgl, h4, h4.chk h2.inc hgl (fun a ha => (h2.sub a ha).2.1), h4.lf, fun u x w => h4.arcw h2.inc hgl⟩
end Go.Vd

/-! (So4b) -/

set_option linter.unusedVariables false
set_option linter.unusedSectionVars false
set_option linter.unusedSimpArgs false
namespace Go.Vd
variable {N : Int} {A L : List A3} {F T' W : List Int}
inductive BckA (N : Int) (A : List A3) : List Int → List Int → List Int → Er → Prop
 | bad (er : Er) : GChk N A er → er ≠ .nil → BckA N A [] [] [] er
 | ok (L : List A3) (F T' W : List Int) : GChk N A .nil → Nrm (A.map swp3) L → L.length ≤ A.length → Flat N L F T' W → BckA N A F T' W .nil
theorem p_Bck : T (z_csr_Back N A) fun r => BckA N A r.1 r.2.1 r.2.2.1 r.2.2.2 := by
 unfold z_csr_Back
 refine T_bindr _ p_Rev ?_
 rintro ⟨n, l, er⟩ h
 dsimp only at *
 cases h with
 | bad _ h1 h2 => rw [if_neg h2]; simp only [T_some]; exact .bad er h1 h2
 | ok h1 =>
  rw [if_pos rfl]
  refine T_bindr _ p_Build ?_
  rintro ⟨F, T', W, er⟩ hb
  simp only [T_some]
  cases hb with
  | bad _ k1 k2 => exact absurd (k1.uniq h1.rev) k2
  | ok L _ _ _ k1 k2 k3 k4 => exact .ok L F T' W h1 k2 (by simpa using k3) k4
theorem BckA.use {er : Er} (h : BckA N A F T' W er) (hg : GChk N A .nil) : er = .nil ∧ ∃ L, Nrm (A.map swp3) L ∧ GChk N L .nil ∧ Flat N L F T' W ∧ Chk F T' W .nil ∧ (F.length : Int) = N + 1 ∧ ∀ u x w, Arcw F T' W u x w ↔ (u, x, w) ∈ L := by
 cases h with
 | bad _ h1 h2 => exact absurd (h1.uniq hg) h2
 | ok L _ _ _ h1 h2 h3 h4 =>
  have hgl := h1.rev.nrm h2 (by simpa using h3)
  exact ⟨rfl, L, h2, hgl, h4, h4.chk h2.inc hgl (fun a ha => (h2.sub a ha).2.1), h4.lf, fun u x w => h4.arcw h2.inc hgl⟩
end Go.Vd

/-! (Mp) -/

set_option linter.unusedVariables false
set_option linter.unusedSimpArgs false
namespace Go.Vd
variable {F T' W : List Int} {s : Int}
theorem gt_addE {E : Type} [Inhabited E] {l : List E} {y : E} {j : Int} (j0 : 0 ≤ j) (j1 : j < (l.length : Int) + 1) : gt (l ++ [y]) j = if j = l.length then y else gt l j := by
 obtain ⟨j, rfl⟩ := Int.eq_ofNat_of_zero_le j0
 by_cases h : (j : Int) = l.length
 ·rw [if_pos h]
  have : j = l.length := by omega
  subst this
  simp [gt, List.getD_eq_getElem?_getD]
 ·rw [if_neg h]
  have : j < l.length := by omega
  simp [gt, List.getD_eq_getElem?_getD, List.getElem?_append_left this]
def MatL (F T' W : List Int) (k : Int) (L : List (List Int)) : Prop := (L.length : Int) = k ∧ ∀ i, 0 ≤ i → i < k → DistL F T' W i (gt L i)
theorem MatL.next {k : Int} {L : List (List Int)} {l : List Int} (h : MatL F T' W k L) (k0 : 0 ≤ k) (hl : DistL F T' W k l) : MatL F T' W (k + 1) (L ++ [l]) := by
 refine ⟨by simp [h.1], fun i i0 i1 => ?_⟩
 rw [gt_addE i0 (by have := h.1; omega)]
 by_cases e : i = L.length
 ·rw [if_pos e]; have := h.1; rwa [show i = k from by omega]
 ·rw [if_neg e]; exact h.2 i i0 (by have := h.1; omega)
inductive MatA (F T' W : List Int) : List (List Int) → Er → Prop
 | bad (er : Er) : Chk F T' W er → er ≠ .nil → MatA F T' W [] er
 | limit : Chk F T' W .nil → ((F.length : Int) - 1) * ((F.length : Int) - 1) > 1048576 → MatA F T' W [] (.no 9)
 | ok (L : List (List Int)) : Chk F T' W .nil → ¬ ((F.length : Int) - 1) * ((F.length : Int) - 1) > 1048576 → MatL F T' W ((F.length : Int) - 1) L → MatA F T' W L .nil
theorem p_runAll (hc : Chk F T' W .nil) (s0 : 0 ≤ s) (s1 : s < (F.length : Int) - 1) :
  T ((z_search_run F T' W s 4611686018427387904 4611686018427387904 18446744073709551615).bind fun y => z_search_state_all F T' W y.1 y.2.1 y.2.2.1 y.2.2.2.1 y.2.2.2.2.1 y.2.2.2.2.2.1 y.2.2.2.2.2.2) (DistL F T' W s) := by
 obtain ⟨m1, m2⟩ := hc.small
 obtain ⟨q1, _⟩ := hc.shp
 refine T_bindr _ (p_run hc s0 s1) ?_
 rintro _ ⟨h, a, cs, c, hp, S, rfl, lc, C, hb, _, _⟩
 dsimp only
 refine T_mono (p_all (by omega) (by omega) lc) fun l ⟨l1, l2⟩ => ⟨l1, ?_⟩
 have e : LD l = DC cs := by
  funext v
  unfold LD
  by_cases hv : 0 ≤ v ∧ v < (F.length : Int) - 1
  ·rw [l2 v hv.1 hv.2]
   cases hd : DC cs v with
   | none => rw [if_neg (fun k => k.2.2 rfl)]
   | some k =>
    have := hb v k hd
    rw [if_pos ⟨hv.1, by omega, by simp; omega⟩]; rfl
  ·rw [if_neg (by omega)]
   cases hd : DC cs v with
   | none => rfl
   | some k => have := DC_rng hd; omega
 rw [e]; exact C
theorem sq_small {n : Int} (n0 : 0 ≤ n) (n1 : n ≤ 65536) : 0 ≤ n * n ∧ n * n ≤ 4294967296 := by
 have h1 : n * n ≤ 65536 * 65536 := Int.mul_le_mul n1 n1 n0 (by omega)
 have h2 : 0 ≤ n * n := Int.mul_nonneg n0 n0
 omega
theorem p_Matrix (hl : F.length ≤ 17592186044160) (ht : T'.length ≤ 17592186044160) : T (z_search_Matrix F T' W) fun r => MatA F T' W r.1 r.2 := by
 unfold z_search_Matrix
 refine T_bindr _ (p_Check hl ht) fun er hc => ?_
 rw [T_ite]
 refine ⟨fun he => ?_, fun he => by simp only [T_some]; exact .bad _ hc he⟩
 subst he
 obtain ⟨m1, m2⟩ := hc.small
 obtain ⟨q1, _⟩ := hc.shp
 have hsq := sq_small (n := (F.length : Int) - 1) (by omega) (by omega)
 rw [p_nodes8 (by omega), Option.bind_some, T_G]
 refine ⟨by omega, ?_⟩
 rw [T_ite]
 refine ⟨fun h => by simp only [T_some]; exact .limit hc h, fun h => ?_⟩
 refine T_bindr (MatL F T' W ((F.length : Int) - 1)) ?_ fun L hL => by simp only [T_some]; exact .ok L hc h hL
 refine T_loop (fun z => 0 ≤ z.1 ∧ z.1 ≤ (F.length : Int) - 1 ∧ MatL F T' W z.1 z.2) (fun z => ((F.length : Int) - z.1).toNat) ?_ ⟨by simp, by simp; omega, rfl, fun i i0 i1 => by dsimp only at i1; omega⟩
 rintro ⟨i, l⟩ ⟨i0, i1, hM⟩
 dsimp only at *
 unfold z_search_Matrix_l0
 rw [T_ite]
 refine ⟨fun hi => ?_, fun hi => by simp only [T_some, Sum.elim_inr]; rwa [show (F.length : Int) - 1 = i from by omega]⟩
 rw [show z_search_free = some () from rfl, Option.bind_some]
 obtain ⟨x, hx, hD⟩ := p_runAll hc i0 hi
 obtain ⟨y, h1, h2⟩ := bind_some hx
 rw [h1, Option.bind_some, h2, Option.bind_some]
 have := hM.1
 simp only [T_G, T_some, Sum.elim_inl]
 exact ⟨by omega, by omega, ⟨by omega, by omega, hM.next i0 hD⟩, by omega⟩
end Go.Vd

/-! (MxB) -/

set_option linter.unusedVariables false
set_option linter.unusedSimpArgs false
namespace Go.Vd
variable {F T' W : List Int} {s : Int}
theorem p_runB48 (hc : Chk F T' W .nil) (s0 : 0 ≤ s) (s1 : s < (F.length : Int) - 1) :
  T ((z_search_run F T' W s 4611686018427387904 4611686018427387904 18446744073709551615).bind fun y => z_search_state_all F T' W y.1 y.2.1 y.2.2.1 y.2.2.2.1 y.2.2.2.2.1 y.2.2.2.2.2.1 y.2.2.2.2.2.2) fun l => DistL F T' W s l ∧ ∀ v k, LD l v = some k → 0 ≤ k ∧ k < 281474976710656 := by
 obtain ⟨m1, m2⟩ := hc.small
 obtain ⟨q1, _⟩ := hc.shp
 refine T_bindr _ (p_run hc s0 s1) ?_
 rintro _ ⟨h, a, cs, c, hp, S, rfl, lc, C, hb, _, _⟩
 dsimp only
 refine T_mono (p_all (by omega) (by omega) lc) fun l ⟨l1, l2⟩ => ?_
 have e : LD l = DC cs := by
  funext v
  unfold LD
  by_cases hv : 0 ≤ v ∧ v < (F.length : Int) - 1
  ·rw [l2 v hv.1 hv.2]
   cases hd : DC cs v with
   | none => rw [if_neg (fun k => k.2.2 rfl)]
   | some k =>
    have := hb v k hd
    rw [if_pos ⟨hv.1, by omega, by simp; omega⟩]; rfl
  ·rw [if_neg (by omega)]
   cases hd : DC cs v with
   | none => rfl
   | some k => have := DC_rng hd; omega
 exact ⟨⟨l1, by rw [e]; exact C⟩, fun v k hk => by rw [e] at hk; exact hb v k hk⟩
theorem DistL.small (hc : Chk F T' W .nil) (s0 : 0 ≤ s) (s1 : s < (F.length : Int) - 1) {l : List Int} (h : DistL F T' W s l) : ∀ v k, LD l v = some k → 0 ≤ k ∧ k < 281474976710656 := by
 obtain ⟨x, _, hx, hb⟩ := p_runB48 hc s0 s1
 rw [h.uniq hx]; exact hb
theorem LD_iff {l : List Int} {v k : Int} : LD l v = some k ↔ (0 ≤ v ∧ v < (l.length : Int) ∧ gt l v ≠ 18446744073709551615 ∧ gt l v = k) := by
 unfold LD
 constructor
 ·intro h
  split at h
  ·rename_i hh; exact ⟨hh.1, hh.2.1, hh.2.2, Option.some.inj h⟩
  ·cases h
 ·rintro ⟨h1, h2, h3, h4⟩
  rw [if_pos ⟨h1, h2, h3⟩, h4]
theorem Way.cat {u v d e : Int} (h : Way F T' W s u d) (k : Way F T' W u v e) : Way F T' W s v (d + e) := by
 induction k with
 | refl => simpa using h
 | step x e y w _ ha ih =>
  have := ih.step _ _ _ w ha
  rwa [Int.add_assoc] at this
end Go.Vd

/-! (Nd8) -/

set_option linter.unusedVariables false
set_option linter.unusedSimpArgs false
namespace Go.Vd
variable {F T' W : List Int} {s : Int}
theorem p_node8 (hl : F.length ≤ 17592186044160) (ht : T'.length ≤ 17592186044160) (pc : T (z_csr_Check F T' W) (Chk F T' W)) :
  T (z_search_node F T' W [s]) fun r => ∃ er, Chk F T' W er ∧ ((er ≠ .nil ∧ r = er) ∨ (er = .nil ∧ ¬ (0 ≤ s ∧ s < (F.length : Int) - 1) ∧ r = .no 7) ∨ (er = .nil ∧ 0 ≤ s ∧ s < (F.length : Int) - 1 ∧ r = .nil)) := by
 unfold z_search_node
 refine T_bindr _ pc fun er hc => ?_
 rw [T_ite]
 refine ⟨fun he => ?_, fun he => by simp only [T_some]; exact ⟨er, hc, .inl ⟨he, rfl⟩⟩⟩
 subst he
 refine T_binds (fun _ => 0 ≤ s ∧ s < (F.length : Int) - 1) ?_ fun _ h => by simp only [T_some]; exact ⟨.nil, hc, .inr (.inr ⟨rfl, h.1, h.2, trivial⟩)⟩
 refine T_loop (fun i => (i = 0 ∨ (i = 1 ∧ 0 ≤ s ∧ s < (F.length : Int) - 1))) (fun i => (1 - i).toNat) ?_ (.inl rfl)
 rintro i hi
 unfold z_search_node_l0
 have hg : gt [s] 0 = s := rfl
 rw [T_ite]
 refine ⟨fun h => ?_, fun h => ?_⟩
 ·have : i = 0 := by simp at h; omega
  subst this
  rw [hg, p_nodes8 hl, Option.bind_some]
  simp only [T_G, T_ite, T_map, T_some, Sum.elim_inl, Sum.elim_inr]
  exact ⟨by omega, fun k => ⟨.nil, hc, .inr (.inl ⟨rfl, by omega, trivial⟩)⟩, fun k => ⟨fun k2 => ⟨.nil, hc, .inr (.inl ⟨rfl, by omega, trivial⟩)⟩, fun k2 => ⟨by omega, .inr ⟨rfl, by omega, by omega⟩, by omega⟩⟩⟩
 ·simp only [T_some, Sum.elim_inr]
  rcases hi with rfl | hi
  ·simp at h
  ·exact hi.2
end Go.Vd

/-! (Bd2) -/

set_option linter.unusedVariables false
set_option linter.unusedSimpArgs false
namespace Go.Vd
variable {F T' W : List Int} {n s R v d i hops settles most : Int} {S S0 : List Bool} {st : BS} {B : Int} {h : List (Int × Int)} {a : List Int} {cs : List (Int × Int)} {c : Int} {hp : List Int}
structure PB (n : Int) (S : List Bool) (st : BS) (B : Int) (h : List (Int × Int)) (a : List Int) (cs : List (Int × Int)) (c : Int) (hp : List Int) : Prop where
 lc : (cs.length : Int) = n
 hops : hp = st.2.1
 dc : ∀ x, 0 ≤ x → x < n → DC cs x = if gt st.2.2 x = true then some (gt st.1 x) else none
 heap : Hp n h a (fun x => if gt S x = true then none else DC cs x)
 ord : Ord4 h.length (gt h)
 room : (h.length : Int) ≤ B
 c0 : 0 ≤ c
 c1 : c ≤ B
theorem p_settleB (hc : Chk F T' W .nil) (hn : n = (F.length : Int) - 1) (lS : (S0.length : Int) = n) (v0 : 0 ≤ v) (v1 : v < n) (R0 : 0 ≤ R) (R1 : R ≤ 65536) (M : BM n R v (S0.set v.toNat true) st) (P : PB n (S0.set v.toNat true) st B h a cs c hp) (hB : B ≤ 1099511000000) (hd : d = gt st.1 v) :
  T (z_search_state_settle F T' W h a cs 1 c hp S0 v d hops) fun r => r.2.2.2.2.2 = S0.set v.toNat true ∧ ((gt st.2.1 v ≥ hops ∧ PB n (S0.set v.toNat true) st (B + 262144) r.2.1 r.1 r.2.2.1 r.2.2.2.1 r.2.2.2.2.1) ∨
   (¬ gt st.2.1 v ≥ hops ∧ PB n (S0.set v.toNat true) (brow F T' W (S0.set v.toNat true) v st) (B + 262144) r.2.1 r.1 r.2.2.1 r.2.2.2.1 r.2.2.2.2.1 ∧ BM n R v (S0.set v.toNat true) (brow F T' W (S0.set v.toNat true) v st))) := by
 subst hd
 obtain ⟨b0, b1, b2, b3, b4⟩ := hc.inb v0 (by omega)
 obtain ⟨m1, m2⟩ := hc.small
 have hlH := M.lH
 have hhp := P.hops
 subst hhp
 have arcs : ∀ q : Int, 0 ≤ q → q < gt F (v + 1) - gt F v → (0 ≤ gt T' (gt F v + q) ∧ gt T' (gt F v + q) < n) ∧ 0 ≤ gt W (gt F v + q) ∧ gt W (gt F v + q) ≤ 2147483647 := fun q q0 q1 => by
  have hI : In F v (gt F v + q) := ⟨v0, by omega, by omega, by omega⟩
  have := hc.node hI
  exact ⟨by omega, hc.weight hI⟩
 have MM : ∀ k : Nat, (k : Int) ≤ gt F (v + 1) - gt F v → BM n R v (S0.set v.toNat true) (brel T' W (S0.set v.toNat true) v st (gt F v) k) ∧ gt (brel T' W (S0.set v.toNat true) v st (gt F v) k).1 v = gt st.1 v ∧ gt (brel T' W (S0.set v.toNat true) v st (gt F v) k).2.1 v = gt st.2.1 v := fun k hk =>
  M.rel k fun q hq => arcs q (by omega) (by omega)
 unfold z_search_state_settle
 simp only [T_G, T_ite]
 refine ⟨by omega, by omega, fun hx => ?_, fun hx => ⟨by omega, ?_⟩⟩
 ·simp only [T_some]
  exact ⟨trivial, .inl ⟨hx, { P with room := by have := P.room; omega, c1 := by have := P.c1; omega }⟩⟩
 refine T_bindr (fun r => PB n (S0.set v.toNat true) (brow F T' W (S0.set v.toNat true) v st) (B + (gt F (v + 1) - gt F v)) r.2.1 r.1 r.2.2.1 r.2.2.2.1 r.2.2.2.2) ?_ ?_
 ·refine T_loop (fun z => gt F v ≤ z.2.2.2.2.2 ∧ z.2.2.2.2.2 ≤ gt F (v + 1) ∧ PB n (S0.set v.toNat true) (brel T' W (S0.set v.toNat true) v st (gt F v) (z.2.2.2.2.2 - gt F v).toNat) (B + (z.2.2.2.2.2 - gt F v)) z.1 z.2.1 z.2.2.1 z.2.2.2.1 z.2.2.2.2.1) (fun z => (gt F (v + 1) - z.2.2.2.2.2).toNat) ?_ ⟨by simp, b1, by simpa [brel] using P⟩
  rintro ⟨h, a, cs, c, hp, i⟩ ⟨i0, i1, D⟩
  dsimp only at *
  obtain ⟨M', e1, e2⟩ := MM (i - gt F v).toNat (by omega)
  generalize hst : brel T' W (S0.set v.toNat true) v st (gt F v) (i - gt F v).toNat = st' at D M' e1 e2
  unfold z_search_state_settle_l0
  have hlc := D.lc; have hlh := M'.lH
  have hhp := D.hops
  subst hhp
  simp only [T_G]
  refine ⟨by omega, by omega, ?_⟩
  rw [T_ite]
  refine ⟨fun hi => ?_, fun hi => ?_⟩
  rotate_left
  ·simp only [T_some, Sum.elim_inr]
   have : i = gt F (v + 1) := by omega
   subst this
   unfold brow
   rw [hst]; exact D
  have hI : In F v i := ⟨v0, by omega, i0, hi⟩
  obtain ⟨⟨x0, x1⟩, w0, w1⟩ := arcs (i - gt F v) (by omega) (by omega)
  rw [show gt F v + (i - gt F v) = i from by omega] at x0 x1 w0 w1
  have next : brel T' W (S0.set v.toNat true) v st (gt F v) (i + 1 - gt F v).toNat = bstep (S0.set v.toNat true) v st' (gt T' i) (gt W i) := by
   rw [show (i + 1 - gt F v).toNat = (i - gt F v).toNat + 1 from by omega]
   simp only [brel]
   rw [hst, show gt F v + (((i - gt F v).toNat : Nat) : Int) = i from by omega]
  have hdv := M'.dv
  have hmul : R * 2147483647 ≤ 65536 * 2147483647 := Int.mul_le_mul_of_nonneg_right R1 (by omega)
  simp only [T_G]
  refine ⟨by omega, by omega, by omega, by omega, ?_⟩
  rw [p_SGet x0 (by omega), Option.bind_some]
  have hSl : ((S0.set v.toNat true).length : Int) = n := by simpa using lS
  have hdx := D.dc _ x0 x1
  refine T_bindr (fun o => o = true ↔ (¬ gt (S0.set v.toNat true) (gt T' i) = true ∧ (¬ gt st'.2.2 (gt T' i) = true ∨ gt st'.1 v + gt W i < gt st'.1 (gt T' i)))) ?_ fun o ho => ?_
  ·simp only [T_G, T_ite, T_some]
   by_cases hA : gt st'.2.2 (gt T' i) = true
   ·rw [if_pos hA] at hdx
    rw [hdx]
    refine ⟨by omega, fun h1 => ⟨fun h2 => by simp at h2, fun h2 => ?_⟩, fun h1 => ?_⟩
    ·simp at h1; simp [h1, hA, e1]
    ·simp at h1; simp [h1]
   ·rw [if_neg hA] at hdx
    rw [hdx]
    refine ⟨by omega, fun h1 => ⟨fun h2 => ?_, fun h2 => by simp at h2⟩, fun h1 => ?_⟩
    ·simp at h1; simp [h1, hA]
    ·simp at h1; simp [h1]
  rw [T_ite]
  refine ⟨fun ht => ?_, fun hf => ?_⟩
  ·have hcond := ho.1 ht
   obtain ⟨hxS, hlt⟩ := hcond
   have hhop := M'.hopv
   have hroom := D.room
   have hc1 := D.c1
   have hc0 := D.c0
   simp only [T_G]
   refine ⟨by omega, by omega, T_bindr _ (p_label (n := n) D.heap D.ord x0 (by omega) (by omega) hlc hlh D.c0 (by omega) (by omega) fun old ho => ?_) ?_⟩
   ·rw [if_neg hxS, hdx] at ho
    by_cases hA : gt st'.2.2 (gt T' i) = true
    ·rw [if_pos hA] at ho
     cases ho
     rcases hlt with h | h
     ·exact absurd hA h
     ·omega
    ·rw [if_neg hA] at ho; cases ho
   ·rintro ⟨a', h', cs', c', hp'⟩ ⟨r1, r2, r3, r4, r5, r6⟩
    dsimp only at *
    subst r4; subst r6
    simp only [T_G, T_some, Sum.elim_inl]
    refine ⟨by omega, ⟨by omega, by omega, ?_⟩, by omega⟩
    have hb : bstep (S0.set v.toNat true) v st' (gt T' i) (gt W i) = (st'.1.set (gt T' i).toNat (gt st'.1 v + gt W i), st'.2.1.set (gt T' i).toNat (gt st'.2.1 v + 1), st'.2.2.set (gt T' i).toNat true) := by
     unfold bstep; rw [if_pos ⟨hxS, hlt⟩]
    rw [next, hb]
    have lD := M'.lD; have lA := M'.lA
    have hset := fun y => DC_set (cs := cs) (d := gt st.1 v + gt W i) x0 (by omega) y
    refine ⟨by simpa using hlc, rfl, fun y y0 y1 => ?_, r2.keys fun y y0 y1 => ?_, r3, by omega, by omega, by omega⟩
    ·dsimp only
     rw [hset y, gt_set x0 (by omega) y0, gt_set x0 (by omega) y0]
     by_cases e : y = gt T' i
     ·rw [if_pos e, if_pos e, if_pos e, if_pos rfl, e1]
     ·rw [if_neg e, if_neg e, if_neg e]; exact D.dc y y0 y1
    ·rw [hset y]
     by_cases e : y = gt T' i
     ·rw [if_pos e, if_pos e, if_neg (by rw [e]; exact hxS)]
     ·rw [if_neg e, if_neg e]
  ·have hb : bstep (S0.set v.toNat true) v st' (gt T' i) (gt W i) = st' := by
    unfold bstep; rw [if_neg fun k => hf (ho.2 k)]
   simp only [T_G, T_some, Sum.elim_inl]
   refine ⟨by omega, ⟨by omega, by omega, ?_⟩, by omega⟩
   rw [next, hb]
   exact { D with room := by have := D.room; omega, c1 := by have := D.c1; omega }
 ·rintro ⟨a', h', cs', c', hp'⟩ D'
  dsimp only at *
  simp only [T_some]
  have hM := (MM (gt F (v + 1) - gt F v).toNat (by omega)).1
  exact ⟨trivial, .inr ⟨hx, { D' with room := by have := D'.room; omega, c1 := by have := D'.c1; omega }, hM⟩⟩
theorem PB.pick (D : BO n R S st) (P : PB n S st B h a cs c hp) (hl : 0 < (h.length : Int)) : Pick n S st (gt h 0).2 ∧ gt st.1 (gt h 0).2 = (gt h 0).1 := by
 obtain ⟨f0, f1, f2⟩ := P.heap.ix.fwd 0 (by omega) hl
 have hk := P.heap.key _ f0 f1
 unfold Kf at hk
 rw [f2, if_neg (by omega), show (0 : Int) + 1 - 1 = 0 from rfl] at hk
 have hS : ¬ gt S (gt h 0).2 = true := fun e => by rw [if_pos e] at hk; cases hk
 rw [if_neg hS, P.dc _ f0 f1] at hk
 have hA : gt st.2.2 (gt h 0).2 = true := Classical.not_not.1 fun q => by rw [if_neg q] at hk; cases hk
 rw [if_pos hA] at hk
 have hk := Option.some.inj hk
 refine ⟨⟨f0, f1, hA, hS, fun x x0 x1 hx hxS => ?_⟩, hk.symm⟩
 obtain ⟨a0, a1, a2⟩ := P.heap.key_in (v := x) (k := gt st.1 x) x0 x1 (by rw [if_neg hxS, P.dc x x0 x1, if_pos hx])
 have := P.ord.top (gt a x - 1) (by omega) (by omega)
 rw [a2] at this
 unfold Less at this
 dsimp only at this
 omega
theorem PB.nopick (P : PB n S st B h a cs c hp) (hl : (h.length : Int) = 0) : NoPick n S st := fun x x0 x1 hx => by
 refine Classical.not_not.1 fun hxS => ?_
 obtain ⟨a0, a1, a2⟩ := P.heap.key_in (v := x) (k := gt st.1 x) x0 x1 (by rw [if_neg hxS, P.dc x x0 x1, if_pos hx])
 omega
theorem p_runB (hc : Chk F T' W .nil) (hn : n = (F.length : Int) - 1) (s0 : 0 ≤ s) (s1 : s < n) :
  T (z_search_run F T' W s hops settles most) fun r => ∃ h a cs c hp S st R B, r = (h, a, cs, 1, c, hp, S) ∧ BR F T' W n hops settles most 0 (b0st n s) (List.replicate n.toNat false) st S ∧ BO n R S st ∧ PB n S st B h a cs c hp := by
 obtain ⟨m1, m2⟩ := hc.small
 unfold z_search_run
 rw [p_nodes8 (by omega), Option.bind_some, ← hn]
 simp only [T_G]
 refine ⟨by omega, by omega, ?_⟩
 rw [p_hNew (by omega) (by omega), Option.bind_some, Sum.elim_inr, p_sNew (by omega) (by omega), Option.bind_some, Sum.elim_inr]
 dsimp only
 have hm : ((n.toNat : Nat) : Int) = n := by omega
 refine T_bindr _ (p_label (n := n) (Hp.empty hm) (fun p p0 p1 => by simp at p1; omega) s0 s1 (by omega) (by simp; omega) (by simp; omega) (Int.le_refl _) (by omega) (by simp) (fun old ho => by cases ho)) ?_
 rintro ⟨a, h, cs, c, hp⟩ ⟨r1, r2, r3, r4, r5, r6⟩
 dsimp only at *
 subst r4; subst r6
 have hr : ∀ x, gt (List.replicate n.toNat (0 : Int)) x = 0 := fun x => gt_rep (E := Int)
 have hf : ∀ x, gt (List.replicate n.toNat false) x = false := fun x => gt_rep (E := Bool)
 have hz : ∀ x, gt (List.replicate n.toNat ((0, 0) : Int × Int)) x = (0, 0) := fun x => gt_rep (E := Int × Int)
 have hD0 : ∀ x, DC (List.replicate n.toNat ((0, 0) : Int × Int)) x = none := fun x => by
  unfold DC; rw [hz, if_neg (by simp)]
 have P0 : PB n (List.replicate n.toNat false) (b0st n s) 1 h a ((List.replicate n.toNat ((0, 0) : Int × Int)).set s.toNat (0, 1)) c ((List.replicate n.toNat (0 : Int)).set s.toNat 0) := by
  refine ⟨by simp; omega, ?_, fun x x0 x1 => ?_, r2.keys fun y y0 y1 => ?_, r3, by simp at r1; omega, by omega, by omega⟩
  ·refine list_gt (by simp [b0st]) fun j j0 j1 => ?_
   simp only [b0st]
   rw [gt_set s0 (by simp; omega) j0, hr]
   split <;> rfl
  ·rw [DC_set s0 (by simp; omega)]
   have hb2 : gt (b0st n s).2.2 x = true ↔ x = s := by
    show gt ((List.replicate n.toNat false).set s.toNat true) x = true ↔ x = s
    rw [gt_set s0 (by simp; omega) x0, hf]
    by_cases e : x = s <;> simp [e]
   have hb1 : gt (b0st n s).1 x = 0 := hr x
   by_cases e : x = s
   ·rw [if_pos e, if_pos (hb2.2 e), hb1]
   ·rw [if_neg e, if_neg (fun k => e (hb2.1 k)), hD0]
  ·rw [DC_set s0 (by simp; omega), hD0]
   simp [hf]
 refine T_bindr (fun r => ∃ R B st, BR F T' W n hops settles most 0 (b0st n s) (List.replicate n.toNat false) st r.2.2.2.2.2 ∧ BO n R r.2.2.2.2.2 st ∧ PB n r.2.2.2.2.2 st B r.1 r.2.1 r.2.2.1 r.2.2.2.1 r.2.2.2.2.1) ?_ ?_
 ·refine T_loop (fun z => ∃ st, 0 ≤ z.2.2.2.2.2.2 ∧ z.2.2.2.2.2.2 = cntT z.2.2.2.2.2.1 ∧ BO n z.2.2.2.2.2.2 z.2.2.2.2.2.1 st ∧ PB n z.2.2.2.2.2.1 st (1 + z.2.2.2.2.2.2 * 262144) z.1 z.2.1 z.2.2.1 z.2.2.2.1 z.2.2.2.2.1 ∧ ∀ st' S', BR F T' W n hops settles most z.2.2.2.2.2.2 st z.2.2.2.2.2.1 st' S' → BR F T' W n hops settles most 0 (b0st n s) (List.replicate n.toNat false) st' S') (fun z => (n - z.2.2.2.2.2.2).toNat) ?_ ⟨b0st n s, by simp, (cntT_zero _).symm, b0_ok s0 s1, by simpa using P0, fun _ _ h => h⟩
  rintro ⟨h, a, cs, c, hp, S, R⟩ ⟨st, R0, hcn, D, P, K⟩
  dsimp only at *
  have hR := D.le
  have lS := D.lS
  unfold z_search_run_l0
  rw [T_ite]
  refine ⟨fun hlt => ?_, fun hge => ?_⟩
  rotate_left
  ·simp only [T_some, Sum.elim_inr]
   exact ⟨_, _, st, K _ _ (.full _ _ _ (by omega)), D, P⟩
  rw [p_Top, Option.bind_some]
  by_cases hl : (h.length : Int) = 0
  ·rw [if_pos hl]
   refine T_bindr (fun o => o = true) (by simp) ?_
   rintro _ rfl
   rw [if_pos rfl]
   simp only [T_some, Sum.elim_inr]
   exact ⟨_, _, st, K _ _ (.none _ _ _ hlt (P.nopick hl)), D, P⟩
  ·rw [if_neg hl]
   dsimp only
   obtain ⟨hp', hkey⟩ := P.pick D (by omega)
   obtain ⟨v0, v1, vA, vS, vm⟩ := id hp'
   have hb := D.big _ v0 v1 vA
   refine T_bindr (fun o => o = decide (gt st.1 (gt h 0).2 > most)) ?_ ?_
   ·simp only [T_ite, T_some]
    exact ⟨fun h => by simp at h, fun _ => by rw [hkey]⟩
   rintro _ rfl
   rw [T_ite]
   refine ⟨fun hm => ?_, fun hm => ?_⟩
   ·simp only [T_some, Sum.elim_inr]
    exact ⟨_, _, st, K _ _ (.far _ _ _ _ hlt hp' (by simpa using hm)), D, P⟩
   have hmost : ¬ gt st.1 (gt h 0).2 > most := by simpa using hm
   refine T_bindr _ (p_Pop P.heap P.ord (by omega) (by omega)) ?_
   rintro ⟨_, _, _, a', h'⟩ ⟨l', H', O'⟩
   dsimp only at *
   have hE := D.enter hp'
   have hcs := cnt_set lS v0 v1 vS
   have hc2 := cntT_le (S.set (gt h 0).2.toNat true)
   rw [List.length_set] at hc2
   have gS : ∀ y, 0 ≤ y → gt (S.set (gt h 0).2.toNat true) y = if y = (gt h 0).2 then true else gt S y := fun y y0 => gt_set v0 (by omega) y0
   have PE : PB n (S.set (gt h 0).2.toNat true) st (1 + R * 262144) h' a' cs c hp := by
    refine ⟨P.lc, P.hops, P.dc, H'.keys fun y y0 y1 => ?_, O', by have := P.room; omega, P.c0, P.c1⟩
    rw [gS y y0]
    by_cases e : y = (gt h 0).2
    ·rw [if_pos e, if_pos e, if_pos rfl]
    ·rw [if_neg e, if_neg e]
   simp only [T_G]
   refine ⟨by omega, T_bindr _ (p_settleB hc hn lS v0 v1 R0 (by omega) hE PE (by omega) hkey.symm) ?_⟩
   rintro ⟨a2, h2, cs2, c2, hp2, S2⟩ ⟨e2, hq⟩
   dsimp only at *
   subst e2
   simp only [T_G, T_some, Sum.elim_inl]
   rcases hq with ⟨q1, q2⟩ | ⟨q1, q2, q3⟩
   ·refine ⟨by omega, ⟨st, by omega, by rw [hcs]; omega, D.settled hp' hE, ?_, fun st' S' hB => K _ _ (.leaf _ _ _ _ _ _ hlt hp' hmost q1 hB)⟩, by omega⟩
    rwa [show 1 + (R + 1) * 262144 = 1 + R * 262144 + 262144 from by omega]
   ·refine ⟨by omega, ⟨_, by omega, by rw [hcs]; omega, D.settled hp' q3, ?_, fun st' S' hB => K _ _ (.row _ _ _ _ _ _ hlt hp' hmost q1 hB)⟩, by omega⟩
    rwa [show 1 + (R + 1) * 262144 = 1 + R * 262144 + 262144 from by omega]
 ·rintro ⟨h, a, cs, c, hp, S⟩ ⟨R, B, st, h1, h2, h3⟩
  dsimp only at *
  simp only [T_some]
  exact ⟨h, a, cs, c, hp, S, st, R, B, rfl, h1, h2, h3⟩
def allv (n : List Bool) : Nat → List Int
 | 0 => []
 | k + 1 => allv n k ++ if gt n (k : Int) = true then [(k : Int)] else []
def labs (st : BS) (S : List Bool) : Nat → List (Int × Int × Int × Bool)
 | 0 => []
 | k + 1 => labs st S k ++ if gt st.2.2 (k : Int) = true then [((k : Int), gt st.1 (k : Int), gt st.2.1 (k : Int), gt S (k : Int))] else []
theorem allv_mem {l : List Bool} {k : Nat} {v : Int} (h : v ∈ allv l k) : 0 ≤ v ∧ v < k ∧ gt l v = true := by
 induction k with
 | zero => cases h
 | succ k ih =>
  rcases List.mem_append.1 h with h | h
  ·have := ih h; exact ⟨this.1, by omega, this.2.2⟩
  ·by_cases e : gt l (k : Int) = true
   ·rw [if_pos e] at h
    obtain rfl := List.mem_singleton.1 h
    exact ⟨by omega, by omega, e⟩
   ·rw [if_neg e] at h; cases h
theorem allv_len {l : List Bool} {k : Nat} : (allv l k).length ≤ k := by
 induction k with
 | zero => simp [allv]
 | succ k ih =>
  simp only [allv, List.length_append]
  split <;> simp <;> omega
theorem allv_map (st : BS) (S : List Bool) (k : Nat) : (allv st.2.2 k).map (fun v => (v, gt st.1 v, gt st.2.1 v, gt S v)) = labs st S k := by
 induction k with
 | zero => rfl
 | succ k ih =>
  simp only [allv, labs, List.map_append, ih]
  split <;> rfl
theorem labs_len {st : BS} {S : List Bool} {k : Nat} : (labs st S k).length ≤ k := by
 rw [← allv_map, List.length_map]; exact allv_len
theorem p_All (P : PB n S st B h a cs c hp) (hn : n ≤ 1000000) : T (z_stamp_Stamp_All cs 1 c) fun l => l = allv st.2.2 n.toNat := by
 unfold z_stamp_Stamp_All
 rw [T_bind]
 refine T_mono (Q := fun l => l = allv st.2.2 n.toNat) ?_ fun l h => by simpa using h
 have lc := P.lc
 refine T_loop (fun z => 0 ≤ z.1 ∧ z.1 ≤ n ∧ z.2 = allv st.2.2 z.1.toNat) (fun z => (n - z.1).toNat) ?_ ⟨by simp, by simp; omega, rfl⟩
 rintro ⟨i, l⟩ ⟨i0, i1, e⟩
 dsimp only at *
 subst e
 unfold z_stamp_Stamp_All_l0
 rw [T_ite]
 refine ⟨fun hi => ?_, fun hi => by simp only [T_some, Sum.elim_inr]; rw [show n.toNat = i.toNat from by omega]⟩
 have hd := P.dc i i0 (by omega)
 unfold DC at hd
 have hlen := allv_len (l := st.2.2) (k := i.toNat)
 have next : allv st.2.2 (i + 1).toNat = allv st.2.2 i.toNat ++ if gt st.2.2 i = true then [i] else [] := by
  rw [show (i + 1).toNat = i.toNat + 1 from by omega]
  simp only [allv]
  rw [show ((i.toNat : Nat) : Int) = i from by omega]
 simp only [T_G, T_ite, T_some, Sum.elim_inl]
 refine ⟨i0, fun h1 => ⟨by omega, by omega, ⟨by omega, by omega, ?_⟩, by omega⟩, fun h1 => ⟨by omega, ⟨by omega, by omega, ?_⟩, by omega⟩⟩
 ·rw [if_pos ⟨i0, hi, h1⟩] at hd
  have hA : gt st.2.2 i = true := Classical.not_not.1 fun q => by rw [if_neg q] at hd; cases hd
  rw [next, if_pos hA]
 ·rw [if_neg fun q => h1 q.2.2] at hd
  have hA : ¬ gt st.2.2 i = true := fun q => by rw [if_pos q] at hd; cases hd
  rw [next, if_neg hA, List.append_nil]
inductive BndA (F T' W : List Int) (s hops settles most : Int) : List (Int × Int × Int × Bool) → Er → Prop
 | bad (er : Er) : Chk F T' W er → er ≠ .nil → BndA F T' W s hops settles most [] er
 | node : Chk F T' W .nil → ¬ (0 ≤ s ∧ s < (F.length : Int) - 1) → BndA F T' W s hops settles most [] (.no 7)
 | ok (st : BS) (S : List Bool) : Chk F T' W .nil → 0 ≤ s → s < (F.length : Int) - 1 → BR F T' W ((F.length : Int) - 1) hops settles most 0 (b0st ((F.length : Int) - 1) s) (List.replicate ((F.length : Int) - 1).toNat false) st S → BndA F T' W s hops settles most (labs st S ((F.length : Int) - 1).toNat) .nil
theorem BndA.uniq {l m : List (Int × Int × Int × Bool)} {er er' : Er} (cu : ∀ a b, Chk F T' W a → Chk F T' W b → a = b) (h : BndA F T' W s hops settles most l er) (k : BndA F T' W s hops settles most m er') : l = m ∧ er = er' := by
 cases h with
 | bad _ c1 c2 =>
  cases k with
  | bad _ k1 k2 => exact ⟨rfl, cu _ _ c1 k1⟩
  | node k1 _ => exact absurd (cu _ _ c1 k1) c2
  | ok _ _ k1 _ _ _ => exact absurd (cu _ _ c1 k1) c2
 | node c1 c2 =>
  cases k with
  | bad _ k1 k2 => exact absurd (cu _ _ k1 c1) k2
  | node _ _ => exact ⟨rfl, rfl⟩
  | ok _ _ _ k2 k3 _ => exact absurd ⟨k2, k3⟩ c2
 | ok _ _ c1 c2 c3 c4 =>
  cases k with
  | bad _ k1 k2 => exact absurd (cu _ _ k1 c1) k2
  | node _ k2 => exact absurd ⟨c2, c3⟩ k2
  | ok _ _ _ _ _ k4 => obtain ⟨rfl, rfl⟩ := c4.uniq k4; exact ⟨rfl, rfl⟩
theorem BndA.err {l : List (Int × Int × Int × Bool)} {er : Er} (h : BndA F T' W s hops settles most l er) : (Chk F T' W er) ∨ er = .no 7 := by
 cases h with
 | bad _ c _ => exact .inl c
 | node _ _ => exact .inr rfl
 | ok _ _ c _ _ _ => exact .inl c
theorem BndA.len {l : List (Int × Int × Int × Bool)} {er : Er} (h : BndA F T' W s hops settles most l er) : l.length ≤ 100000 := by
 cases h with
 | bad _ _ _ => simp
 | node _ _ => simp
 | ok st S c _ _ _ => have := c.small.1; have := labs_len (st := st) (S := S) (k := ((F.length : Int) - 1).toNat); omega
end Go.Vd

/-! (Ds6) -/

set_option linter.unusedVariables false
set_option linter.unusedSimpArgs false
namespace Go.Vd
variable {F T' W : List Int} {s : Int}
inductive FromA (F T' W : List Int) (s : Int) : List Int → Er → Prop
 | bad (er : Er) : Chk F T' W er → er ≠ .nil → FromA F T' W s [] er
 | node : Chk F T' W .nil → ¬ (0 ≤ s ∧ s < (F.length : Int) - 1) → FromA F T' W s [] (.no 7)
 | ok (l : List Int) : Chk F T' W .nil → 0 ≤ s → s < (F.length : Int) - 1 → DistL F T' W s l → FromA F T' W s l .nil
theorem p_From (hl : F.length ≤ 17592186044160) (ht : T'.length ≤ 17592186044160) (pc : T (z_csr_Check F T' W) (Chk F T' W)) : T (z_search_From F T' W s) fun r => FromA F T' W s r.1 r.2 := by
 unfold z_search_From
 refine T_bindr _ (p_node8 hl ht pc) ?_
 rintro r ⟨er, hc, h⟩
 rw [T_ite]
 refine ⟨fun hr => ?_, fun hr => ?_⟩
 ·subst hr
  rcases h with ⟨h1, h2⟩ | ⟨_, _, h2⟩ | ⟨h1, s0, s1, _⟩
  ·exact absurd h2.symm h1
  ·cases h2
  subst h1
  obtain ⟨m1, m2⟩ := hc.small
  obtain ⟨q1, _⟩ := hc.shp
  rw [show z_search_free = some () from rfl, Option.bind_some]
  refine T_bindr _ (p_run hc s0 s1) ?_
  rintro _ ⟨h, a, cs, c, hp, S, rfl, lc, C, hb, _, _⟩
  dsimp only
  refine T_bindr _ (p_all (by omega) (by omega) lc) fun l ⟨l1, l2⟩ => ?_
  simp only [T_some]
  refine .ok l hc s0 s1 ⟨l1, ?_⟩
  have e : LD l = DC cs := by
   funext v
   unfold LD
   by_cases hv : 0 ≤ v ∧ v < (F.length : Int) - 1
   ·rw [l2 v hv.1 hv.2]
    cases hd : DC cs v with
    | none => rw [if_neg (fun k => k.2.2 rfl)]
    | some k =>
     have := hb v k hd
     rw [if_pos ⟨hv.1, by omega, by simp; omega⟩]; rfl
   ·rw [if_neg (by omega)]
    cases hd : DC cs v with
    | none => rfl
    | some k => have := DC_rng hd; omega
  rw [e]; exact C
 ·simp only [T_some]
  rcases h with ⟨h1, h2⟩ | ⟨h1, h3, h2⟩ | ⟨_, _, _, h2⟩
  ·subst h2; exact .bad _ hc h1
  ·subst h1; subst h2; exact .node hc h3
  ·exact absurd h2 hr
end Go.Vd

/-! (ChkU) -/

namespace Go.Vd
variable {F T' W l : List Int}
theorem Chk.uniq {er er' : Er} (h : Chk F T' W er) (k : Chk F T' W er') : er = er' := by
 cases h with
 | shape h1 =>
  cases k with
  | shape _ => rfl
  | limit k1 _ => exact absurd k1 h1
  | mono v k1 => exact absurd k1 h1
  | arc v i k1 => exact absurd k1 h1
  | ok k1 => exact absurd k1 h1
 | limit h1 h2 =>
  cases k with
  | shape k1 => exact absurd h1 k1
  | limit _ _ => rfl
  | mono v _ k2 => exact absurd k2 h2
  | arc v i _ k2 => exact absurd k2 h2
  | ok _ k2 => exact absurd k2 h2
 | mono v h1 h2 h3 h4 h5 h6 =>
  cases k with
  | shape k1 => exact absurd h1 k1
  | limit _ k2 => exact absurd h2 k2
  | mono v' _ _ k3 k4 k5 k6 =>
   have : v = v' := by
    rcases Int.lt_trichotomy v v' with q | q | q
    ·have := k6 v h3 q; omega
    ·exact q
    ·have := h6 v' k3 q; omega
   rw [this]
  | arc v' i _ _ k3 => have := k3 v h3 h4; omega
  | ok _ _ k3 => have := k3 v h3 h4; omega
 | arc v i h1 h2 h3 h4 h5 h6 =>
  cases k with
  | shape k1 => exact absurd h1 k1
  | limit _ k2 => exact absurd h2 k2
  | mono v' _ _ k3 k4 k5 k6 => have := h3 v' k3 k4; omega
  | arc v' i' _ _ _ k4 k5 k6 =>
   have e : i = i' := by
    rcases Int.lt_trichotomy i i' with q | q | q
    ·exact absurd (k6 v i h4 q) h5
    ·exact q
    ·exact absurd (h6 v' i' k4 q) k5
   subst e
   rw [In.uniq h3 h4 k4]
  | ok _ _ _ k4 => exact absurd (k4 v i h4) h5
 | ok h1 h2 h3 h4 =>
  cases k with
  | shape k1 => exact absurd h1 k1
  | limit _ k2 => exact absurd h2 k2
  | mono v' _ _ k3 k4 k5 k6 => have := h3 v' k3 k4; omega
  | arc v' i' _ _ _ k4 k5 k6 => exact absurd (h4 v' i' k4) k5
  | ok => rfl
end Go.Vd

/-! (Wk0) -/

set_option linter.unusedVariables false
set_option linter.unusedSimpArgs false
namespace Go.Vd
variable {N i j d : Int} {A L : List A3}
inductive Wk (A : List A3) : Int → Int → Int → Prop
 | refl (i : Int) : Wk A i i 0
 | step (i u d x w : Int) : Wk A i u d → (u, x, w) ∈ A → Wk A i x (d + w)
theorem Wk.cat {i u v d e : Int} (h : Wk A i u d) (k : Wk A u v e) : Wk A i v (d + e) := by
 induction k with
 | refl => simpa using h
 | step u e x w _ ha ih =>
  have := ih.step _ _ _ _ w ha
  rwa [Int.add_assoc] at this
theorem Wk.one {i j w : Int} (h : (i, j, w) ∈ A) : Wk A i j w := by
 have := (Wk.refl i).step _ _ _ j w h
 simpa using this
theorem Wk.nrm (k : Nrm A L) (ha : ∀ a ∈ A, 0 ≤ a.2.2) (h : Wk A i j d) : ∃ e, Wk L i j e ∧ e ≤ d := by
 induction h with
 | refl => exact ⟨0, .refl _, Int.le_refl _⟩
 | step u e x w _ hm ih =>
  obtain ⟨f, h1, h2⟩ := ih
  have := ha _ hm
  dsimp only at this
  by_cases q : u = x
  ·subst q; exact ⟨f, h1, by omega⟩
  ·obtain ⟨b, b1, b2⟩ := k.sup _ hm q
   have b3 := (k.sub b b1).2.2 _ hm ⟨b2.1.symm, b2.2.symm⟩
   have eb : (u, x, b.2.2) = b := eq3 b2.1.symm b2.2.symm rfl
   exact ⟨f + b.2.2, h1.step _ _ _ _ _ (by rw [eb]; exact b1), by dsimp only at b3; omega⟩
theorem Wk.sub (k : ∀ a ∈ L, a ∈ A) (h : Wk L i j d) : Wk A i j d := by
 induction h with
 | refl => exact .refl _
 | step u e x w _ hm ih => exact ih.step _ _ _ _ _ (k _ hm)
theorem Wk.rev (h : Wk A i j d) : Wk (A.map swp3) j i d := by
 induction h with
 | refl => exact .refl _
 | step u e x w _ hm ih =>
  have h1 : Wk (A.map swp3) x u w := .one (List.mem_map.2 ⟨_, hm, rfl⟩)
  rw [Int.add_comm]; exact h1.cat ih
theorem map_swp3 : (A.map swp3).map swp3 = A := by
 rw [List.map_map]
 have : (swp3 ∘ swp3 : A3 → A3) = id := by funext a; rfl
 rw [this, List.map_id]
theorem arcs_in (h : GChk N A .nil) : ∀ a ∈ A, (0 ≤ a.1 ∧ a.1 < N) ∧ 0 ≤ a.2.1 ∧ a.2.1 < N ∧ 0 ≤ a.2.2 ∧ a.2.2 ≤ 2147483647 := fun a ha => by
 obtain ⟨a1, a2, a3, a4, a5, a6⟩ := h.arcs a ha; exact ⟨⟨a1, a2⟩, a3, a4, a5, a6⟩
end Go.Vd

/-! (PrSearchTurned) -/

set_option linter.unusedVariables false
set_option linter.unusedSimpArgs false
namespace Go.Vd
variable {F T' W F2 T2 W2 l p : List Int} {N s t v : Int} {A L : List A3} {D : Int → Option Int}
theorem T_both {α : Type} {x : Option α} {P Q : α → Prop} (h : T x P) (k : T x Q) : T x fun a => P a ∧ Q a := by
 obtain ⟨a, h1, h2⟩ := h
 obtain ⟨b, k1, k2⟩ := k
 rw [h1] at k1; cases k1
 exact ⟨a, h1, h2, k2⟩
theorem nodup_le : ∀ (n : Nat) (l : List Int), l.Nodup → (∀ x ∈ l, 0 ≤ x ∧ x < (n : Int)) → l.length ≤ n := by
 intro n
 induction n with
 | zero =>
  intro l _ h
  cases l with
  | nil => simp
  | cons a l => have := h a (by simp); omega
 | succ n ih =>
  intro l hd h
  have h1 := ih (l.erase (n : Int)) (hd.erase _) fun x hx => by
   obtain ⟨e, m⟩ := hd.mem_erase_iff.1 hx
   have := h x m
   omega
  rw [List.length_erase] at h1
  split at h1 <;> omega
theorem labs_pre {st : BS} {S : List Bool} {k n : Nat} (h : k ≤ n) : ∃ r, labs st S n = labs st S k ++ r := by
 induction n with
 | zero => exact ⟨[], by rw [show k = 0 from by omega, List.append_nil]⟩
 | succ n ih =>
  by_cases e : k = n + 1
  ·exact ⟨[], by rw [e, List.append_nil]⟩
  ·obtain ⟨r, hr⟩ := ih (by omega)
   refine ⟨_, by rw [labs, hr, List.append_assoc]⟩
theorem labs_at {st : BS} {S : List Bool} {k n : Nat} (h : k < n) (hk : gt st.2.2 (k : Int) = true) : ((labs st S k).length : Int) < ((labs st S n).length : Int) ∧ gt (labs st S n) ((labs st S k).length : Int) = ((k : Int), gt st.1 (k : Int), gt st.2.1 (k : Int), gt S (k : Int)) := by
 obtain ⟨r, hr⟩ := labs_pre (st := st) (S := S) (show k + 1 ≤ n from h)
 rw [labs, if_pos hk] at hr
 have hl : (labs st S k).length < (labs st S n).length := by rw [hr]; simp
 refine ⟨by omega, ?_⟩
 rw [gt_nat hl]
 simp only [hr, List.append_assoc]
 rw [List.getElem_append_right (Nat.le_refl _)]
 simp
theorem p_BndAll (hc : Chk F T' W .nil) (s0 : 0 ≤ s) (s1 : s < (F.length : Int) - 1) : T (z_search_Bounded F T' W s 4611686018427387904 4611686018427387904 18446744073709551615) fun r => r.2 = .nil ∧ ∃ (st : BS) (S : List Bool) (D : Int → Option Int), r.1 = labs st S ((F.length : Int) - 1).toNat ∧ Cd F T' W s D ∧ ∀ v, 0 ≤ v → v < (F.length : Int) - 1 → (gt st.2.2 v = true → D v = some (gt st.1 v) ∧ gt S v = true) ∧ (¬ gt st.2.2 v = true → D v = none) := by
 obtain ⟨m1, m2⟩ := hc.small
 obtain ⟨q1, q2, q3⟩ := hc.shp
 unfold z_search_Bounded
 refine T_bindr _ (p_node8 (by omega) (by omega) (p_Check (by omega) (by omega))) ?_
 rintro r ⟨er, hc', h⟩
 have he := hc'.uniq hc
 subst he
 have hr : r = .nil := by
  rcases h with ⟨h1, _⟩ | ⟨_, h3, _⟩ | ⟨_, _, _, h2⟩
  ·exact absurd rfl h1
  ·exact absurd ⟨s0, s1⟩ h3
  ·exact h2
 rw [if_pos hr]
 refine T_bindr _ (T_both (p_runB hc rfl s0 s1) (p_run hc s0 s1)) ?_
 rintro _ ⟨⟨h, a, cs, c, hp, S, st, R, B, rfl, hB, D, P⟩, ⟨h', a', cs', c', hp', S', e, lc', C, hb', lS', hS'⟩⟩
 simp only [Prod.mk.injEq, true_and] at e
 obtain ⟨rfl, rfl, rfl, rfl, rfl, rfl⟩ := e
 dsimp only
 refine T_bindr _ (p_All P (by omega)) ?_
 rintro _ rfl
 refine T_bindr (fun l => l = labs st S ((F.length : Int) - 1).toNat) ?_ fun l hl => by
  simp only [T_some]; subst hl
  refine ⟨trivial, st, S, DC cs, rfl, C, fun v v0 v1 => ⟨fun hv => ?_, fun hv => ?_⟩⟩
  ·have hd := P.dc v v0 v1
   rw [if_pos hv] at hd
   exact ⟨hd, (hS' v v0 v1).2 ⟨_, hd⟩⟩
  ·have hd := P.dc v v0 v1
   rw [if_neg hv] at hd
   exact hd
 have hal := allv_len (l := st.2.2) (k := ((F.length : Int) - 1).toNat)
 refine T_loop (fun z => 0 ≤ z.2 ∧ z.2 ≤ ((allv st.2.2 ((F.length : Int) - 1).toNat).length : Int) ∧ z.1 = ((allv st.2.2 ((F.length : Int) - 1).toNat).take z.2.toNat).map fun v => (v, gt st.1 v, gt st.2.1 v, gt S v)) (fun z => (((allv st.2.2 ((F.length : Int) - 1).toNat).length : Int) - z.2).toNat) ?_ ⟨by simp, by simp, rfl⟩
 rintro ⟨l, i⟩ ⟨i0, i1, e⟩
 dsimp only at *
 subst e
 unfold z_search_Bounded_l0
 dsimp only
 rw [T_ite]
 refine ⟨fun hi => ?_, fun hi => ?_⟩
 rotate_left
 ·simp only [T_some, Sum.elim_inr]
  rw [List.take_of_length_le (by omega)]; exact allv_map _ _ _
 obtain ⟨q0, q1, q2⟩ := allv_mem (gt_mem i0 hi)
 generalize hv : gt (allv st.2.2 ((F.length : Int) - 1).toNat) i = v at q0 q1 q2
 have lH := D.lH; have lS := D.lS; have lc := P.lc
 have hho := P.hops
 subst hho
 have hd := P.dc v q0 (by omega)
 rw [if_pos q2] at hd
 rw [T_G, p_SGet q0 (by omega), hd]
 dsimp only
 simp only [Option.bind_some, T_G, T_some, Sum.elim_inl]
 have htl : (((allv st.2.2 ((F.length : Int) - 1).toNat).take i.toNat).map fun v => (v, gt st.1 v, gt st.2.1 v, gt S v)).length = i.toNat := by rw [List.length_map, List.length_take]; omega
 refine ⟨i0, by omega, by omega, by rw [htl]; simp only [List.length_cons, List.length_nil]; omega, by omega, ⟨by omega, by omega, ?_⟩, by omega⟩
 have htg : (allv st.2.2 ((F.length : Int) - 1).toNat).take (i + 1).toNat = (allv st.2.2 ((F.length : Int) - 1).toNat).take i.toNat ++ [v] := by
  rw [← hv]
  exact take_gt i0 hi
 rw [htg, List.map_append]
 rfl
theorem Way.wk (hA : ∀ u x w, Arcw F T' W u x w ↔ (u, x, w) ∈ L) {d : Int} (h : Way F T' W s v d) : Wk L s v d := by
 induction h with
 | refl => exact .refl _
 | step u e x w _ ha ih => exact ih.step _ _ _ _ w ((hA _ _ _).1 ha)
theorem Wk.way (hA : ∀ u x w, Arcw F T' W u x w ↔ (u, x, w) ∈ L) {d : Int} (h : Wk L s v d) : Way F T' W s v d := by
 induction h with
 | refl => exact .refl
 | step u e x w _ ha ih => exact ih.step _ _ _ w ((hA _ _ _).2 ha)
theorem SP.pre (P : SP F T' W s t D p) {k : Int} (k0 : 0 ≤ k) (k1 : k < (p.length : Int)) : SP F T' W s (gt p k) D (p.take (k + 1).toNat) := by
 have hl : ((p.take (k + 1).toNat).length : Int) = k + 1 := by simp; omega
 have hg : ∀ j, 0 ≤ j → j ≤ k → gt (p.take (k + 1).toNat) j = gt p j := fun j j0 j1 => gt_tk j0 (by omega)
 have hs := P.small
 refine ⟨by omega, by rw [hg 0 (by omega) k0]; exact P.fst, by rw [hl, show k + 1 - 1 = k from by omega, hg k k0 (Int.le_refl _)], fun i i0 i1 => ?_, P.nd.sublist (List.take_sublist _ _), fun x hx => P.rng x (List.mem_of_mem_take hx), by omega⟩
 rw [hl] at i1
 rw [hg _ (by omega) (by omega), hg _ (by omega) (by omega)]
 exact P.con i i0 (by omega)
theorem p_SearchTurned (hl : A.length ≤ 17592186043904) : z_viaductlaw08_SearchTurned N A s t = some true := by
 refine T_eq.1 ?_
 unfold z_viaductlaw08_SearchTurned
 refine T_bindr (fun o => o = true ∨ (GChk N A .nil ∧ N ≤ 12 ∧ (0 ≤ s ∧ s < N) ∧ 0 ≤ t ∧ t < N)) ?_ fun o ho => ?_
 ·refine T_bindr _ p_Few fun f hf => ?_
  simp only [T_ite, T_some]
  refine ⟨fun h => ?_, fun h => by simp⟩
  obtain ⟨h1, h2, _⟩ := hf.1 h
  refine ⟨fun _ => .inl trivial, fun a1 => ⟨fun _ => .inl trivial, fun a2 => ⟨fun _ => .inl trivial, fun a3 => ?_⟩⟩⟩
  by_cases k : t ≥ N
  ·simp [k]
  ·exact .inr ⟨h1, h2, ⟨by omega, by omega⟩, by omega, by omega⟩
 rw [T_ite]
 refine ⟨fun _ => by simp, fun h => ?_⟩
 obtain ⟨hg, hN, ⟨s0, s1⟩, t0, t1⟩ := ho.resolve_left h
 obtain ⟨n0, n1, n2⟩ := hg.small
 refine T_bindr _ p_Build ?_
 rintro ⟨F, T', W, er⟩ hB
 dsimp only at *
 obtain ⟨rfl, L, hn, hgl, hfl, hc, lF, hA⟩ := hB.use hg
 obtain ⟨m1, m2⟩ := hc.small
 refine T_bindr _ p_Bck ?_
 rintro ⟨F2, T2, W2, er⟩ hB2
 dsimp only at *
 obtain ⟨rfl, L2, hn2, hgl2, hfl2, hc2, lF2, hA2⟩ := hB2.use hg
 obtain ⟨m3, m4⟩ := hc2.small
 obtain ⟨q1, q2, q3⟩ := hc.shp
 refine T_bindr _ (p_From (by omega) (by omega) (p_Check (by omega) (by omega))) ?_
 rintro ⟨d, er⟩ hF
 dsimp only at *
 cases hF with
 | bad _ c1 c2 => exact absurd (c1.uniq hc) c2
 | node _ c2 => exact absurd ⟨s0, by omega⟩ c2
 | ok _ _ _ _ hD =>
 refine T_bindr _ (p_Matrix (by omega) (by omega)) ?_
 rintro ⟨M, er⟩ hM
 dsimp only at *
 have hsq : ((F2.length : Int) - 1) * ((F2.length : Int) - 1) ≤ 12 * 12 := Int.mul_le_mul (by omega) (by omega) (by omega) (by omega)
 cases hM with
 | bad _ c1 c2 => exact absurd (c1.uniq hc2) c2
 | limit _ c2 => omega
 | ok _ _ _ hL =>
 refine T_bindr _ (p_BndAll hc s0 (by omega)) ?_
 rintro ⟨l, er⟩ ⟨rfl, st, S, D, rfl, C, hlab⟩
 dsimp only at *
 have ld := hD.len
 have lM := hL.1
 have hrow : ∀ i, 0 ≤ i → i < N → DistL F2 T2 W2 i (gt M i) := fun i i0 i1 => hL.2 i i0 (by omega)
 have hrl : ∀ i, 0 ≤ i → i < N → ((gt M i).length : Int) = N := fun i i0 i1 => by have := (hrow i i0 i1).len; omega
 rw [if_pos rfl, if_pos rfl, if_pos rfl, if_pos rfl, if_pos rfl, if_pos (by omega), Option.bind_some, if_neg (by simp; omega)]
 -- distances turned about
 have nn : ∀ a ∈ A, 0 ≤ a.2.2 := fun a ha => (arcs_in hg a ha).2.2.2.1
 have nn2 : ∀ a ∈ A.map swp3, 0 ≤ a.2.2 := fun a ha => by
  obtain ⟨b, hb, rfl⟩ := List.mem_map.1 ha
  exact nn b hb
 have go : ∀ v x, Way F T' W s v x → ∃ e, Way F2 T2 W2 v s e ∧ e ≤ x := fun v x h => by
  obtain ⟨e, e1, e2⟩ := Wk.nrm hn2 nn2 ((Way.wk hA h).sub fun a ha => (hn.sub a ha).1).rev
  exact ⟨e, e1.way hA2, e2⟩
 have back : ∀ v x, Way F2 T2 W2 v s x → ∃ e, Way F T' W s v e ∧ e ≤ x := fun v x h => by
  have h1 := ((Way.wk hA2 h).sub fun a ha => (hn2.sub a ha).1).rev
  rw [map_swp3] at h1
  obtain ⟨e, e1, e2⟩ := Wk.nrm hn nn h1
  exact ⟨e, e1.way hA, e2⟩
 have key : ∀ v, 0 ≤ v → v < N → gt (gt M v) s = gt d v := fun v v0 v1 => by
  have hr := hrl v v0 v1
  by_cases e1 : gt d v = 18446744073709551615
  ·by_cases e2 : gt (gt M v) s = 18446744073709551615
   ·rw [e1, e2]
   ·obtain ⟨e, w1, w2⟩ := back v _ ((hrow v v0 v1).cd.way _ _ (LD_iff.2 ⟨s0, by omega, e2, rfl⟩))
    obtain ⟨k, k1, _⟩ := hD.cd.low w1
    exact absurd e1 (LD_iff.1 k1).2.2.1
  ·obtain ⟨e, w1, w2⟩ := go v _ (hD.cd.way _ _ (LD_iff.2 ⟨v0, by omega, e1, rfl⟩))
   obtain ⟨k, k1, k2⟩ := (hrow v v0 v1).cd.low w1
   obtain ⟨e', w3, w4⟩ := back v _ ((hrow v v0 v1).cd.way _ _ k1)
   obtain ⟨k', k3, k4⟩ := hD.cd.low w3
   have g1 := (LD_iff.1 k1).2.2.2
   have g2 := (LD_iff.1 k3).2.2.2
   omega
 have dl : ∀ v, 0 ≤ v → v < N → (gt d v = 18446744073709551615 → ¬ gt st.2.2 v = true) ∧ (gt d v ≠ 18446744073709551615 → gt st.2.2 v = true ∧ gt st.1 v = gt d v ∧ gt S v = true) := fun v v0 v1 => by
  have hu := C.uniq hD.cd v
  obtain ⟨h1, h2⟩ := hlab v v0 (by omega)
  refine ⟨fun e hst => ?_, fun e => ?_⟩
  ·rw [(h1 hst).1] at hu
   exact absurd e (LD_iff.1 hu.symm).2.2.1
  ·have hld := LD_iff.2 ⟨v0, by omega, e, rfl⟩
   have hst : gt st.2.2 v = true := Classical.not_not.1 fun k => by
    rw [h2 k, hld] at hu; cases hu
   obtain ⟨h3, h4⟩ := h1 hst
   rw [h3, hld] at hu
   exact ⟨hst, Option.some.inj hu, h4⟩
 have hnn : ((F.length : Int) - 1).toNat = N.toNat := by omega
 rw [hnn]
 have hlen := labs_len (st := st) (S := S) (k := N.toNat)
 refine T_binds (fun o => o = ((labs st S N.toNat).length : Int)) ?_ ?_
 ·refine T_loop (fun z => 0 ≤ z.1 ∧ z.1 ≤ N ∧ z.2 = ((labs st S z.1.toNat).length : Int)) (fun z => (N - z.1).toNat) ?_ ⟨by simp, by simpa using n0, by simp [labs]⟩
  rintro ⟨v, k⟩ ⟨v0, v1, hk⟩
  dsimp only at v0 v1 hk
  unfold z_viaductlaw08_SearchTurned_l0
  dsimp only
  rw [T_ite]
  refine ⟨fun hv => ?_, fun hv => ?_⟩
  rotate_left
  ·simp only [T_some, Sum.elim_inr]
   rw [hk, show v.toNat = N.toNat from by omega]
  have hv' : v < N := by omega
  refine T_bindr (fun o => o = false) ?_ ?_
  ·rw [T_G, if_pos (hrl v v0 hv'), T_G, T_some, hrl v v0 hv', key v v0 hv']
   exact ⟨⟨v0, by omega⟩, ⟨s0, s1⟩, by simp⟩
  rintro _ rfl
  rw [if_neg (by decide), T_G, T_ite]
  obtain ⟨d1, d2⟩ := dl v v0 hv'
  have hvn : ((v.toNat : Nat) : Int) = v := by omega
  have hs1 : (v + 1).toNat = v.toNat + 1 := by omega
  refine ⟨v0, fun e => ?_, fun e => ?_⟩
  ·have := d1 e
   simp only [T_G, T_some, Sum.elim_inl]
   refine ⟨by omega, ⟨by omega, by omega, ?_⟩, by omega⟩
   rw [hs1, labs, hvn, if_neg this, List.append_nil]; exact hk
  ·obtain ⟨e1, e2, e3⟩ := d2 e
   obtain ⟨a1, a2⟩ := labs_at (st := st) (S := S) (show v.toNat < N.toNat from by omega) (by rw [hvn]; exact e1)
   rw [hvn, ← hk] at a2
   rw [if_neg (by omega), T_G, a2]
   dsimp only
   rw [if_pos rfl, if_pos e2, e3, if_neg (by decide)]
   simp only [T_G, T_some, Sum.elim_inl]
   refine ⟨by omega, by omega, by omega, ⟨by omega, by omega, ?_⟩, by omega⟩
   rw [hs1, labs, hvn, if_pos e1, List.length_append, hk]; simp
 rintro _ rfl
 rw [if_pos rfl]
 refine T_bindr _ (p_Path (by omega) (by omega) fun l hl => p_Reverse hl) ?_
 rintro ⟨p, er⟩ hP
 dsimp only at *
 rw [T_G, T_ite]
 have dsrc : ∀ D : Int → Option Int, Cd F T' W s D → ∀ v x, D v = some x → gt d v = x := fun D C v x h => by
  have := C.uniq hD.cd v
  rw [h] at this
  exact (LD_iff.1 this.symm).2.2.2
 cases hP with
 | bad _ c1 c2 => exact absurd (c1.uniq hc) c2
 | node _ c2 => exact absurd ⟨⟨s0, by omega⟩, t0, by omega⟩ c2
 | none D _ _ _ C' c5 =>
  refine ⟨⟨t0, by omega⟩, fun e => ?_, fun e => ?_⟩
  ·rw [p_E, Option.bind_some, show z_viaductseen_Same (.no 16) 16 [] = some true from p_SameT (er := .no 16) (by simp [Er.good]) (by simp [Er.pls])]
   simp
  ·have := C'.uniq hD.cd t
   rw [c5, LD_iff.2 ⟨t0, by omega, e, rfl⟩] at this; cases this
 | ok D _ x _ _ _ C' hb c6 P =>
  have hx := dsrc D C' t x c6
  refine ⟨⟨t0, by omega⟩, fun e => ?_, fun e => ?_⟩
  ·have := hb t x c6; omega
  have hpl := nodup_le N.toNat p P.nd fun y hy => by have := P.rng y hy; omega
  have hpp := P.pos
  refine T_bindr (fun o => o = false) ?_ ?_
  ·rw [if_pos rfl, if_neg (by omega), T_some]
   exact decide_eq_false (by omega)
  rintro _ rfl
  rw [if_neg (by decide)]
  refine T_binds (fun _ => True) ?_ fun _ _ => by simp
  refine T_loop (fun i => 0 ≤ i ∧ i ≤ (p.length : Int)) (fun i => ((p.length : Int) - i).toNat) ?_ ⟨by simp, by omega⟩
  rintro i ⟨i0, i1⟩
  unfold z_viaductlaw08_SearchTurned_l1
  dsimp only
  rw [T_ite]
  refine ⟨fun hi => ?_, fun hi => by simp⟩
  obtain ⟨r0, r1⟩ := P.rng _ (gt_memI i0 hi)
  have hDi : D (gt p i) = some (gt d (gt p i)) := by
   have : ∃ y, D (gt p i) = some y := by
    by_cases e0 : i = 0
    ·subst e0; rw [P.fst]; exact ⟨0, C'.src⟩
    ·obtain ⟨_, _, _, _, h3⟩ := P.con i (by omega) hi
     exact ⟨_, h3⟩
   obtain ⟨y, hy⟩ := this
   rw [hy, dsrc D C' _ _ hy]
  rw [T_G, if_neg (by omega), if_neg (by omega), T_G, T_G, T_G, p_rPath hc (P.pre i0 hi) C'.src hDi hb, Option.bind_some]
  refine ⟨i0, by omega, ⟨by omega, by omega⟩, ⟨r0, by omega⟩, ?_⟩
  simp only [Bool.not_true, Bool.false_eq_true, if_false, T_some, Sum.elim_inl]
  exact ⟨⟨by omega, by omega⟩, by omega⟩
end Go.Vd
