/- Lists and places. Plain Lean: no program here. -/
import Derived.Test.YtjfplpkmbijfpaaDoorPnt1
import Derived.Test.YtjfplpkmbijfpaaDoorSo0
import Derived.Test.YtjfplpkmbijfpaaDoorVdQ
import Derived.Test.YtjfplpkmbijfpaaDoorINt
import Derived.Test.YtjfplpkmbijfpaaDoorVpB
set_option linter.unusedVariables false
set_option linter.unusedSimpArgs false
set_option linter.unusedSectionVars false
/-! (Mo0) -/

namespace Go.Vd
theorem take_gtE {E : Type} [Inhabited E] {l : List E} {i : Int} (h0 : 0 ≤ i) (h1 : i < (l.length : Int)) : l.take (i + 1).toNat = l.take i.toNat ++ [gt l i] := by
  have hi : i.toNat < l.length := by omega
  rw [show (i + 1).toNat = i.toNat + 1 from by omega, List.take_add_one, List.getElem?_eq_getElem hi]
  have : gt l i = l[i.toNat] := by simp [gt, List.getD_eq_getElem?_getD, hi]
  rw [this]; rfl
theorem gt_setE {E : Type} [Inhabited E] {l : List E} {i j : Int} {v : E} (i0 : 0 ≤ i) (i1 : i < (l.length : Int)) (j0 : 0 ≤ j) : gt (l.set i.toNat v) j = if j = i then v else gt l j := by
  unfold gt
  rw [List.getD_eq_getElem?_getD, List.getD_eq_getElem?_getD, List.getElem?_set]
  by_cases h : j = i
  · subst h; rw [if_pos rfl, if_pos rfl, if_pos (by omega)]; rfl
  · rw [if_neg h, if_neg (by omega)]
theorem list_gtE {E : Type} [Inhabited E] {l m : List E} (hl : l.length = m.length) (h : ∀ j : Int, 0 ≤ j → j < (l.length : Int) → gt l j = gt m j) : l = m := by
  refine List.ext_getElem hl fun j h1 h2 => ?_
  have := h (j : Int) (by omega) (by omega)
  rwa [gt_nat h1, gt_nat h2] at this
end Go.Vd

/-! (Gb) -/

set_option linter.unusedVariables false
set_option linter.unusedSimpArgs false
namespace Go.Vd
abbrev A3 := Int × Int × Int
theorem eq3 {x y : A3} (h1 : x.1 = y.1) (h2 : x.2.1 = y.2.1) (h3 : x.2.2 = y.2.2) : x = y := by
  obtain ⟨a, b, c⟩ := x; obtain ⟨a', b', c'⟩ := y
  simp only at h1 h2 h3
  subst h1; subst h2; subst h3; rfl

theorem mem_gtE {E : Type} [Inhabited E] {l : List E} {x : E} (h : x ∈ l) : ∃ i : Int, 0 ≤ i ∧ i < (l.length : Int) ∧ x = gt l i := by
  obtain ⟨i, hi, rfl⟩ := List.getElem_of_mem h
  exact ⟨i, by omega, by omega, (gt_nat hi).symm⟩

end Go.Vd

/-! (PrSa) -/

set_option linter.unusedVariables false
set_option linter.unusedSimpArgs false
namespace Go.Vd
theorem same_nextE {E : Type} [Inhabited E] {l m : List E} {i : Int} (h : ∀ j : Int, 0 ≤ j → j < i → gt l j = gt m j) (k : gt l i = gt m i) : ∀ j : Int, 0 ≤ j → j < i + 1 → gt l j = gt m j := by
  intro j h0 h1
  by_cases e : j = i
  · rw [e]; exact k
  · exact h j h0 (by omega)
theorem same_neE {E : Type} [DecidableEq E] {l m : List E} (h : ¬ (l.length : Int) = (m.length : Int)) : decide (l = m) = false := by
  apply decide_eq_false; rintro rfl; exact h rfl
theorem same_atE {E : Type} [DecidableEq E] [Inhabited E] {l m : List E} {i : Int} (h : ¬ gt l i = gt m i) : decide (l = m) = false := by
  apply decide_eq_false; rintro rfl; exact h rfl
theorem same_allE {E : Type} [DecidableEq E] [Inhabited E] {l m : List E} {i : Int} (h : ∀ j : Int, 0 ≤ j → j < i → gt l j = gt m j) (hl : (l.length : Int) = m.length) (hi : (l.length : Int) ≤ i) : decide (l = m) = true :=
  decide_eq_true (list_gtE (by omega) fun j h0 h1 => h j h0 (by omega))
theorem p_gSameArcs {a b : List A3} (h : a.length ≤ 1152921504606846976) : z_viaductref03_SameArcs a b = some (decide (a = b)) := by
  refine T_eq.1 ?_
  unfold z_viaductref03_SameArcs
  simp only [T_ite, T_bind, T_some]
  refine ⟨fun hl => ?_, fun hl => (same_neE hl).symm⟩
  refine T_loop (fun i => 0 ≤ i ∧ i ≤ (a.length : Int) ∧ ∀ j : Int, 0 ≤ j → j < i → gt a j = gt b j) (fun i => ((a.length : Int) - i).toNat) ?_ ⟨by omega, by omega, fun j _ _ => by omega⟩
  rintro i ⟨h0, h1, h2⟩
  simp only [z_viaductref03_SameArcs_l0, T_ite, T_G, T_some, T_map, Sum.elim_inl, Sum.elim_inr]
  refine ⟨fun hi => ⟨h0, by omega, fun he => ⟨by omega, ⟨by omega, by omega, same_nextE h2 (eq3 he.1 he.2.1 he.2.2)⟩, by omega⟩, fun he => (same_atE fun k => he (by rw [k]; exact ⟨rfl, rfl, rfl⟩)).symm⟩, fun hi => (same_allE h2 hl (by omega)).symm⟩

theorem p_gSame {n m : Int} {a b : List A3} (h : a.length ≤ 1152921504606846976) : z_viaductref03_Same n a m b = some (decide (n = m ∧ a = b)) := by
  unfold z_viaductref03_Same
  by_cases e : n = m
  · rw [if_pos e, p_gSameArcs h]; simp [e]
  · rw [if_neg e]; simp [e]
end Go.Vd

/-! (Gc) -/

set_option linter.unusedVariables false
set_option linter.unusedSimpArgs false
namespace Go.Vd
variable {N : Int} {A L : List A3}

/-- The number of what is wrong with an arc; 0: nothing. -/
def arcG (N : Int) (a : A3) : Int := if a.1 < 0 ∨ a.1 ≥ N ∨ a.2.1 < 0 ∨ a.2.1 ≥ N then 7 else if a.2.2 < 0 ∨ a.2.2 > 2147483647 then 8 else 0
def BigG (N : Int) (A : List A3) : Prop := N < 0 ∨ N > 65536 ∨ (A.length : Int) > 262144

/-- What a graph's check tells. -/
inductive GChk (N : Int) (A : List A3) : Er → Prop
  | limit : BigG N A → GChk N A (.no 9)
  | arc (i : Int) : ¬ BigG N A → 0 ≤ i → i < (A.length : Int) → arcG N (gt A i) ≠ 0 → (∀ j, 0 ≤ j → j < i → arcG N (gt A j) = 0) → GChk N A (.at 4 i (.no (arcG N (gt A i))))
  | ok : ¬ BigG N A → (∀ j, 0 ≤ j → j < (A.length : Int) → arcG N (gt A j) = 0) → GChk N A .nil

theorem arcG_7 {a : A3} (h : a.1 < 0 ∨ a.1 ≥ N ∨ a.2.1 < 0 ∨ a.2.1 ≥ N) : arcG N a = 7 := by unfold arcG; rw [if_pos h]
theorem arcG_8 {a : A3} (h : ¬ (a.1 < 0 ∨ a.1 ≥ N ∨ a.2.1 < 0 ∨ a.2.1 ≥ N)) (k : a.2.2 < 0 ∨ a.2.2 > 2147483647) : arcG N a = 8 := by unfold arcG; rw [if_neg h, if_pos k]
theorem arcG_0 {a : A3} (h : ¬ (a.1 < 0 ∨ a.1 ≥ N ∨ a.2.1 < 0 ∨ a.2.1 ≥ N)) (k : ¬ (a.2.2 < 0 ∨ a.2.2 > 2147483647)) : arcG N a = 0 := by unfold arcG; rw [if_neg h, if_neg k]
theorem arcG_ok {a : A3} (h : arcG N a = 0) : 0 ≤ a.1 ∧ a.1 < N ∧ 0 ≤ a.2.1 ∧ a.2.1 < N ∧ 0 ≤ a.2.2 ∧ a.2.2 ≤ 2147483647 := by
  unfold arcG at h
  split at h
  · cases h
  · split at h
    · cases h
    · omega

theorem GChk.uniq {er er' : Er} (h : GChk N A er) (k : GChk N A er') : er = er' := by
  cases h with
  | limit h1 =>
    cases k with
    | limit _ => rfl
    | arc _ k1 => exact absurd h1 k1
    | ok k1 _ => exact absurd h1 k1
  | arc i h1 h2 h3 h4 h5 =>
    cases k with
    | limit k1 => exact absurd k1 h1
    | arc j _ k2 k3 k4 k5 =>
      have : i = j := by
        rcases Int.lt_trichotomy i j with q | q | q
        · exact absurd (k5 i h2 q) h4
        · exact q
        · exact absurd (h5 j k2 q) k4
      rw [this]
    | ok _ k2 => exact absurd (k2 i h2 h3) h4
  | ok h1 h2 =>
    cases k with
    | limit k1 => exact absurd k1 h1
    | arc j _ k2 k3 k4 _ => exact absurd (h2 j k2 k3) k4
    | ok _ _ => rfl
theorem GChk.bad {er : Er} (h : GChk N A er) : (er.code ≠ 0 ∨ er.pls ≠ []) ↔ er ≠ .nil := by
  cases h with
  | limit _ => simp [Er.code]
  | arc i _ _ _ h4 _ => simp [Er.pls]
  | ok _ _ => simp [Er.code, Er.pls]
theorem GChk.small (h : GChk N A .nil) : 0 ≤ N ∧ N ≤ 65536 ∧ (A.length : Int) ≤ 262144 := by
  cases h with
  | ok h1 _ => unfold BigG at h1; omega
theorem GChk.arcs (h : GChk N A .nil) : ∀ a ∈ A, 0 ≤ a.1 ∧ a.1 < N ∧ 0 ≤ a.2.1 ∧ a.2.1 < N ∧ 0 ≤ a.2.2 ∧ a.2.2 ≤ 2147483647 := by
  cases h with
  | ok h1 h2 =>
    intro a ha
    obtain ⟨i, i0, i1, rfl⟩ := mem_gtE ha
    exact arcG_ok (h2 i i0 i1)
theorem GChk.of_arcs (n0 : 0 ≤ N) (n1 : N ≤ 65536) (n2 : (A.length : Int) ≤ 262144) (h : ∀ a ∈ A, 0 ≤ a.1 ∧ a.1 < N ∧ 0 ≤ a.2.1 ∧ a.2.1 < N ∧ 0 ≤ a.2.2 ∧ a.2.2 ≤ 2147483647) : GChk N A .nil :=
  .ok (by unfold BigG; omega) fun j j0 j1 => by have := h _ (gt_mem j0 j1); exact arcG_0 (by omega) (by omega)

theorem p_garc {a : A3} : z_gtext_arc a.1 a.2.1 a.2.2 N = some (if arcG N a = 0 then .nil else .no (arcG N a)) := by
  refine T_eq.1 ?_
  unfold z_gtext_arc
  refine T_bindr (fun o => o = decide (a.1 < 0 ∨ a.1 ≥ N ∨ a.2.1 < 0 ∨ a.2.1 ≥ N)) ?_ ?_
  · unfold z_gtext_within
    simp only [T_bind, T_ite, T_some]
    refine ⟨fun h1 => ⟨fun h2 => ⟨fun h3 => ?_, fun h3 => ?_⟩, fun h2 => ?_⟩, fun h1 => ⟨fun h2 => ?_, fun h2 => ?_⟩⟩
    · have h2' : a.1 < N := by simpa using h2
      by_cases h4 : a.2.1 < N
      · simp [h4]; omega
      · simp [h4]; omega
    · simp; omega
    · have h2' : ¬ a.1 < N := by simpa using h2
      simp; omega
    · simp at h2
    · simp; omega
  · rintro _ rfl
    by_cases h : a.1 < 0 ∨ a.1 ≥ N ∨ a.2.1 < 0 ∨ a.2.1 ≥ N
    · rw [arcG_7 h]; simp [h]
    · rw [decide_eq_false h, if_neg (by decide)]
      by_cases k1 : a.2.2 < 0
      · rw [if_pos k1, arcG_8 h (.inl k1)]; simp
      · rw [if_neg k1]
        by_cases k2 : a.2.2 > 2147483647
        · rw [if_pos k2, arcG_8 h (.inr k2)]; simp
        · rw [if_neg k2, arcG_0 h (by omega)]; simp
theorem p_fAtG {k i : Int} {e : Er} (h : e ≠ .nil) : z_fault_At k i e = some (.at k i e) := by
  unfold z_fault_At; rw [if_neg h]

theorem p_big : T (if N < 0 then (some true) else (if N > 65536 then (some true) else (some (decide ((A.length : Int) > 262144)))) : Option Bool) fun o => o = true ↔ BigG N A := by
  unfold BigG
  simp only [T_ite, T_some]
  exact ⟨fun h => by simp [h], fun h => ⟨fun h2 => by simp [h2], fun h2 => by simp; omega⟩⟩

theorem p_gCheck : T (z_gtext_Check N A) (GChk N A) := by
  unfold z_gtext_Check
  refine T_bindr _ p_big fun o ho => ?_
  rw [T_ite]
  refine ⟨fun h => by simp only [T_some]; exact .limit (ho.1 h), fun h => ?_⟩
  have hb : ¬ BigG N A := fun k => h (ho.2 k)
  have hl : (A.length : Int) ≤ 262144 := by unfold BigG at hb; omega
  refine T_binds (fun _ => ∀ j, 0 ≤ j → j < (A.length : Int) → arcG N (gt A j) = 0) ?_ fun _ h => by simp only [T_some]; exact .ok hb h
  refine T_loop (fun i => 0 ≤ i ∧ i ≤ (A.length : Int) ∧ ∀ j, 0 ≤ j → j < i → arcG N (gt A j) = 0) (fun i => ((A.length : Int) - i).toNat) ?_ ⟨by simp, by simp, fun j j0 j1 => by omega⟩
  rintro i ⟨i0, i1, hi⟩
  unfold z_gtext_Check_l0
  rw [T_ite]
  refine ⟨fun hlt => ?_, fun hge => by simp only [T_some, Sum.elim_inr]; exact fun j j0 j1 => hi j j0 (by omega)⟩
  rw [T_G, p_garc, Option.bind_some]
  refine ⟨i0, ?_⟩
  by_cases h0 : arcG N (gt A i) = 0
  · rw [if_pos h0, if_pos rfl]
    simp only [T_G, T_some, Sum.elim_inl]
    refine ⟨by omega, ⟨by omega, by omega, fun j j0 j1 => ?_⟩, by omega⟩
    by_cases e : j = i
    · rw [e]; exact h0
    · exact hi j j0 (by omega)
  · rw [if_neg h0, if_neg (by simp), p_fAtG (by simp), Option.bind_some]
    simp only [T_map, T_some, Sum.elim_inr, Sum.elim_inl]
    exact .arc i hb i0 hlt h0 hi

/-- An arc turned about. -/
def swp3 (a : A3) : A3 := (a.2.1, a.1, a.2.2)
inductive RevA (N : Int) (A : List A3) : Int → List A3 → Er → Prop
  | bad (er : Er) : GChk N A er → er ≠ .nil → RevA N A 0 [] er
  | ok : GChk N A .nil → RevA N A N (A.map swp3) .nil
theorem GChk.rev (h : GChk N A .nil) : GChk N (A.map swp3) .nil := by
  obtain ⟨n0, n1, n2⟩ := h.small
  refine .of_arcs n0 n1 (by simpa using n2) fun a ha => ?_
  obtain ⟨b, hb, rfl⟩ := List.mem_map.1 ha
  have := h.arcs b hb
  unfold swp3; dsimp only; omega
end Go.Vd

/-! (PrGd) -/

set_option linter.unusedVariables false
set_option linter.unusedSimpArgs false
namespace Go.Vd
variable {N : Int} {A L : List A3}

theorem p_gDocCheck : T (z_viaductref03_DocCheck N A) fun r => ∃ er, GChk N A er ∧ r = (er.code, er.pls) := by
  unfold z_viaductref03_DocCheck
  refine T_bindr _ p_big fun o ho => ?_
  rw [T_ite]
  refine ⟨fun h => by rw [p_E, Option.bind_some]; simp only [T_some]; exact ⟨.no 9, .limit (ho.1 h), rfl⟩, fun h => ?_⟩
  have hb : ¬ BigG N A := fun k => h (ho.2 k)
  have hl : (A.length : Int) ≤ 262144 := by unfold BigG at hb; omega
  refine T_binds (fun _ => ∀ j, 0 ≤ j → j < (A.length : Int) → arcG N (gt A j) = 0) ?_ fun _ h => by simp only [T_some]; exact ⟨.nil, .ok hb h, rfl⟩
  refine T_loop (fun i => 0 ≤ i ∧ i ≤ (A.length : Int) ∧ ∀ j, 0 ≤ j → j < i → arcG N (gt A j) = 0) (fun i => ((A.length : Int) - i).toNat) ?_ ⟨by simp, by simp, fun j j0 j1 => by omega⟩
  rintro i ⟨i0, i1, hi⟩
  unfold z_viaductref03_DocCheck_l0
  rw [T_ite]
  refine ⟨fun hlt => ?_, fun hge => by simp only [T_some, Sum.elim_inr]; exact fun j j0 j1 => hi j j0 (by omega)⟩
  rw [T_G]
  refine ⟨i0, T_bindr (fun o => o = true ↔ ((gt A i).1 < 0 ∨ (gt A i).1 ≥ N ∨ (gt A i).2.1 < 0 ∨ (gt A i).2.1 ≥ N)) ?_ fun o ho => ?_⟩
  · simp only [T_ite, T_some]
    refine ⟨fun h => by simp [h], fun h1 => ⟨fun h => by simp; omega, fun h2 => ⟨fun h => by simp [h], fun h3 => by simp; omega⟩⟩⟩
  rw [T_ite]
  refine ⟨fun h => ?_, fun h => ?_⟩
  · have h7 := arcG_7 (ho.1 h)
    rw [p_E, Option.bind_some, p_At (by simp), Option.bind_some]
    simp only [T_map, T_some, Sum.elim_inr, Sum.elim_inl]
    refine ⟨_, .arc i hb i0 hlt (by rw [h7]; decide) hi, ?_⟩
    rw [h7]; rfl
  · have hn : ¬ ((gt A i).1 < 0 ∨ (gt A i).1 ≥ N ∨ (gt A i).2.1 < 0 ∨ (gt A i).2.1 ≥ N) := fun k => h (ho.2 k)
    refine T_bindr (fun o => o = true ↔ ((gt A i).2.2 < 0 ∨ (gt A i).2.2 > 2147483647)) ?_ fun o ho => ?_
    · simp only [T_ite, T_some]
      exact ⟨fun h => by simp [h], fun h => by simp; omega⟩
    rw [T_ite]
    refine ⟨fun h => ?_, fun h => ?_⟩
    · have h8 := arcG_8 hn (ho.1 h)
      rw [p_E, Option.bind_some, p_At (by simp), Option.bind_some]
      simp only [T_map, T_some, Sum.elim_inr, Sum.elim_inl]
      refine ⟨_, .arc i hb i0 hlt (by rw [h8]; decide) hi, ?_⟩
      rw [h8]; rfl
    · have h0 := arcG_0 hn fun k => h (ho.2 k)
      simp only [T_G, T_some, Sum.elim_inl]
      refine ⟨by omega, ⟨by omega, by omega, fun j j0 j1 => ?_⟩, by omega⟩
      by_cases e : j = i
      · rw [e]; exact h0
      · exact hi j j0 (by omega)

end Go.Vd

/-! (PrGg) -/

set_option linter.unusedVariables false
set_option linter.unusedSimpArgs false
namespace Go.Vd
variable {N : Int} {A L : List A3}
theorem GChk.good {er : Er} (h : GChk N A er) : er.good ∧ er.pls.length ≤ 1 := by
  cases h with
  | limit _ => exact ⟨by simp [Er.good], by simp [Er.pls]⟩
  | arc i _ _ _ h0 _ => exact ⟨⟨by simp, h0⟩, by simp [Er.pls]⟩
  | ok _ _ => exact ⟨trivial, by simp [Er.pls]⟩

end Go.Vd

/-! (So3r) -/

set_option linter.unusedVariables false
set_option linter.unusedSectionVars false
set_option linter.unusedSimpArgs false
namespace Go.Vd
variable {N : Int} {A L : List A3}
theorem p_Rev : T (z_normal_Reverse N A) fun r => RevA N A r.1 r.2.1 r.2.2 := by
  unfold z_normal_Reverse
  refine T_bindr _ p_gCheck fun er hc => ?_
  rw [T_ite]
  refine ⟨fun he => ?_, fun he => by simp only [T_some]; exact .bad er hc he⟩
  subst he
  obtain ⟨n0, n1, n2⟩ := hc.small
  refine T_bindr (fun c => c = A.map swp3) ?_ ?_
  · refine T_loop (fun z => 0 ≤ z.1 ∧ z.1 ≤ (A.length : Int) ∧ z.2 = (A.take z.1.toNat).map swp3) (fun z => ((A.length : Int) - z.1).toNat) ?_ ⟨by simp, by simp, by simp⟩
    rintro ⟨i, c⟩ ⟨i0, i1, e⟩
    dsimp only at *
    subst e
    unfold z_normal_Reverse_l0
    rw [T_ite]
    refine ⟨fun hlt => ?_, fun hge => ?_⟩
    rotate_left
    · simp only [T_some, Sum.elim_inr]
      rw [List.take_of_length_le (by omega)]
    simp only [T_G, T_some, Sum.elim_inl, List.length_map, List.length_take]
    refine ⟨i0, by omega, by omega, ⟨by omega, by omega, ?_⟩, by omega⟩
    rw [take_gtE i0 hlt, List.map_append]; rfl
  · rintro _ rfl
    simp only [T_some]
    exact .ok hc
end Go.Vd

/-! (PrRv) -/

set_option linter.unusedVariables false
set_option linter.unusedSectionVars false
set_option linter.unusedSimpArgs false
namespace Go.Vd
variable {N : Int} {A L : List A3}
theorem p_gDocRev : T (z_viaductref04_DocReverse N A) fun r => ∃ er, RevA N A r.1 r.2.1 er ∧ r.2.2.1 = er.code ∧ r.2.2.2 = er.pls := by
  unfold z_viaductref04_DocReverse
  refine T_bindr _ p_gDocCheck ?_
  rintro _ ⟨er, hc, rfl⟩
  dsimp only
  rw [p_Bad, Option.bind_some, T_ite]
  refine ⟨fun h => ?_, fun h => ?_⟩
  · simp only [T_some]
    exact ⟨er, .bad er hc (hc.bad.1 (by simpa using h)), rfl, rfl⟩
  · have he : er = .nil := Classical.byContradiction fun k => h (by simpa using hc.bad.2 k)
    subst he
    obtain ⟨n0, n1, n2⟩ := hc.small
    refine T_bindr (fun c => c = (N, A.map swp3)) ?_ ?_
    · unfold z_viaductref04_Reverse
      refine T_bindr (fun c => c = A.map swp3) ?_ (by rintro _ rfl; simp only [T_some])
      refine T_loop (fun z => 0 ≤ z.1 ∧ z.1 ≤ (A.length : Int) ∧ z.2 = (A.take z.1.toNat).map swp3) (fun z => ((A.length : Int) - z.1).toNat) ?_ ⟨by simp, by simp, by simp⟩
      rintro ⟨i, c⟩ ⟨i0, i1, e⟩
      dsimp only at *
      subst e
      unfold z_viaductref04_Reverse_l0
      rw [T_ite]
      refine ⟨fun hlt => ?_, fun hge => ?_⟩
      rotate_left
      · simp only [T_some, Sum.elim_inr]
        rw [List.take_of_length_le (by omega)]
      simp only [T_G, T_some, Sum.elim_inl, List.length_map, List.length_take]
      refine ⟨i0, by omega, by omega, ⟨by omega, by omega, ?_⟩, by omega⟩
      rw [take_gtE i0 hlt, List.map_append]; rfl
    · rintro _ rfl
      simp only [T_some]
      exact ⟨.nil, .ok hc, rfl, rfl⟩
theorem RevA.uniq {n m : Int} {l k : List A3} {er er' : Er} (h : RevA N A n l er) (h' : RevA N A m k er') : n = m ∧ l = k ∧ er = er' := by
  cases h with
  | bad _ c1 n1 =>
    cases h' with
    | bad _ c2 n2 => exact ⟨rfl, rfl, c1.uniq c2⟩
    | ok c2 => exact absurd (c1.uniq c2) n1
  | ok c1 =>
    cases h' with
    | bad _ c2 n2 => exact absurd (c2.uniq c1) n2
    | ok c2 => exact ⟨rfl, rfl, rfl⟩
theorem RevA.len {n : Int} {l : List A3} {er : Er} (h : RevA N A n l er) : l.length ≤ A.length := by
  cases h with
  | bad _ c _ => simp
  | ok c => simp
end Go.Vd

/-! (PrNormalTurns) -/

set_option linter.unusedVariables false
set_option linter.unusedSimpArgs false
namespace Go.Vd
variable {N : Int} {A L : List A3}
theorem RevA.good {n : Int} {l : List A3} {er : Er} (h : RevA N A n l er) : er.good ∧ er.pls.length ≤ 1 := by
  cases h with
  | bad _ c _ => exact c.good
  | ok c => exact c.good
theorem gt_rep0t {m : Nat} {x : Int} : gt (List.replicate m (0 : Int)) x = 0 := by
  simp [gt, List.getD_eq_getElem?_getD, List.getElem?_replicate]
  split <;> rfl
theorem deg_same : z_viaductref04_DocDegrees_l0 = z_normal_Degrees_l0 := by
  funext A i o n
  unfold z_viaductref04_DocDegrees_l0 z_normal_Degrees_l0
  rfl
theorem p_deg (hg : GChk N A .nil) : T (loopO (fun zz_ => z_normal_Degrees_l0 A zz_.1 zz_.2.1 zz_.2.2) (0, List.replicate N.toNat (0 : Int), List.replicate N.toNat (0 : Int))) fun r => r.1.length = N.toNat ∧ r.2.length = N.toNat := by
  obtain ⟨n0, n1, n2⟩ := hg.small
  refine T_loop (fun z => 0 ≤ z.1 ∧ z.1 ≤ (A.length : Int) ∧ z.2.1.length = N.toNat ∧ z.2.2.length = N.toNat ∧ (∀ j, 0 ≤ j → 0 ≤ gt z.2.1 j ∧ gt z.2.1 j ≤ z.1) ∧ ∀ j, 0 ≤ j → 0 ≤ gt z.2.2 j ∧ gt z.2.2 j ≤ z.1) (fun z => ((A.length : Int) - z.1).toNat) ?_ ⟨by simp, by simp, by simp, by simp, fun j _ => by rw [gt_rep0t]; simp, fun j _ => by rw [gt_rep0t]; simp⟩
  rintro ⟨i, o, n⟩ ⟨i0, i1, l1, l2, h1, h2⟩
  dsimp only at *
  unfold z_normal_Degrees_l0
  rw [T_ite]
  refine ⟨fun hlt => ?_, fun hge => by simp only [T_some, Sum.elim_inr]; exact ⟨l1, l2⟩⟩
  obtain ⟨a1, a2, a3, a4, _, _⟩ := hg.arcs _ (gt_mem i0 hlt)
  have b1 := h1 _ a1
  have b2 := h2 _ a3
  simp only [T_G, T_some, Sum.elim_inl, List.length_set]
  refine ⟨i0, ⟨a1, by omega⟩, ⟨by omega, by omega⟩, ⟨a3, by omega⟩, ⟨by omega, by omega⟩, by omega, ⟨by omega, by omega, l1, l2, fun j j0 => ?_, fun j j0 => ?_⟩, by omega⟩
  · rw [gt_setE a1 (by omega) j0]
    split
    · omega
    · have := h1 j j0; omega
  · rw [gt_setE a3 (by omega) j0]
    split
    · omega
    · have := h2 j j0; omega

theorem p_Deg : ∃ er x y, GChk N A er ∧ z_normal_Degrees N A = some (x, y, er) ∧ z_viaductref04_DocDegrees N A = some (x, y, er.code, er.pls) ∧ x.length ≤ 65536 ∧ y.length ≤ 65536 := by
  obtain ⟨er, hq, hc⟩ := p_gCheck (N := N) (A := A)
  obtain ⟨_, hq2, er', hc', rfl⟩ := p_gDocCheck (N := N) (A := A)
  obtain rfl := hc.uniq hc'
  by_cases he : er = .nil
  · subst he
    obtain ⟨n0, n1, n2⟩ := hc.small
    obtain ⟨⟨x, y⟩, hr, hx, hy⟩ := p_deg hc
    dsimp only at hx hy
    refine ⟨.nil, x, y, hc, ?_, ?_, by omega, by omega⟩
    · unfold z_normal_Degrees
      rw [hq, Option.bind_some, if_pos rfl, hr]
      unfold G
      rw [if_pos ⟨n0, by omega⟩]; rfl
    · unfold z_viaductref04_DocDegrees
      rw [hq2, Option.bind_some, p_Bad, Option.bind_some, deg_same, hr]
      unfold G
      rw [if_neg (by simp [Er.code, Er.pls]), if_pos ⟨n0, by omega⟩]; rfl
  · refine ⟨er, [], [], hc, ?_, ?_, by simp, by simp⟩
    · unfold z_normal_Degrees
      rw [hq, Option.bind_some, if_neg he]
    · unfold z_viaductref04_DocDegrees
      rw [hq2, Option.bind_some, p_Bad, Option.bind_some, decide_eq_true (hc.bad.2 he), if_pos rfl]

theorem p_NormalTurns (hl : A.length ≤ 17592186044160) : z_viaductlaw04_NormalTurns N A = some true := by
  refine T_eq.1 ?_
  unfold z_viaductlaw04_NormalTurns
  refine T_bindr _ p_Rev ?_
  rintro ⟨n, l, er⟩ h
  refine T_bindr _ p_gDocRev ?_
  rintro ⟨m, k, c, ps⟩ ⟨er', h', e1, e2⟩
  dsimp only at *
  obtain ⟨rfl, rfl, rfl⟩ := h.uniq h'
  subst e1; subst e2
  have hln := h.len
  have hg := h.good
  rw [p_gSame (by omega), Option.bind_some, decide_eq_true (⟨rfl, rfl⟩ : n = n ∧ l = l), if_pos rfl, p_SameT hg.1 (by omega)]
  simp only [Option.bind_some, Bool.not_true, Bool.false_eq_true, if_false]
  obtain ⟨er, x, y, hc, q1, q2, x1, y1⟩ := p_Deg (N := N) (A := A)
  have hg := hc.good
  rw [q1, Option.bind_some, q2, Option.bind_some]
  dsimp only
  rw [p_SameInts (by omega), Option.bind_some, decide_eq_true rfl, if_pos rfl, p_SameInts (by omega), Option.bind_some, decide_eq_true rfl, if_pos rfl, p_SameT hg.1 (by omega)]
  simp
end Go.Vd
