/- Lists and places. Plain Lean: no program here. -/
import Derived.Test.YtjfplpkmbijfpaaDoorPnm1
import Derived.Test.YtjfplpkmbijfpaaDoorSo0
import Derived.Test.YtjfplpkmbijfpaaDoorVdQ
import Derived.Test.YtjfplpkmbijfpaaDoorINm
import Derived.Test.YtjfplpkmbijfpaaDoorVpB
set_option linter.unusedVariables false
set_option linter.unusedSimpArgs false
set_option linter.unusedSectionVars false
/-! (Mo0) -/

namespace Go.Vd
theorem take_gtE {E : Type} [Inhabited E] {l : List E} {i : Int} (h0 : 0 ≤ i) (h1 : i < (l.length : Int)) : l.take (i + 1).toNat = l.take i.toNat ++ [gt l i] := by
  have hi : i.toNat < l.length := by omega
  rw [show (i + 1).toNat = i.toNat + 1 from by omega, List.take_add_one, List.getElem?_eq_getElem hi]
  have : gt l i = l[i.toNat] := by simp [gt, List.getD_eq_getElem?_getD, hi]
  rw [this]; rfl
theorem gt_setE {E : Type} [Inhabited E] {l : List E} {i j : Int} {v : E} (i0 : 0 ≤ i) (i1 : i < (l.length : Int)) (j0 : 0 ≤ j) : gt (l.set i.toNat v) j = if j = i then v else gt l j := by
  unfold gt
  rw [List.getD_eq_getElem?_getD, List.getD_eq_getElem?_getD, List.getElem?_set]
  by_cases h : j = i
  · subst h; rw [if_pos rfl, if_pos rfl, if_pos (by omega)]; rfl
  · rw [if_neg h, if_neg (by omega)]
theorem list_gtE {E : Type} [Inhabited E] {l m : List E} (hl : l.length = m.length) (h : ∀ j : Int, 0 ≤ j → j < (l.length : Int) → gt l j = gt m j) : l = m := by
  refine List.ext_getElem hl fun j h1 h2 => ?_
  have := h (j : Int) (by omega) (by omega)
  rwa [gt_nat h1, gt_nat h2] at this
end Go.Vd

/-! (Gb) -/

set_option linter.unusedVariables false
set_option linter.unusedSimpArgs false
namespace Go.Vd
abbrev A3 := Int × Int × Int
theorem eq3 {x y : A3} (h1 : x.1 = y.1) (h2 : x.2.1 = y.2.1) (h3 : x.2.2 = y.2.2) : x = y := by
  obtain ⟨a, b, c⟩ := x; obtain ⟨a', b', c'⟩ := y
  simp only at h1 h2 h3
  subst h1; subst h2; subst h3; rfl

theorem mem_gtE {E : Type} [Inhabited E] {l : List E} {x : E} (h : x ∈ l) : ∃ i : Int, 0 ≤ i ∧ i < (l.length : Int) ∧ x = gt l i := by
  obtain ⟨i, hi, rfl⟩ := List.getElem_of_mem h
  exact ⟨i, by omega, by omega, (gt_nat hi).symm⟩

end Go.Vd

/-! (PrSa) -/

set_option linter.unusedVariables false
set_option linter.unusedSimpArgs false
namespace Go.Vd
theorem same_nextE {E : Type} [Inhabited E] {l m : List E} {i : Int} (h : ∀ j : Int, 0 ≤ j → j < i → gt l j = gt m j) (k : gt l i = gt m i) : ∀ j : Int, 0 ≤ j → j < i + 1 → gt l j = gt m j := by
  intro j h0 h1
  by_cases e : j = i
  · rw [e]; exact k
  · exact h j h0 (by omega)
theorem same_neE {E : Type} [DecidableEq E] {l m : List E} (h : ¬ (l.length : Int) = (m.length : Int)) : decide (l = m) = false := by
  apply decide_eq_false; rintro rfl; exact h rfl
theorem same_atE {E : Type} [DecidableEq E] [Inhabited E] {l m : List E} {i : Int} (h : ¬ gt l i = gt m i) : decide (l = m) = false := by
  apply decide_eq_false; rintro rfl; exact h rfl
theorem same_allE {E : Type} [DecidableEq E] [Inhabited E] {l m : List E} {i : Int} (h : ∀ j : Int, 0 ≤ j → j < i → gt l j = gt m j) (hl : (l.length : Int) = m.length) (hi : (l.length : Int) ≤ i) : decide (l = m) = true :=
  decide_eq_true (list_gtE (by omega) fun j h0 h1 => h j h0 (by omega))
theorem p_gSameArcs {a b : List A3} (h : a.length ≤ 1152921504606846976) : z_viaductref03_SameArcs a b = some (decide (a = b)) := by
  refine T_eq.1 ?_
  unfold z_viaductref03_SameArcs
  simp only [T_ite, T_bind, T_some]
  refine ⟨fun hl => ?_, fun hl => (same_neE hl).symm⟩
  refine T_loop (fun i => 0 ≤ i ∧ i ≤ (a.length : Int) ∧ ∀ j : Int, 0 ≤ j → j < i → gt a j = gt b j) (fun i => ((a.length : Int) - i).toNat) ?_ ⟨by omega, by omega, fun j _ _ => by omega⟩
  rintro i ⟨h0, h1, h2⟩
  simp only [z_viaductref03_SameArcs_l0, T_ite, T_G, T_some, T_map, Sum.elim_inl, Sum.elim_inr]
  refine ⟨fun hi => ⟨h0, by omega, fun he => ⟨by omega, ⟨by omega, by omega, same_nextE h2 (eq3 he.1 he.2.1 he.2.2)⟩, by omega⟩, fun he => (same_atE fun k => he (by rw [k]; exact ⟨rfl, rfl, rfl⟩)).symm⟩, fun hi => (same_allE h2 hl (by omega)).symm⟩

theorem p_gSame {n m : Int} {a b : List A3} (h : a.length ≤ 1152921504606846976) : z_viaductref03_Same n a m b = some (decide (n = m ∧ a = b)) := by
  unfold z_viaductref03_Same
  by_cases e : n = m
  · rw [if_pos e, p_gSameArcs h]; simp [e]
  · rw [if_neg e]; simp [e]
end Go.Vd

/-! (Gc) -/

set_option linter.unusedVariables false
set_option linter.unusedSimpArgs false
namespace Go.Vd
variable {N : Int} {A L : List A3}

/-- The number of what is wrong with an arc; 0: nothing. -/
def arcG (N : Int) (a : A3) : Int := if a.1 < 0 ∨ a.1 ≥ N ∨ a.2.1 < 0 ∨ a.2.1 ≥ N then 7 else if a.2.2 < 0 ∨ a.2.2 > 2147483647 then 8 else 0
def BigG (N : Int) (A : List A3) : Prop := N < 0 ∨ N > 65536 ∨ (A.length : Int) > 262144

/-- What a graph's check tells. -/
inductive GChk (N : Int) (A : List A3) : Er → Prop
  | limit : BigG N A → GChk N A (.no 9)
  | arc (i : Int) : ¬ BigG N A → 0 ≤ i → i < (A.length : Int) → arcG N (gt A i) ≠ 0 → (∀ j, 0 ≤ j → j < i → arcG N (gt A j) = 0) → GChk N A (.at 4 i (.no (arcG N (gt A i))))
  | ok : ¬ BigG N A → (∀ j, 0 ≤ j → j < (A.length : Int) → arcG N (gt A j) = 0) → GChk N A .nil

theorem arcG_7 {a : A3} (h : a.1 < 0 ∨ a.1 ≥ N ∨ a.2.1 < 0 ∨ a.2.1 ≥ N) : arcG N a = 7 := by unfold arcG; rw [if_pos h]
theorem arcG_8 {a : A3} (h : ¬ (a.1 < 0 ∨ a.1 ≥ N ∨ a.2.1 < 0 ∨ a.2.1 ≥ N)) (k : a.2.2 < 0 ∨ a.2.2 > 2147483647) : arcG N a = 8 := by unfold arcG; rw [if_neg h, if_pos k]
theorem arcG_0 {a : A3} (h : ¬ (a.1 < 0 ∨ a.1 ≥ N ∨ a.2.1 < 0 ∨ a.2.1 ≥ N)) (k : ¬ (a.2.2 < 0 ∨ a.2.2 > 2147483647)) : arcG N a = 0 := by unfold arcG; rw [if_neg h, if_neg k]
theorem arcG_ok {a : A3} (h : arcG N a = 0) : 0 ≤ a.1 ∧ a.1 < N ∧ 0 ≤ a.2.1 ∧ a.2.1 < N ∧ 0 ≤ a.2.2 ∧ a.2.2 ≤ 2147483647 := by
  unfold arcG at h
  split at h
  · cases h
  · split at h
    · cases h
    · omega

theorem GChk.uniq {er er' : Er} (h : GChk N A er) (k : GChk N A er') : er = er' := by
  cases h with
  | limit h1 =>
    cases k with
    | limit _ => rfl
    | arc _ k1 => exact absurd h1 k1
    | ok k1 _ => exact absurd h1 k1
  | arc i h1 h2 h3 h4 h5 =>
    cases k with
    | limit k1 => exact absurd k1 h1
    | arc j _ k2 k3 k4 k5 =>
      have : i = j := by
        rcases Int.lt_trichotomy i j with q | q | q
        · exact absurd (k5 i h2 q) h4
        · exact q
        · exact absurd (h5 j k2 q) k4
      rw [this]
    | ok _ k2 => exact absurd (k2 i h2 h3) h4
  | ok h1 h2 =>
    cases k with
    | limit k1 => exact absurd k1 h1
    | arc j _ k2 k3 k4 _ => exact absurd (h2 j k2 k3) k4
    | ok _ _ => rfl
theorem GChk.bad {er : Er} (h : GChk N A er) : (er.code ≠ 0 ∨ er.pls ≠ []) ↔ er ≠ .nil := by
  cases h with
  | limit _ => simp [Er.code]
  | arc i _ _ _ h4 _ => simp [Er.pls]
  | ok _ _ => simp [Er.code, Er.pls]
theorem GChk.small (h : GChk N A .nil) : 0 ≤ N ∧ N ≤ 65536 ∧ (A.length : Int) ≤ 262144 := by
  cases h with
  | ok h1 _ => unfold BigG at h1; omega
theorem GChk.arcs (h : GChk N A .nil) : ∀ a ∈ A, 0 ≤ a.1 ∧ a.1 < N ∧ 0 ≤ a.2.1 ∧ a.2.1 < N ∧ 0 ≤ a.2.2 ∧ a.2.2 ≤ 2147483647 := by
  cases h with
  | ok h1 h2 =>
    intro a ha
    obtain ⟨i, i0, i1, rfl⟩ := mem_gtE ha
    exact arcG_ok (h2 i i0 i1)
theorem GChk.of_arcs (n0 : 0 ≤ N) (n1 : N ≤ 65536) (n2 : (A.length : Int) ≤ 262144) (h : ∀ a ∈ A, 0 ≤ a.1 ∧ a.1 < N ∧ 0 ≤ a.2.1 ∧ a.2.1 < N ∧ 0 ≤ a.2.2 ∧ a.2.2 ≤ 2147483647) : GChk N A .nil :=
  .ok (by unfold BigG; omega) fun j j0 j1 => by have := h _ (gt_mem j0 j1); exact arcG_0 (by omega) (by omega)

theorem p_garc {a : A3} : z_gtext_arc a.1 a.2.1 a.2.2 N = some (if arcG N a = 0 then .nil else .no (arcG N a)) := by
  refine T_eq.1 ?_
  unfold z_gtext_arc
  refine T_bindr (fun o => o = decide (a.1 < 0 ∨ a.1 ≥ N ∨ a.2.1 < 0 ∨ a.2.1 ≥ N)) ?_ ?_
  · unfold z_gtext_within
    simp only [T_bind, T_ite, T_some]
    refine ⟨fun h1 => ⟨fun h2 => ⟨fun h3 => ?_, fun h3 => ?_⟩, fun h2 => ?_⟩, fun h1 => ⟨fun h2 => ?_, fun h2 => ?_⟩⟩
    · have h2' : a.1 < N := by simpa using h2
      by_cases h4 : a.2.1 < N
      · simp [h4]; omega
      · simp [h4]; omega
    · simp; omega
    · have h2' : ¬ a.1 < N := by simpa using h2
      simp; omega
    · simp at h2
    · simp; omega
  · rintro _ rfl
    by_cases h : a.1 < 0 ∨ a.1 ≥ N ∨ a.2.1 < 0 ∨ a.2.1 ≥ N
    · rw [arcG_7 h]; simp [h]
    · rw [decide_eq_false h, if_neg (by decide)]
      by_cases k1 : a.2.2 < 0
      · rw [if_pos k1, arcG_8 h (.inl k1)]; simp
      · rw [if_neg k1]
        by_cases k2 : a.2.2 > 2147483647
        · rw [if_pos k2, arcG_8 h (.inr k2)]; simp
        · rw [if_neg k2, arcG_0 h (by omega)]; simp
theorem p_fAtG {k i : Int} {e : Er} (h : e ≠ .nil) : z_fault_At k i e = some (.at k i e) := by
  unfold z_fault_At; rw [if_neg h]

theorem p_big : T (if N < 0 then (some true) else (if N > 65536 then (some true) else (some (decide ((A.length : Int) > 262144)))) : Option Bool) fun o => o = true ↔ BigG N A := by
  unfold BigG
  simp only [T_ite, T_some]
  exact ⟨fun h => by simp [h], fun h => ⟨fun h2 => by simp [h2], fun h2 => by simp; omega⟩⟩

theorem p_gCheck : T (z_gtext_Check N A) (GChk N A) := by
  unfold z_gtext_Check
  refine T_bindr _ p_big fun o ho => ?_
  rw [T_ite]
  refine ⟨fun h => by simp only [T_some]; exact .limit (ho.1 h), fun h => ?_⟩
  have hb : ¬ BigG N A := fun k => h (ho.2 k)
  have hl : (A.length : Int) ≤ 262144 := by unfold BigG at hb; omega
  refine T_binds (fun _ => ∀ j, 0 ≤ j → j < (A.length : Int) → arcG N (gt A j) = 0) ?_ fun _ h => by simp only [T_some]; exact .ok hb h
  refine T_loop (fun i => 0 ≤ i ∧ i ≤ (A.length : Int) ∧ ∀ j, 0 ≤ j → j < i → arcG N (gt A j) = 0) (fun i => ((A.length : Int) - i).toNat) ?_ ⟨by simp, by simp, fun j j0 j1 => by omega⟩
  rintro i ⟨i0, i1, hi⟩
  unfold z_gtext_Check_l0
  rw [T_ite]
  refine ⟨fun hlt => ?_, fun hge => by simp only [T_some, Sum.elim_inr]; exact fun j j0 j1 => hi j j0 (by omega)⟩
  rw [T_G, p_garc, Option.bind_some]
  refine ⟨i0, ?_⟩
  by_cases h0 : arcG N (gt A i) = 0
  · rw [if_pos h0, if_pos rfl]
    simp only [T_G, T_some, Sum.elim_inl]
    refine ⟨by omega, ⟨by omega, by omega, fun j j0 j1 => ?_⟩, by omega⟩
    by_cases e : j = i
    · rw [e]; exact h0
    · exact hi j j0 (by omega)
  · rw [if_neg h0, if_neg (by simp), p_fAtG (by simp), Option.bind_some]
    simp only [T_map, T_some, Sum.elim_inr, Sum.elim_inl]
    exact .arc i hb i0 hlt h0 hi

/-- An arc turned about. -/
def swp3 (a : A3) : A3 := (a.2.1, a.1, a.2.2)
inductive RevA (N : Int) (A : List A3) : Int → List A3 → Er → Prop
  | bad (er : Er) : GChk N A er → er ≠ .nil → RevA N A 0 [] er
  | ok : GChk N A .nil → RevA N A N (A.map swp3) .nil
theorem GChk.rev (h : GChk N A .nil) : GChk N (A.map swp3) .nil := by
  obtain ⟨n0, n1, n2⟩ := h.small
  refine .of_arcs n0 n1 (by simpa using n2) fun a ha => ?_
  obtain ⟨b, hb, rfl⟩ := List.mem_map.1 ha
  have := h.arcs b hb
  unfold swp3; dsimp only; omega
end Go.Vd

/-! (PrGd) -/

set_option linter.unusedVariables false
set_option linter.unusedSimpArgs false
namespace Go.Vd
variable {N : Int} {A L : List A3}

theorem p_gDocCheck : T (z_viaductref03_DocCheck N A) fun r => ∃ er, GChk N A er ∧ r = (er.code, er.pls) := by
  unfold z_viaductref03_DocCheck
  refine T_bindr _ p_big fun o ho => ?_
  rw [T_ite]
  refine ⟨fun h => by rw [p_E, Option.bind_some]; simp only [T_some]; exact ⟨.no 9, .limit (ho.1 h), rfl⟩, fun h => ?_⟩
  have hb : ¬ BigG N A := fun k => h (ho.2 k)
  have hl : (A.length : Int) ≤ 262144 := by unfold BigG at hb; omega
  refine T_binds (fun _ => ∀ j, 0 ≤ j → j < (A.length : Int) → arcG N (gt A j) = 0) ?_ fun _ h => by simp only [T_some]; exact ⟨.nil, .ok hb h, rfl⟩
  refine T_loop (fun i => 0 ≤ i ∧ i ≤ (A.length : Int) ∧ ∀ j, 0 ≤ j → j < i → arcG N (gt A j) = 0) (fun i => ((A.length : Int) - i).toNat) ?_ ⟨by simp, by simp, fun j j0 j1 => by omega⟩
  rintro i ⟨i0, i1, hi⟩
  unfold z_viaductref03_DocCheck_l0
  rw [T_ite]
  refine ⟨fun hlt => ?_, fun hge => by simp only [T_some, Sum.elim_inr]; exact fun j j0 j1 => hi j j0 (by omega)⟩
  rw [T_G]
  refine ⟨i0, T_bindr (fun o => o = true ↔ ((gt A i).1 < 0 ∨ (gt A i).1 ≥ N ∨ (gt A i).2.1 < 0 ∨ (gt A i).2.1 ≥ N)) ?_ fun o ho => ?_⟩
  · simp only [T_ite, T_some]
    refine ⟨fun h => by simp [h], fun h1 => ⟨fun h => by simp; omega, fun h2 => ⟨fun h => by simp [h], fun h3 => by simp; omega⟩⟩⟩
  rw [T_ite]
  refine ⟨fun h => ?_, fun h => ?_⟩
  · have h7 := arcG_7 (ho.1 h)
    rw [p_E, Option.bind_some, p_At (by simp), Option.bind_some]
    simp only [T_map, T_some, Sum.elim_inr, Sum.elim_inl]
    refine ⟨_, .arc i hb i0 hlt (by rw [h7]; decide) hi, ?_⟩
    rw [h7]; rfl
  · have hn : ¬ ((gt A i).1 < 0 ∨ (gt A i).1 ≥ N ∨ (gt A i).2.1 < 0 ∨ (gt A i).2.1 ≥ N) := fun k => h (ho.2 k)
    refine T_bindr (fun o => o = true ↔ ((gt A i).2.2 < 0 ∨ (gt A i).2.2 > 2147483647)) ?_ fun o ho => ?_
    · simp only [T_ite, T_some]
      exact ⟨fun h => by simp [h], fun h => by simp; omega⟩
    rw [T_ite]
    refine ⟨fun h => ?_, fun h => ?_⟩
    · have h8 := arcG_8 hn (ho.1 h)
      rw [p_E, Option.bind_some, p_At (by simp), Option.bind_some]
      simp only [T_map, T_some, Sum.elim_inr, Sum.elim_inl]
      refine ⟨_, .arc i hb i0 hlt (by rw [h8]; decide) hi, ?_⟩
      rw [h8]; rfl
    · have h0 := arcG_0 hn fun k => h (ho.2 k)
      simp only [T_G, T_some, Sum.elim_inl]
      refine ⟨by omega, ⟨by omega, by omega, fun j j0 j1 => ?_⟩, by omega⟩
      by_cases e : j = i
      · rw [e]; exact h0
      · exact hi j j0 (by omega)

end Go.Vd

/-! (PrGg) -/

set_option linter.unusedVariables false
set_option linter.unusedSimpArgs false
namespace Go.Vd
variable {N : Int} {A L : List A3}
theorem GChk.good {er : Er} (h : GChk N A er) : er.good ∧ er.pls.length ≤ 1 := by
  cases h with
  | limit _ => exact ⟨by simp [Er.good], by simp [Er.pls]⟩
  | arc i _ _ _ h0 _ => exact ⟨⟨by simp, h0⟩, by simp [Er.pls]⟩
  | ok _ _ => exact ⟨trivial, by simp [Er.pls]⟩

end Go.Vd

/-! (PrNormalMerges) -/

set_option linter.unusedVariables false
set_option linter.unusedSimpArgs false
namespace Go.Vd
variable {N M : Int} {A B L : List A3}
theorem p_First {e1 e2 : Er} (h1 : (e1.code ≠ 0 ∨ e1.pls ≠ []) ↔ e1 ≠ .nil) (h2 : (e2.code ≠ 0 ∨ e2.pls ≠ []) ↔ e2 ≠ .nil) :
    z_viaductref01_First e1.code e1.pls e2.code e2.pls = some (if e1 = .nil then (e2.code, e2.pls) else (e1.code, e1.pls)) := by
  unfold z_viaductref01_First
  rw [p_Bad, Option.bind_some]
  by_cases k1 : e1 = .nil
  · rw [if_neg (by intro h; exact h1.1 (of_decide_eq_true h) k1), p_Bad, Option.bind_some, if_pos k1]
    by_cases k2 : e2 = .nil
    · rw [if_neg (by intro h; exact h2.1 (of_decide_eq_true h) k2), k2]; rfl
    · rw [if_pos (decide_eq_true (h2.2 k2))]
  · rw [if_pos (decide_eq_true (h1.2 k1)), if_neg k1]
theorem arc_eta (a : A3) : ((a.1, a.2.1, a.2.2) : A3) = a := rfl
theorem p_gTwin (hl : (A.length : Int) ≤ 262144) : z_viaductref03_Twin N A = some (N, A) := by
  refine T_eq.1 ?_
  unfold z_viaductref03_Twin
  refine T_bindr (fun c => c = A) ?_ (by rintro _ rfl; simp only [T_some])
  refine T_loop (fun z => 0 ≤ z.1 ∧ z.1 ≤ (A.length : Int) ∧ z.2 = A.take z.1.toNat) (fun z => ((A.length : Int) - z.1).toNat) ?_ ⟨by simp, by simp, by simp⟩
  rintro ⟨i, c⟩ ⟨i0, i1, e⟩
  dsimp only at *
  subst e
  unfold z_viaductref03_Twin_l0
  rw [T_ite]
  refine ⟨fun hlt => ?_, fun hge => ?_⟩
  · have hll : (A.take i.toNat).length = i.toNat := by rw [List.length_take]; omega
    simp only [T_G, T_some, Sum.elim_inl, hll]
    refine ⟨i0, by omega, by omega, ⟨by omega, by omega, ?_⟩, by omega⟩
    rw [take_gtE i0 hlt]
  · simp only [T_some, Sum.elim_inr]
    rw [List.take_of_length_le (by omega)]
theorem p_docJoin (hl : (A.length : Int) + (B.length : Int) ≤ 262144) : T (loopO (fun zz_ => z_viaductref04_DocMerge_l0 B zz_.1 zz_.2) (0, A)) fun c => c = A ++ B := by
  refine T_loop (fun z => 0 ≤ z.1 ∧ z.1 ≤ (B.length : Int) ∧ z.2 = A ++ B.take z.1.toNat) (fun z => ((B.length : Int) - z.1).toNat) ?_ ⟨by simp, by simp, by simp⟩
  rintro ⟨i, c⟩ ⟨i0, i1, e⟩
  dsimp only at *
  subst e
  unfold z_viaductref04_DocMerge_l0
  rw [T_ite]
  refine ⟨fun hlt => ?_, fun hge => ?_⟩
  · have hll : (A ++ B.take i.toNat).length = A.length + i.toNat := by rw [List.length_append, List.length_take]; omega
    simp only [T_G, T_some, Sum.elim_inl, hll]
    refine ⟨i0, by omega, by omega, ⟨by omega, by omega, ?_⟩, by omega⟩
    rw [take_gtE i0 hlt, List.append_assoc]
  · simp only [T_some, Sum.elim_inr]
    rw [List.take_of_length_le (by omega)]
theorem p_Grow {n : Int} (n0 : 0 ≤ n) (n1 : n ≤ 262144) : z_slices_Grow n = some [] := by
  unfold z_slices_Grow G
  rw [if_neg (by omega), if_pos (by omega)]
  by_cases h : n - 0 > 0
  · rw [if_pos h, if_pos (by omega), if_pos ⟨by omega, by omega⟩]; simp
  · rw [if_neg h]
theorem p_Concat (hl : (A.length : Int) + (B.length : Int) ≤ 262144) : z_slices_Concat A B = some (A ++ B) := by
  unfold z_slices_Concat G
  rw [if_pos (by omega), if_neg (by omega), if_pos (by omega), if_neg (by omega), p_Grow (by omega) (by omega), Option.bind_some, if_pos (by simp; omega), if_pos (by simp; omega)]
  simp

theorem p_NormalMerges (ha : A.length ≤ 17592186044160) (hb : B.length ≤ 17592186044160) : z_viaductlaw04_NormalMerges N A M B = some true := by
  refine T_eq.1 ?_
  obtain ⟨e1, q1, c1⟩ := p_gCheck (N := N) (A := A)
  obtain ⟨e2, q2, c2⟩ := p_gCheck (N := M) (A := B)
  obtain ⟨_, d1, e1', c1', rfl⟩ := p_gDocCheck (N := N) (A := A)
  obtain ⟨_, d2, e2', c2', rfl⟩ := p_gDocCheck (N := M) (A := B)
  obtain rfl := c1.uniq c1'
  obtain rfl := c2.uniq c2'
  have fst := p_First c1.bad c2.bad
  have key : ∃ n l er, z_normal_Merge N A M B = some (n, l, er) ∧ z_viaductref04_DocMerge N A M B = some (n, l, er.code, er.pls) ∧ er.good ∧ er.pls.length ≤ 1 ∧ (l.length : Int) ≤ 262144 := by
    by_cases k1 : e1 = .nil
    · subst k1
      by_cases k2 : e2 = .nil
      · subst k2
        have s1 := c1.small; have s2 := c2.small
        have fst' : z_viaductref01_First Er.nil.code Er.nil.pls Er.nil.code Er.nil.pls = some (0, []) := by rw [fst]; rfl
        have hbad : z_viaductref01_Err_Bad 0 [] = some false := by rw [p_Bad]; simp
        have gg : -9223372036854775808 ≤ ((A.length : Int) + (B.length : Int)) ∧ ((A.length : Int) + (B.length : Int)) ≤ 9223372036854775807 := by omega
        have m0 : z_normal_Merge N A M B = if N = M then (if ((A.length : Int) + (B.length : Int)) > 262144 then (some (0, [], (Er.no 9))) else ((z_slices_Concat A B).bind fun y110 => some (N, y110, Er.nil))) else (some (0, [], (Er.no 1))) := by
          unfold z_normal_Merge G
          rw [q1, Option.bind_some, if_pos rfl, q2, Option.bind_some, if_pos rfl, if_pos gg]
        have d0 : z_viaductref04_DocMerge N A M B = if N = M then (if ((A.length : Int) + (B.length : Int)) > 262144 then (some (0, [], 9, [])) else (((z_viaductref03_Twin N A).bind fun y179 => ((loopO (fun zz_ => z_viaductref04_DocMerge_l0 B zz_.1 zz_.2) (0, y179.2)).bind fun o207 => some (y179.1, o207, 0, []))))) else (some (0, [], 1, [])) := by
          unfold z_viaductref04_DocMerge G
          rw [d1, Option.bind_some, d2, Option.bind_some, fst', Option.bind_some, hbad, Option.bind_some, if_neg (by decide : ¬ (false = true)), if_pos gg]
          rfl
        rw [m0, d0]
        by_cases k3 : N = M
        · rw [if_pos k3, if_pos k3]
          by_cases k4 : (A.length : Int) + (B.length : Int) > 262144
          · rw [if_pos k4, if_pos k4]
            exact ⟨0, [], .no 9, rfl, rfl, by simp [Er.good], by simp [Er.pls], by simp⟩
          · rw [if_neg k4, if_neg k4, p_Concat (by omega), p_gTwin (by omega)]
            obtain ⟨c, hc, rfl⟩ := p_docJoin (A := A) (B := B) (by omega)
            simp only [Option.bind_some, hc]
            exact ⟨N, A ++ B, .nil, rfl, rfl, trivial, by simp [Er.pls], by rw [List.length_append]; omega⟩
        · rw [if_neg k3, if_neg k3]
          exact ⟨0, [], .no 1, rfl, rfl, by simp [Er.good], by simp [Er.pls], by simp⟩
      · refine ⟨0, [], e2, ?_, ?_, c2.good.1, c2.good.2, by simp⟩
        · unfold z_normal_Merge
          rw [q1, Option.bind_some, if_pos rfl, q2, Option.bind_some, if_neg k2]
        · unfold z_viaductref04_DocMerge
          rw [d1, Option.bind_some, d2, Option.bind_some, fst, if_pos rfl, Option.bind_some, p_Bad, Option.bind_some, if_pos (decide_eq_true (c2.bad.2 k2))]
    · refine ⟨0, [], e1, ?_, ?_, c1.good.1, c1.good.2, by simp⟩
      · unfold z_normal_Merge
        rw [q1, Option.bind_some, if_neg k1]
      · unfold z_viaductref04_DocMerge
        rw [d1, Option.bind_some, d2, Option.bind_some, fst, if_neg k1, Option.bind_some, p_Bad, Option.bind_some, if_pos (decide_eq_true (c1.bad.2 k1))]
  obtain ⟨n, l, er, h1, h2, g1, g2, g3⟩ := key
  unfold z_viaductlaw04_NormalMerges
  rw [h1, Option.bind_some, h2, Option.bind_some]
  dsimp only
  rw [p_gSame (by omega), Option.bind_some, decide_eq_true (⟨rfl, rfl⟩ : n = n ∧ l = l), if_pos rfl, p_SameT g1 (by omega)]
  simp
end Go.Vd
