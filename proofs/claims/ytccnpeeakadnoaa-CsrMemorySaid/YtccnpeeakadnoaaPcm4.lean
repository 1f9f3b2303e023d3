/- Lists and places. Plain Lean: no program here. -/
import Derived.Test.YtccnpeeakadnoaaPcm3
import Derived.Test.YtccnpeeakadnoaaSo0
import Derived.Test.YtccnpeeakadnoaaVdQ
import Derived.Test.YtccnpeeakadnoaaICm
import Derived.Test.YtccnpeeakadnoaaVpB
set_option linter.unusedVariables false
set_option linter.unusedSimpArgs false
set_option linter.unusedSectionVars false
/-! (Mo0) -/

namespace Go.Vd
theorem take_gtE {E : Type} [Inhabited E] {l : List E} {i : Int} (h0 : 0 ≤ i) (h1 : i < (l.length : Int)) : l.take (i + 1).toNat = l.take i.toNat ++ [gt l i] := by
  have hi : i.toNat < l.length := by omega
  rw [show (i + 1).toNat = i.toNat + 1 from by omega, List.take_add_one, List.getElem?_eq_getElem hi]
  have : gt l i = l[i.toNat] := by simp [gt, List.getD_eq_getElem?_getD, hi]
  rw [this]; rfl
theorem gt_setE {E : Type} [Inhabited E] {l : List E} {i j : Int} {v : E} (i0 : 0 ≤ i) (i1 : i < (l.length : Int)) (j0 : 0 ≤ j) : gt (l.set i.toNat v) j = if j = i then v else gt l j := by
  unfold gt
  rw [List.getD_eq_getElem?_getD, List.getD_eq_getElem?_getD, List.getElem?_set]
  by_cases h : j = i
  · subst h; rw [if_pos rfl, if_pos rfl, if_pos (by omega)]; rfl
  · rw [if_neg h, if_neg (by omega)]
theorem list_gtE {E : Type} [Inhabited E] {l m : List E} (hl : l.length = m.length) (h : ∀ j : Int, 0 ≤ j → j < (l.length : Int) → gt l j = gt m j) : l = m := by
  refine List.ext_getElem hl fun j h1 h2 => ?_
  have := h (j : Int) (by omega) (by omega)
  rwa [gt_nat h1, gt_nat h2] at this
end Go.Vd

/-! (Gb) -/

set_option linter.unusedVariables false
set_option linter.unusedSimpArgs false
namespace Go.Vd
abbrev A3 := Int × Int × Int
theorem eq3 {x y : A3} (h1 : x.1 = y.1) (h2 : x.2.1 = y.2.1) (h3 : x.2.2 = y.2.2) : x = y := by
  obtain ⟨a, b, c⟩ := x; obtain ⟨a', b', c'⟩ := y
  simp only at h1 h2 h3
  subst h1; subst h2; subst h3; rfl

theorem mem_gtE {E : Type} [Inhabited E] {l : List E} {x : E} (h : x ∈ l) : ∃ i : Int, 0 ≤ i ∧ i < (l.length : Int) ∧ x = gt l i := by
  obtain ⟨i, hi, rfl⟩ := List.getElem_of_mem h
  exact ⟨i, by omega, by omega, (gt_nat hi).symm⟩

end Go.Vd

/-! (Gc) -/

set_option linter.unusedVariables false
set_option linter.unusedSimpArgs false
namespace Go.Vd
variable {N : Int} {A L : List A3}

/-- The number of what is wrong with an arc; 0: nothing. -/
def arcG (N : Int) (a : A3) : Int := if a.1 < 0 ∨ a.1 ≥ N ∨ a.2.1 < 0 ∨ a.2.1 ≥ N then 7 else if a.2.2 < 0 ∨ a.2.2 > 2147483647 then 8 else 0
def BigG (N : Int) (A : List A3) : Prop := N < 0 ∨ N > 65536 ∨ (A.length : Int) > 262144

/-- What a graph's check tells. -/
inductive GChk (N : Int) (A : List A3) : Er → Prop
  | limit : BigG N A → GChk N A (.no 9)
  | arc (i : Int) : ¬ BigG N A → 0 ≤ i → i < (A.length : Int) → arcG N (gt A i) ≠ 0 → (∀ j, 0 ≤ j → j < i → arcG N (gt A j) = 0) → GChk N A (.at 4 i (.no (arcG N (gt A i))))
  | ok : ¬ BigG N A → (∀ j, 0 ≤ j → j < (A.length : Int) → arcG N (gt A j) = 0) → GChk N A .nil

theorem arcG_7 {a : A3} (h : a.1 < 0 ∨ a.1 ≥ N ∨ a.2.1 < 0 ∨ a.2.1 ≥ N) : arcG N a = 7 := by unfold arcG; rw [if_pos h]
theorem arcG_8 {a : A3} (h : ¬ (a.1 < 0 ∨ a.1 ≥ N ∨ a.2.1 < 0 ∨ a.2.1 ≥ N)) (k : a.2.2 < 0 ∨ a.2.2 > 2147483647) : arcG N a = 8 := by unfold arcG; rw [if_neg h, if_pos k]
theorem arcG_0 {a : A3} (h : ¬ (a.1 < 0 ∨ a.1 ≥ N ∨ a.2.1 < 0 ∨ a.2.1 ≥ N)) (k : ¬ (a.2.2 < 0 ∨ a.2.2 > 2147483647)) : arcG N a = 0 := by unfold arcG; rw [if_neg h, if_neg k]
theorem arcG_ok {a : A3} (h : arcG N a = 0) : 0 ≤ a.1 ∧ a.1 < N ∧ 0 ≤ a.2.1 ∧ a.2.1 < N ∧ 0 ≤ a.2.2 ∧ a.2.2 ≤ 2147483647 := by
  unfold arcG at h
  split at h
  · cases h
  · split at h
    · cases h
    · omega

theorem GChk.uniq {er er' : Er} (h : GChk N A er) (k : GChk N A er') : er = er' := by
  cases h with
  | limit h1 =>
    cases k with
    | limit _ => rfl
    | arc _ k1 => exact absurd h1 k1
    | ok k1 _ => exact absurd h1 k1
  | arc i h1 h2 h3 h4 h5 =>
    cases k with
    | limit k1 => exact absurd k1 h1
    | arc j _ k2 k3 k4 k5 =>
      have : i = j := by
        rcases Int.lt_trichotomy i j with q | q | q
        · exact absurd (k5 i h2 q) h4
        · exact q
        · exact absurd (h5 j k2 q) k4
      rw [this]
    | ok _ k2 => exact absurd (k2 i h2 h3) h4
  | ok h1 h2 =>
    cases k with
    | limit k1 => exact absurd k1 h1
    | arc j _ k2 k3 k4 _ => exact absurd (h2 j k2 k3) k4
    | ok _ _ => rfl
theorem GChk.bad {er : Er} (h : GChk N A er) : (er.code ≠ 0 ∨ er.pls ≠ []) ↔ er ≠ .nil := by
  cases h with
  | limit _ => simp [Er.code]
  | arc i _ _ _ h4 _ => simp [Er.pls]
  | ok _ _ => simp [Er.code, Er.pls]
theorem GChk.small (h : GChk N A .nil) : 0 ≤ N ∧ N ≤ 65536 ∧ (A.length : Int) ≤ 262144 := by
  cases h with
  | ok h1 _ => unfold BigG at h1; omega
theorem GChk.arcs (h : GChk N A .nil) : ∀ a ∈ A, 0 ≤ a.1 ∧ a.1 < N ∧ 0 ≤ a.2.1 ∧ a.2.1 < N ∧ 0 ≤ a.2.2 ∧ a.2.2 ≤ 2147483647 := by
  cases h with
  | ok h1 h2 =>
    intro a ha
    obtain ⟨i, i0, i1, rfl⟩ := mem_gtE ha
    exact arcG_ok (h2 i i0 i1)
theorem GChk.of_arcs (n0 : 0 ≤ N) (n1 : N ≤ 65536) (n2 : (A.length : Int) ≤ 262144) (h : ∀ a ∈ A, 0 ≤ a.1 ∧ a.1 < N ∧ 0 ≤ a.2.1 ∧ a.2.1 < N ∧ 0 ≤ a.2.2 ∧ a.2.2 ≤ 2147483647) : GChk N A .nil :=
  .ok (by unfold BigG; omega) fun j j0 j1 => by have := h _ (gt_mem j0 j1); exact arcG_0 (by omega) (by omega)

theorem p_garc {a : A3} : z_gtext_arc a.1 a.2.1 a.2.2 N = some (if arcG N a = 0 then .nil else .no (arcG N a)) := by
  refine T_eq.1 ?_
  unfold z_gtext_arc
  refine T_bindr (fun o => o = decide (a.1 < 0 ∨ a.1 ≥ N ∨ a.2.1 < 0 ∨ a.2.1 ≥ N)) ?_ ?_
  · unfold z_gtext_within
    simp only [T_bind, T_ite, T_some]
    refine ⟨fun h1 => ⟨fun h2 => ⟨fun h3 => ?_, fun h3 => ?_⟩, fun h2 => ?_⟩, fun h1 => ⟨fun h2 => ?_, fun h2 => ?_⟩⟩
    · have h2' : a.1 < N := by simpa using h2
      by_cases h4 : a.2.1 < N
      · simp [h4]; omega
      · simp [h4]; omega
    · simp; omega
    · have h2' : ¬ a.1 < N := by simpa using h2
      simp; omega
    · simp at h2
    · simp; omega
  · rintro _ rfl
    by_cases h : a.1 < 0 ∨ a.1 ≥ N ∨ a.2.1 < 0 ∨ a.2.1 ≥ N
    · rw [arcG_7 h]; simp [h]
    · rw [decide_eq_false h, if_neg (by decide)]
      by_cases k1 : a.2.2 < 0
      · rw [if_pos k1, arcG_8 h (.inl k1)]; simp
      · rw [if_neg k1]
        by_cases k2 : a.2.2 > 2147483647
        · rw [if_pos k2, arcG_8 h (.inr k2)]; simp
        · rw [if_neg k2, arcG_0 h (by omega)]; simp
theorem p_fAtG {k i : Int} {e : Er} (h : e ≠ .nil) : z_fault_At k i e = some (.at k i e) := by
  unfold z_fault_At; rw [if_neg h]

theorem p_big : T (if N < 0 then (some true) else (if N > 65536 then (some true) else (some (decide ((A.length : Int) > 262144)))) : Option Bool) fun o => o = true ↔ BigG N A := by
  unfold BigG
  simp only [T_ite, T_some]
  exact ⟨fun h => by simp [h], fun h => ⟨fun h2 => by simp [h2], fun h2 => by simp; omega⟩⟩

theorem p_gCheck : T (z_gtext_Check N A) (GChk N A) := by
  unfold z_gtext_Check
  refine T_bindr _ p_big fun o ho => ?_
  rw [T_ite]
  refine ⟨fun h => by simp only [T_some]; exact .limit (ho.1 h), fun h => ?_⟩
  have hb : ¬ BigG N A := fun k => h (ho.2 k)
  have hl : (A.length : Int) ≤ 262144 := by unfold BigG at hb; omega
  refine T_binds (fun _ => ∀ j, 0 ≤ j → j < (A.length : Int) → arcG N (gt A j) = 0) ?_ fun _ h => by simp only [T_some]; exact .ok hb h
  refine T_loop (fun i => 0 ≤ i ∧ i ≤ (A.length : Int) ∧ ∀ j, 0 ≤ j → j < i → arcG N (gt A j) = 0) (fun i => ((A.length : Int) - i).toNat) ?_ ⟨by simp, by simp, fun j j0 j1 => by omega⟩
  rintro i ⟨i0, i1, hi⟩
  unfold z_gtext_Check_l0
  rw [T_ite]
  refine ⟨fun hlt => ?_, fun hge => by simp only [T_some, Sum.elim_inr]; exact fun j j0 j1 => hi j j0 (by omega)⟩
  rw [T_G, p_garc, Option.bind_some]
  refine ⟨i0, ?_⟩
  by_cases h0 : arcG N (gt A i) = 0
  · rw [if_pos h0, if_pos rfl]
    simp only [T_G, T_some, Sum.elim_inl]
    refine ⟨by omega, ⟨by omega, by omega, fun j j0 j1 => ?_⟩, by omega⟩
    by_cases e : j = i
    · rw [e]; exact h0
    · exact hi j j0 (by omega)
  · rw [if_neg h0, if_neg (by simp), p_fAtG (by simp), Option.bind_some]
    simp only [T_map, T_some, Sum.elim_inr, Sum.elim_inl]
    exact .arc i hb i0 hlt h0 hi

/-- An arc turned about. -/
def swp3 (a : A3) : A3 := (a.2.1, a.1, a.2.2)
inductive RevA (N : Int) (A : List A3) : Int → List A3 → Er → Prop
  | bad (er : Er) : GChk N A er → er ≠ .nil → RevA N A 0 [] er
  | ok : GChk N A .nil → RevA N A N (A.map swp3) .nil
theorem GChk.rev (h : GChk N A .nil) : GChk N (A.map swp3) .nil := by
  obtain ⟨n0, n1, n2⟩ := h.small
  refine .of_arcs n0 n1 (by simpa using n2) fun a ha => ?_
  obtain ⟨b, hb, rfl⟩ := List.mem_map.1 ha
  have := h.arcs b hb
  unfold swp3; dsimp only; omega
end Go.Vd

/-! (PrGd) -/

set_option linter.unusedVariables false
set_option linter.unusedSimpArgs false
namespace Go.Vd
variable {N : Int} {A L : List A3}

theorem p_gDocCheck : T (z_viaductref03_DocCheck N A) fun r => ∃ er, GChk N A er ∧ r = (er.code, er.pls) := by
  unfold z_viaductref03_DocCheck
  refine T_bindr _ p_big fun o ho => ?_
  rw [T_ite]
  refine ⟨fun h => by rw [p_E, Option.bind_some]; simp only [T_some]; exact ⟨.no 9, .limit (ho.1 h), rfl⟩, fun h => ?_⟩
  have hb : ¬ BigG N A := fun k => h (ho.2 k)
  have hl : (A.length : Int) ≤ 262144 := by unfold BigG at hb; omega
  refine T_binds (fun _ => ∀ j, 0 ≤ j → j < (A.length : Int) → arcG N (gt A j) = 0) ?_ fun _ h => by simp only [T_some]; exact ⟨.nil, .ok hb h, rfl⟩
  refine T_loop (fun i => 0 ≤ i ∧ i ≤ (A.length : Int) ∧ ∀ j, 0 ≤ j → j < i → arcG N (gt A j) = 0) (fun i => ((A.length : Int) - i).toNat) ?_ ⟨by simp, by simp, fun j j0 j1 => by omega⟩
  rintro i ⟨i0, i1, hi⟩
  unfold z_viaductref03_DocCheck_l0
  rw [T_ite]
  refine ⟨fun hlt => ?_, fun hge => by simp only [T_some, Sum.elim_inr]; exact fun j j0 j1 => hi j j0 (by omega)⟩
  rw [T_G]
  refine ⟨i0, T_bindr (fun o => o = true ↔ ((gt A i).1 < 0 ∨ (gt A i).1 ≥ N ∨ (gt A i).2.1 < 0 ∨ (gt A i).2.1 ≥ N)) ?_ fun o ho => ?_⟩
  · simp only [T_ite, T_some]
    refine ⟨fun h => by simp [h], fun h1 => ⟨fun h => by simp; omega, fun h2 => ⟨fun h => by simp [h], fun h3 => by simp; omega⟩⟩⟩
  rw [T_ite]
  refine ⟨fun h => ?_, fun h => ?_⟩
  · have h7 := arcG_7 (ho.1 h)
    rw [p_E, Option.bind_some, p_At (by simp), Option.bind_some]
    simp only [T_map, T_some, Sum.elim_inr, Sum.elim_inl]
    refine ⟨_, .arc i hb i0 hlt (by rw [h7]; decide) hi, ?_⟩
    rw [h7]; rfl
  · have hn : ¬ ((gt A i).1 < 0 ∨ (gt A i).1 ≥ N ∨ (gt A i).2.1 < 0 ∨ (gt A i).2.1 ≥ N) := fun k => h (ho.2 k)
    refine T_bindr (fun o => o = true ↔ ((gt A i).2.2 < 0 ∨ (gt A i).2.2 > 2147483647)) ?_ fun o ho => ?_
    · simp only [T_ite, T_some]
      exact ⟨fun h => by simp [h], fun h => by simp; omega⟩
    rw [T_ite]
    refine ⟨fun h => ?_, fun h => ?_⟩
    · have h8 := arcG_8 hn (ho.1 h)
      rw [p_E, Option.bind_some, p_At (by simp), Option.bind_some]
      simp only [T_map, T_some, Sum.elim_inr, Sum.elim_inl]
      refine ⟨_, .arc i hb i0 hlt (by rw [h8]; decide) hi, ?_⟩
      rw [h8]; rfl
    · have h0 := arcG_0 hn fun k => h (ho.2 k)
      simp only [T_G, T_some, Sum.elim_inl]
      refine ⟨by omega, ⟨by omega, by omega, fun j j0 j1 => ?_⟩, by omega⟩
      by_cases e : j = i
      · rw [e]; exact h0
      · exact hi j j0 (by omega)

end Go.Vd

/-! (Nr0) -/

set_option linter.unusedVariables false
set_option linter.unusedSectionVars false
set_option linter.unusedSimpArgs false
namespace Go.Vd

/-- Of the same two nodes. -/
def key2 (x y : Int × Int × Int) : Prop := x.1 = y.1 ∧ x.2.1 = y.2.1
instance (x y : Int × Int × Int) : Decidable (key2 x y) := by unfold key2; infer_instance
def ltk (x y : A3) : Prop := x.1 < y.1 ∨ (x.1 = y.1 ∧ x.2.1 < y.2.1)

/-- L is the normal list of A's arcs. -/
structure Nrm (A L : List A3) : Prop where
  inc : L.Pairwise ltk
  sub : ∀ a ∈ L, a ∈ A ∧ a.1 ≠ a.2.1 ∧ ∀ b ∈ A, key2 b a → a.2.2 ≤ b.2.2
  sup : ∀ a ∈ A, a.1 ≠ a.2.1 → ∃ b ∈ L, key2 b a

theorem sorted_eq : ∀ {L M : List A3}, L.Pairwise ltk → M.Pairwise ltk → (∀ x, x ∈ L ↔ x ∈ M) → L = M := by
  intro L
  induction L with
  | nil =>
    intro M _ _ h
    cases M with
    | nil => rfl
    | cons b M => have := (h b).2 (List.mem_cons_self ..); cases this
  | cons a L ih =>
    intro M hL hM h
    cases M with
    | nil => have := (h a).1 (List.mem_cons_self ..); cases this
    | cons b M =>
      have hab : a = b := by
        rcases List.mem_cons.1 ((h a).1 (List.mem_cons_self ..)) with h1 | h1
        · exact h1
        · rcases List.mem_cons.1 ((h b).2 (List.mem_cons_self ..)) with h2 | h2
          · exact h2.symm
          · have k1 := (List.pairwise_cons.1 hM).1 a h1
            have k2 := (List.pairwise_cons.1 hL).1 b h2
            unfold ltk at k1 k2
            omega
      subst hab
      rw [ih (List.pairwise_cons.1 hL).2 (List.pairwise_cons.1 hM).2 fun x => ⟨fun hx => ?_, fun hx => ?_⟩]
      · rcases List.mem_cons.1 ((h x).1 (List.mem_cons_of_mem _ hx)) with rfl | h1
        · have := (List.pairwise_cons.1 hL).1 x hx
          unfold ltk at this; omega
        · exact h1
      · rcases List.mem_cons.1 ((h x).2 (List.mem_cons_of_mem _ hx)) with rfl | h1
        · have := (List.pairwise_cons.1 hM).1 x hx
          unfold ltk at this; omega
        · exact h1

theorem inc_tri {L : List A3} (h : L.Pairwise ltk) : ∀ x ∈ L, ∀ y ∈ L, x = y ∨ ltk x y ∨ ltk y x := by
  induction L with
  | nil => intro x hx; cases hx
  | cons a L ih =>
    intro x hx y hy
    obtain ⟨h1, h2⟩ := List.pairwise_cons.1 h
    rcases List.mem_cons.1 hx with ex | hx'
    · rcases List.mem_cons.1 hy with ey | hy'
      · exact .inl (ex.trans ey.symm)
      · rw [ex]; exact .inr (.inl (h1 y hy'))
    · rcases List.mem_cons.1 hy with ey | hy'
      · rw [ey]; exact .inr (.inr (h1 x hx'))
      · exact ih h2 x hx' y hy'
theorem inc_key {L : List A3} (h : L.Pairwise ltk) {x y : A3} (hx : x ∈ L) (hy : y ∈ L) (k : key2 x y) : x = y := by
  rcases inc_tri h x hx y hy with h | h | h
  · exact h
  · unfold ltk at h; unfold key2 at k; omega
  · unfold ltk at h; unfold key2 at k; omega

theorem Nrm.mem {A L M : List A3} (h : Nrm A L) (k : Nrm A M) {x : A3} (hx : x ∈ L) : x ∈ M := by
  obtain ⟨h1, h2, h3⟩ := h.sub x hx
  obtain ⟨b, b1, b2⟩ := k.sup x h1 h2
  obtain ⟨k1, k2, k3⟩ := k.sub b b1
  have e1 := h3 b k1 b2
  have e2 := k3 x h1 ⟨b2.1.symm, b2.2.symm⟩
  have : x = b := eq3 b2.1.symm b2.2.symm (by omega)
  rw [this]; exact b1
theorem Nrm.uniq {A L M : List A3} (h : Nrm A L) (k : Nrm A M) : L = M :=
  sorted_eq h.inc k.inc fun x => ⟨h.mem k, k.mem h⟩
/-- Only what is in the list counts. -/
theorem Nrm.of_mem {A B L : List A3} (h : Nrm A L) (e : ∀ x, x ∈ A ↔ x ∈ B) : Nrm B L :=
  ⟨h.inc, fun a ha => let ⟨h1, h2, h3⟩ := h.sub a ha; ⟨(e a).1 h1, h2, fun b hb => h3 b ((e b).2 hb)⟩, fun a ha hn => h.sup a ((e a).2 ha) hn⟩
/-- A normal list's own is itself. -/
theorem Nrm.self {A L : List A3} (h : Nrm A L) : Nrm L L :=
  ⟨h.inc, fun a ha => ⟨ha, (h.sub a ha).2.1, fun b hb k => by rw [inc_key h.inc hb ha k]; exact Int.le_refl _⟩, fun a ha _ => ⟨a, ha, rfl, rfl⟩⟩
end Go.Vd

/-! (PrP0) -/

set_option linter.unusedVariables false
set_option linter.unusedSectionVars false
set_option linter.unusedSimpArgs false
namespace Go.Vd
variable {N : Int} {A L : List A3}

instance (x y : A3) : Decidable (ltk x y) := by unfold ltk; exact inferInstance
/-- An arc put into a normal list. -/
inductive PutA : List A3 → A3 → List A3 → Prop
  | hit (p q : List A3) (b a : A3) : key2 b a → PutA (p ++ b :: q) a (p ++ (a.1, a.2.1, min a.2.2 b.2.2) :: q)
  | new (p q : List A3) (a : A3) : (∀ x ∈ p, ltk x a) → (∀ x ∈ q, ltk a x) → PutA (p ++ q) a (p ++ a :: q)

theorem p_less {x a : A3} : z_viaductref04_less x.1 x.2.1 x.2.2 a.1 a.2.1 a.2.2 = some (decide (ltk x a)) := by
  unfold z_viaductref04_less ltk
  by_cases h : x.1 < a.1
  · rw [if_pos h]; simp [h]
  · rw [if_neg h]
    by_cases h2 : x.1 = a.1
    · rw [if_pos h2]; simp [h2]
    · rw [if_neg h2]; simp [h, h2]

theorem split_gt {o : Int} (o0 : 0 ≤ o) (o1 : o < (L.length : Int)) : L.drop o.toNat = gt L o :: L.drop (o + 1).toNat := by
  rw [List.drop_eq_getElem_cons (i := o.toNat) (by omega), show (o + 1).toNat = o.toNat + 1 from by omega]
  congr 1
  have h : gt L ((o.toNat : Nat) : Int) = L[o.toNat] := gt_nat (by omega)
  rw [← h]; congr 1; omega

theorem p_Put {a : A3} (hL : L.Pairwise ltk) (hl : L.length ≤ 300000) : T (z_viaductref04_Put L a.1 a.2.1 a.2.2) fun r => PutA L a r ∧ r.length ≤ L.length + 1 := by
  unfold z_viaductref04_Put
  refine T_bindr (fun o => 0 ≤ o ∧ o ≤ (L.length : Int) ∧ (∀ j, 0 ≤ j → j < o → ltk (gt L j) a) ∧ (o < (L.length : Int) → ¬ ltk (gt L o) a)) ?_ ?_
  · refine T_loop (fun i => 0 ≤ i ∧ i ≤ (L.length : Int) ∧ ∀ j, 0 ≤ j → j < i → ltk (gt L j) a) (fun i => ((L.length : Int) - i).toNat) ?_ ⟨by omega, by omega, fun j _ _ => by omega⟩
    rintro i ⟨i0, i1, hi⟩
    unfold z_viaductref04_Put_l0
    rw [p_less, Option.bind_some]
    simp only [T_ite, T_G, T_some, Sum.elim_inl, Sum.elim_inr, decide_eq_true_eq]
    refine ⟨fun h => ⟨i0, fun k => ⟨by omega, ⟨by omega, by omega, fun j j0 j1 => ?_⟩, by omega⟩, fun k => ⟨i0, i1, hi, fun _ => k⟩⟩, fun h => ⟨i0, i1, hi, fun k => absurd k h⟩⟩
    by_cases e : j = i
    · rw [e]; exact k
    · exact hi j j0 (by omega)
  · rintro o ⟨o0, o1, h1, h2⟩
    simp only [List.drop_zero, List.take_length, List.nil_append]
    rw [T_G, T_G]
    refine ⟨⟨o0, o1⟩, by rw [List.length_take]; omega, ?_⟩
    refine T_bindr (fun b => b = true ↔ (o < (L.length : Int) ∧ key2 (gt L o) a)) ?_ fun b hb => ?_
    · unfold key2
      simp only [T_ite, T_G, T_some, decide_eq_true_eq]
      exact ⟨fun h => ⟨o0, fun k => by simp [h, k], fun k => by simp [k]⟩, fun h => by simp; omega⟩
    have hp : ∀ x ∈ L.take o.toNat, ltk x a := fun x hx => by
      obtain ⟨j, j0, j1, rfl⟩ := mem_gtE hx
      rw [List.length_take] at j1
      have : gt (L.take o.toNat) j = gt L j := by
        unfold gt
        rw [List.getD_eq_getElem?_getD, List.getD_eq_getElem?_getD, List.getElem?_take, if_pos (by omega)]
      rw [this]
      exact h1 j j0 (by omega)
    have eL : L.take o.toNat ++ L.drop o.toNat = L := List.take_append_drop _ _
    rw [T_ite]
    refine ⟨fun h => ?_, fun h => ?_⟩
    · obtain ⟨k1, k2⟩ := hb.1 h
      simp only [T_G, T_some, List.length_append, List.length_take, List.length_drop, List.length_cons, List.length_nil]
      refine ⟨⟨o0, k1⟩, by omega, by omega, by omega, by omega, ?_, by omega⟩
      have := PutA.hit (L.take o.toNat) (L.drop (o + 1).toNat) (gt L o) a k2
      rw [← split_gt o0 k1, eL] at this
      simpa using this
    · have hn : ¬ (o < (L.length : Int) ∧ key2 (gt L o) a) := fun k => h (hb.2 k)
      simp only [T_G, T_some, List.length_append, List.length_take, List.length_drop, List.length_cons, List.length_nil]
      refine ⟨by omega, by omega, ?_, by omega⟩
      have hq : ∀ x ∈ L.drop o.toNat, ltk a x := by
        by_cases k : o < (L.length : Int)
        · have h3 := h2 k
          have h4 : ltk a (gt L o) := by
            have : ¬ key2 (gt L o) a := fun q => hn ⟨k, q⟩
            unfold ltk key2 at *; omega
          have h5 : (L.drop o.toNat).Pairwise ltk := hL.sublist (List.drop_sublist _ _)
          rw [split_gt o0 k] at h5 ⊢
          intro x hx
          rcases List.mem_cons.1 hx with rfl | hx
          · exact h4
          · have := (List.pairwise_cons.1 h5).1 x hx
            unfold ltk at *; omega
        · rw [List.drop_of_length_le (by omega)]; intro x hx; cases hx
      have := PutA.new (L.take o.toNat) (L.drop o.toNat) a hp hq
      rw [eL] at this
      simpa using this

theorem key2_m {a : A3} {m : Int} : key2 (a.1, a.2.1, m) a := ⟨rfl, rfl⟩
theorem PutA.nrm {A L r : List A3} {a : A3} (h : PutA L a r) (k : Nrm A L) (hn : a.1 ≠ a.2.1) : Nrm (A ++ [a]) r := by
  have mA : ∀ c, c ∈ A ++ [a] ↔ (c ∈ A ∨ c = a) := fun c => by simp
  cases h with
  | hit p q b _ kb =>
    have inc := k.inc
    obtain ⟨i1, i2, i3⟩ := List.pairwise_append.1 inc
    obtain ⟨i4, i5⟩ := List.pairwise_cons.1 i2
    have kab : b.1 = a.1 ∧ b.2.1 = a.2.1 := kb
    have hbL : b ∈ p ++ b :: q := by simp
    obtain ⟨b1, b2, b3⟩ := k.sub b hbL
    refine ⟨List.pairwise_append.2 ⟨i1, List.pairwise_cons.2 ⟨fun x hx => ?_, i5⟩, fun x hx y hy => ?_⟩, fun x hx => ?_, fun c hc hcn => ?_⟩
    · have := i4 x hx; unfold ltk at *; dsimp only; omega
    · rcases List.mem_cons.1 hy with rfl | hy
      · have := i3 x hx b (List.mem_cons_self ..); unfold ltk at *; dsimp only; omega
      · exact i3 x hx y (List.mem_cons_of_mem _ hy)
    · have old : x ∈ p ∨ x ∈ q → x ∈ A ++ [a] ∧ x.1 ≠ x.2.1 ∧ ∀ c ∈ A ++ [a], key2 c x → x.2.2 ≤ c.2.2 := fun hx => by
        have hxL : x ∈ p ++ b :: q := by rcases hx with h | h <;> simp [h]
        have hk : ¬ key2 a x := by
          intro hk
          rcases hx with h | h
          · have := i3 x h b (List.mem_cons_self ..); unfold ltk key2 at *; omega
          · have := i4 x h; unfold ltk key2 at *; omega
        obtain ⟨x1, x2, x3⟩ := k.sub x hxL
        refine ⟨(mA x).2 (.inl x1), x2, fun c hc hk2 => ?_⟩
        rcases (mA c).1 hc with hc | rfl
        · exact x3 c hc hk2
        · exact absurd hk2 hk
      rcases List.mem_append.1 hx with h | h
      · exact old (.inl h)
      · rcases List.mem_cons.1 h with rfl | h
        · refine ⟨(mA _).2 ?_, hn, fun c hc hk2 => ?_⟩
          · by_cases hle : a.2.2 ≤ b.2.2
            · right; rw [Int.min_eq_left hle]
            · left
              rw [Int.min_eq_right (by omega)]
              have : ((a.1, a.2.1, b.2.2) : A3) = b := eq3 kab.1.symm kab.2.symm rfl
              rw [this]; exact b1
          · rcases (mA c).1 hc with hc | rfl
            · have := b3 c hc (by unfold key2 at *; dsimp only at hk2; omega)
              dsimp only; omega
            · dsimp only; omega
        · exact old (.inr h)
    · have new : ∃ y ∈ p ++ (a.1, a.2.1, min a.2.2 b.2.2) :: q, key2 y a := ⟨(a.1, a.2.1, min a.2.2 b.2.2), List.mem_append.2 (.inr (List.mem_cons_self ..)), key2_m⟩
      rcases (mA c).1 hc with hc | rfl
      · obtain ⟨y, hy, hk⟩ := k.sup c hc hcn
        rcases List.mem_append.1 hy with h | h
        · exact ⟨y, by simp [h], hk⟩
        · rcases List.mem_cons.1 h with rfl | h
          · obtain ⟨z, hz, hz2⟩ := new
            exact ⟨z, hz, by unfold key2 at *; omega⟩
          · exact ⟨y, by simp [h], hk⟩
      · exact new
  | new p q _ h1 h2 =>
    have inc := k.inc
    obtain ⟨i1, i2, i3⟩ := List.pairwise_append.1 inc
    refine ⟨List.pairwise_append.2 ⟨i1, List.pairwise_cons.2 ⟨h2, i2⟩, fun x hx y hy => ?_⟩, fun x hx => ?_, fun c hc hcn => ?_⟩
    · rcases List.mem_cons.1 hy with rfl | hy
      · exact h1 x hx
      · exact i3 x hx y hy
    · have old : x ∈ p ∨ x ∈ q → x ∈ A ++ [a] ∧ x.1 ≠ x.2.1 ∧ ∀ c ∈ A ++ [a], key2 c x → x.2.2 ≤ c.2.2 := fun hx => by
        have hxL : x ∈ p ++ q := by rcases hx with h | h <;> simp [h]
        have hk : ¬ key2 a x := by
          intro hk
          rcases hx with h | h
          · have := h1 x h; unfold ltk key2 at *; omega
          · have := h2 x h; unfold ltk key2 at *; omega
        obtain ⟨x1, x2, x3⟩ := k.sub x hxL
        refine ⟨(mA x).2 (.inl x1), x2, fun c hc hk2 => ?_⟩
        rcases (mA c).1 hc with hc | rfl
        · exact x3 c hc hk2
        · exact absurd hk2 hk
      rcases List.mem_append.1 hx with h | h
      · exact old (.inl h)
      · rcases List.mem_cons.1 h with rfl | h
        · refine ⟨(mA _).2 (.inr rfl), hn, fun c hc hk2 => ?_⟩
          rcases (mA c).1 hc with hc | rfl
          · exfalso
            obtain ⟨y, hy, hk⟩ := k.sup c hc (by unfold key2 at hk2; omega)
            rcases List.mem_append.1 hy with h | h
            · have := h1 y h; unfold ltk key2 at *; omega
            · have := h2 y h; unfold ltk key2 at *; omega
          · omega
        · exact old (.inr h)
    · rcases (mA c).1 hc with hc | rfl
      · obtain ⟨y, hy, hk⟩ := k.sup c hc hcn
        rcases List.mem_append.1 hy with h | h
        · exact ⟨y, by simp [h], hk⟩
        · exact ⟨y, by simp [h], hk⟩
      · exact ⟨c, by simp, rfl, rfl⟩
theorem Nrm.loop {a : A3} (k : Nrm A L) (hn : a.1 = a.2.1) : Nrm (A ++ [a]) L := by
  have mA : ∀ c, c ∈ A ++ [a] ↔ (c ∈ A ∨ c = a) := fun c => by simp
  refine ⟨k.inc, fun x hx => ?_, fun c hc hcn => ?_⟩
  · obtain ⟨x1, x2, x3⟩ := k.sub x hx
    refine ⟨(mA x).2 (.inl x1), x2, fun c hc hk => ?_⟩
    rcases (mA c).1 hc with hc | rfl
    · exact x3 c hc hk
    · unfold key2 at hk; omega
  · rcases (mA c).1 hc with hc | rfl
    · exact k.sup c hc hcn
    · exact absurd hn hcn
theorem Nrm.zero : Nrm [] [] := { inc := .nil, sub := fun a h => (by cases h), sup := fun a h => (by cases h) }

end Go.Vd

/-! (PrR0) -/

set_option linter.unusedVariables false
set_option linter.unusedSectionVars false
set_option linter.unusedSimpArgs false
namespace Go.Vd
variable {N : Int} {A L : List A3}

theorem p_rOf (hl : (A.length : Int) ≤ 262144) : T (z_viaductref04_Of N A) fun r => r.1 = N ∧ Nrm A r.2 ∧ r.2.length ≤ A.length := by
  unfold z_viaductref04_Of
  refine T_bindr (fun c => Nrm A c ∧ c.length ≤ A.length) ?_ fun c hc => by simp only [T_some]; exact ⟨trivial, hc⟩
  refine T_loop (fun z => 0 ≤ z.1 ∧ z.1 ≤ (A.length : Int) ∧ Nrm (A.take z.1.toNat) z.2 ∧ (z.2.length : Int) ≤ z.1) (fun z => ((A.length : Int) - z.1).toNat) ?_ ⟨by simp, by simp, by simpa using Nrm.zero, by simp⟩
  rintro ⟨i, c⟩ ⟨i0, i1, hc, hlc⟩
  dsimp only at *
  unfold z_viaductref04_Of_l0
  rw [T_ite]
  refine ⟨fun hlt => ?_, fun hge => ?_⟩
  rotate_left
  · simp only [T_some, Sum.elim_inr]
    rw [List.take_of_length_le (by omega)] at hc
    exact ⟨hc, by omega⟩
  rw [T_G, T_ite]
  refine ⟨i0, fun h => ?_, fun h => ?_⟩
  · simp only [T_G, T_some, Sum.elim_inl]
    refine ⟨by omega, ⟨by omega, by omega, ?_, by omega⟩, by omega⟩
    rw [take_gtE i0 hlt]; exact hc.loop h
  · refine T_bindr _ (p_Put hc.inc (by omega)) ?_
    rintro r ⟨hr, hrl⟩
    simp only [T_G, T_some, Sum.elim_inl]
    refine ⟨by omega, ⟨by omega, by omega, ?_, by omega⟩, by omega⟩
    rw [take_gtE i0 hlt]; exact hr.nrm hc h

end Go.Vd

/-! (So1) -/

set_option linter.unusedVariables false
set_option linter.unusedSimpArgs false
namespace Go.Vd

theorem p_Compare {x y : Int} : z_cmp_Compare x y = some (if x < y then -1 else if x > y then 1 else 0) := by
  unfold z_cmp_Compare z_cmp_isNaN
  simp only [Option.bind_some]
  simp
  by_cases h1 : x < y
  · simp [h1]
  · by_cases h2 : y < x <;> simp [h1, h2]
theorem p_Or3 {a b c : Int} : z_cmp_Or [a, b, c] = some (if a ≠ 0 then a else if b ≠ 0 then b else c) := by
  unfold z_cmp_Or
  have h3 : z_cmp_Or_l0 [a, b, c] 3 = some (Sum.inr (Sum.inr ())) := by unfold z_cmp_Or_l0; rw [if_neg (by simp)]
  have step : ∀ i : Int, 0 ≤ i → i < 3 → z_cmp_Or_l0 [a, b, c] i = if gt [a, b, c] i = 0 then some (Sum.inl (i + 1)) else some (Sum.inr (Sum.inl (gt [a, b, c] i))) := fun i i0 i1 => by
    unfold z_cmp_Or_l0 G
    rw [if_pos (by simp; omega), if_pos i0]
    split
    · rw [if_pos (by omega)]
    · rfl
  have g0 : gt [a, b, c] 0 = a := rfl
  have g1 : gt [a, b, c] 1 = b := rfl
  have g2 : gt [a, b, c] 2 = c := rfl
  rw [loopO_eq, step 0 (by omega) (by omega), g0]
  by_cases ha : a = 0
  · rw [if_pos ha, if_neg (by simp [ha]), Option.bind_some, Sum.elim_inl, show (0 : Int) + 1 = 1 from rfl, loopO_eq, step 1 (by omega) (by omega), g1]
    by_cases hb : b = 0
    · rw [if_pos hb, if_neg (by simp [hb]), Option.bind_some, Sum.elim_inl, show (1 : Int) + 1 = 2 from rfl, loopO_eq, step 2 (by omega) (by omega), g2]
      by_cases hc : c = 0
      · rw [if_pos hc, Option.bind_some, Sum.elim_inl, show (2 : Int) + 1 = 3 from rfl, loopO_eq, h3]
        simp [hc]
      · rw [if_neg hc]; simp
    · rw [if_neg hb, if_pos hb]; simp
  · rw [if_neg ha, if_pos ha]; simp

/-- Three numbers in order. -/
def lt3 (x y : Int × Int × Int) : Prop := x.1 < y.1 ∨ (x.1 = y.1 ∧ (x.2.1 < y.2.1 ∨ (x.2.1 = y.2.1 ∧ x.2.2 < y.2.2)))
instance (x y : Int × Int × Int) : Decidable (lt3 x y) := by unfold lt3; infer_instance
noncomputable abbrev ord3 : Int × Int × Int → Int × Int × Int → Option Int := fun a_ b_ => z_normal_order a_.1 a_.2.1 a_.2.2 b_.1 b_.2.1 b_.2.2

theorem p_order (x y : Int × Int × Int) : ∃ r, ord3 x y = some r ∧ (r < 0 ↔ lt3 x y) := by
  unfold ord3 z_normal_order
  simp only [p_Compare, Option.bind_some, p_Or3]
  refine ⟨_, rfl, ?_⟩
  unfold lt3
  by_cases a1 : x.1 < y.1
  · simp [a1]
  · by_cases a2 : x.1 > y.1
    · have : ¬ x.1 = y.1 := by omega
      simp [a1, a2, this]
    · have e : x.1 = y.1 := by omega
      by_cases b1 : x.2.1 < y.2.1
      · simp [e, b1]
      · by_cases b2 : x.2.1 > y.2.1
        · have : ¬ x.2.1 = y.2.1 := by omega
          simp [e, b1, b2, this]
        · have e2 : x.2.1 = y.2.1 := by omega
          by_cases c1 : x.2.2 < y.2.2
          · simp [e, e2, c1]
          · by_cases c2 : x.2.2 > y.2.2 <;> simp [e, e2, c1, c2]
theorem ord3_lt (x y : Int × Int × Int) : (ord3 x y).getD 0 < 0 ↔ lt3 x y := by
  obtain ⟨r, h1, h2⟩ := p_order x y
  rw [h1]; exact h2
theorem ord3_ok : SortOk ord3 :=
  { ans := fun x y => let ⟨r, h, _⟩ := p_order x y; ⟨r, h⟩
    irr := fun x => by rw [ord3_lt]; unfold lt3; omega
    trn := fun x y z => by rw [ord3_lt, ord3_lt, ord3_lt]; unfold lt3; omega
    ntr := fun x y z => by rw [ord3_lt, ord3_lt, ord3_lt]; unfold lt3; omega
    tot := fun x y h1 h2 => by
      rw [ord3_lt] at h1 h2
      obtain ⟨x1, x2, x3⟩ := x
      obtain ⟨y1, y2, y3⟩ := y
      unfold lt3 at h1 h2
      dsimp only at h1 h2
      simp only [Prod.mk.injEq]
      omega }
theorem p_sort (xs : List (Int × Int × Int)) : sortO (fun (a_ b_ : Int × Int × Int) => z_normal_order a_.1 a_.2.1 a_.2.2 b_.1 b_.2.1 b_.2.2) xs = some (sortL ord3 xs) := sortO_ok ord3_ok xs
theorem sort_rise (xs : List (Int × Int × Int)) : (sortL ord3 xs).Pairwise fun x y => ¬ lt3 y x := (sortL_sorted ord3_ok xs).imp fun h => by rwa [ord3_lt] at h

theorem p_like {x y : Int × Int × Int} : z_normal_Of_1 x.1 x.2.1 x.2.2 y.1 y.2.1 y.2.2 = some (decide (key2 x y)) := by
  unfold z_normal_Of_1 key2
  by_cases h : x.1 = y.1 <;> simp [h]

/-- What is left of the first k, when of neighbours that are alike the first stays. -/
def cpt (s : List (Int × Int × Int)) : Nat → List (Int × Int × Int)
  | 0 => []
  | k + 1 => cpt s k ++ if k ≠ 0 ∧ key2 (gt s (k : Int)) (gt s ((k : Int) - 1)) then [] else [gt s (k : Int)]
theorem cpt_len (s : List (Int × Int × Int)) (k : Nat) : (cpt s k).length ≤ k := by
  induction k with
  | zero => simp [cpt]
  | succ k ih =>
    simp only [cpt, List.length_append]
    split <;> simp <;> omega
theorem cpt_next {s : List (Int × Int × Int)} {i : Int} (i0 : 0 ≤ i) : cpt s (i + 1).toNat = cpt s i.toNat ++ if i ≠ 0 ∧ key2 (gt s i) (gt s (i - 1)) then [] else [gt s i] := by
  rw [show (i + 1).toNat = i.toNat + 1 from by omega]
  simp only [cpt]
  rw [show ((i.toNat : Nat) : Int) = i from by omega]
  have : i.toNat ≠ 0 ↔ i ≠ 0 := by omega
  simp only [ne_eq, this]

theorem gt_drop {E : Type} [Inhabited E] {l : List E} {k j : Int} (k0 : 0 ≤ k) (j0 : 0 ≤ j) : gt (l.drop k.toNat) j = gt l (k + j) := by
  unfold gt
  rw [List.getD_eq_getElem?_getD, List.getD_eq_getElem?_getD, List.getElem?_drop, show k.toNat + j.toNat = (k + j).toNat from by omega]

theorem p_Compact {s : List (Int × Int × Int)} (hl : s.length ≤ 1000000000000) : T (z_slices_CompactFunc s) fun r => r.1 = cpt s s.length := by
  unfold z_slices_CompactFunc
  rw [T_ite]
  have c1 : 0 < s.length → cpt s 1 = s.take 1 := fun h => by
    simp only [cpt]
    have := take_gtE (l := s) (i := 0) (by omega) (by omega)
    simpa using this.symm
  refine ⟨fun h => ?_, fun h => ?_⟩
  · simp only [T_some]
    by_cases h0 : s.length = 0
    · rw [h0]; exact List.eq_nil_of_length_eq_zero h0
    · have : s.length = 1 := by omega
      have h2 := c1 (by omega)
      rw [this, h2, List.take_of_length_le (by omega)]
  refine T_binds (fun _ => cpt s s.length = s) ?_ fun _ h => by simp only [T_some]; exact h.symm
  refine T_loop (fun k => 1 ≤ k ∧ k ≤ (s.length : Int) ∧ cpt s k.toNat = s.take k.toNat) (fun k => ((s.length : Int) - k).toNat) ?_ ⟨by omega, by omega, c1 (by omega)⟩
  rintro k ⟨k0, k1, hk⟩
  unfold z_slices_CompactFunc_l1
  rw [T_ite]
  refine ⟨fun hlt => ?_, fun hge => ?_⟩
  rotate_left
  · simp only [T_some, Sum.elim_inr]
    have : k = s.length := by omega
    subst this
    simpa using hk
  simp only [T_G]
  refine ⟨by omega, by omega, by omega, ?_⟩
  rw [p_like, Option.bind_some, T_ite]
  refine ⟨fun heq => ?_, fun hne => ?_⟩
  rotate_left
  · have hne' : ¬ key2 (gt s k) (gt s (k - 1)) := by simpa using hne
    simp only [T_G, T_some, Sum.elim_inl]
    refine ⟨by omega, ⟨by omega, by omega, ?_⟩, by omega⟩
    rw [cpt_next (by omega), if_neg (fun h => hne' h.2), hk]
    exact (take_gtE (by omega) hlt).symm
  have heq' : key2 (gt s k) (gt s (k - 1)) := by simpa using heq
  simp only [T_G]
  refine ⟨by omega, ?_⟩
  refine T_bindr (fun r => (r.1.length : Int) = s.length ∧ 0 ≤ r.2 ∧ r.2 ≤ (s.length : Int) ∧ cpt s s.length = r.1.take r.2.toNat) ?_ ?_
  · refine T_loop (fun z => 1 ≤ z.2.2 ∧ z.2.2 ≤ (s.length : Int) - k ∧ k ≤ z.2.1 ∧ z.2.1 ≤ k + z.2.2 - 1 ∧ (z.1.length : Int) = s.length ∧ cpt s (k + z.2.2).toNat = z.1.take z.2.1.toNat ∧ ∀ j, k + z.2.2 - 1 ≤ j → gt z.1 j = gt s j) (fun z => ((s.length : Int) - k - z.2.2).toNat) ?_ ⟨by simp, by dsimp only; omega, by simp, by dsimp only; omega, rfl, ?_, fun _ _ => rfl⟩
    rotate_left
    · dsimp only
      rw [cpt_next (by omega), if_pos ⟨by omega, heq'⟩, hk, List.append_nil]
    rintro ⟨s0, k1', k2⟩ ⟨a0, a1, a2, a3, a4, a5, a6⟩
    dsimp only at *
    have hdl : ((s0.drop k.toNat).length : Int) = s.length - k := by rw [List.length_drop]; omega
    unfold z_slices_CompactFunc_l0
    rw [hdl, T_ite]
    refine ⟨fun hlt2 => ?_, fun hge2 => ?_⟩
    rotate_left
    · simp only [T_some, Sum.elim_inr]
      have : k + k2 = s.length := by omega
      rw [this] at a5
      exact ⟨a4, by omega, by omega, by simpa using a5⟩
    have e1 : gt (s0.drop k.toNat) k2 = gt s (k + k2) := by rw [gt_drop (by omega) (by omega)]; exact a6 _ (by omega)
    have e2 : gt (s0.drop k.toNat) (k2 - 1) = gt s (k + k2 - 1) := by rw [gt_drop (by omega) (by omega), show k + (k2 - 1) = k + k2 - 1 from by omega]; exact a6 _ (by omega)
    simp only [T_G]
    refine ⟨by omega, by omega, by omega, ?_⟩
    rw [p_like, e1, e2, Option.bind_some, T_ite]
    have nx : (k + (k2 + 1)).toNat = (k + k2 + 1).toNat := by omega
    refine ⟨fun hn => ?_, fun hy => ?_⟩
    · have hn' : ¬ key2 (gt s (k + k2)) (gt s (k + k2 - 1)) := by simpa using hn
      simp only [T_G, T_some, Sum.elim_inl]
      refine ⟨by omega, by omega, by omega, ⟨by omega, by omega, by omega, by omega, by simpa using a4, ?_, fun j hj => ?_⟩, by omega⟩
      · rw [nx, cpt_next (by omega), if_neg (fun h => hn' h.2), a5]
        have h1 := take_gtE (l := s0.set k1'.toNat (gt s (k + k2))) (i := k1') (by omega) (by simp; omega)
        rw [h1, gt_setE (by omega) (by omega) (by omega), if_pos rfl, List.take_set_of_le (Nat.le_refl _)]
      · rw [gt_setE (by omega) (by omega) (by omega), if_neg (by omega)]; exact a6 j (by omega)
    · have hy' : key2 (gt s (k + k2)) (gt s (k + k2 - 1)) := by simpa using hy
      simp only [T_G, T_some, Sum.elim_inl]
      refine ⟨by omega, ⟨by omega, by omega, by omega, by omega, a4, ?_, fun j hj => a6 j (by omega)⟩, by omega⟩
      rw [nx, cpt_next (by omega), if_pos ⟨by omega, hy'⟩, a5, List.append_nil]
  · rintro ⟨r, q⟩ ⟨b1, b2, b3, b4⟩
    dsimp only at *
    have hlen : ((r.take q.toNat ++ List.replicate (r.length - q.toNat) ((0, 0, 0) : Int × Int × Int)).length : Int) = r.length := by simp; omega
    simp only [T_G, T_map, T_some, Sum.elim_inr, Sum.elim_inl]
    refine ⟨by omega, by omega, by omega, ?_⟩
    rw [List.take_left' (by rw [List.length_take]; omega)]
    exact b4.symm
end Go.Vd

/-! (So2) -/

set_option linter.unusedVariables false
set_option linter.unusedSectionVars false
set_option linter.unusedSimpArgs false
namespace Go.Vd


/-! ### Sorted, and of neighbours that are alike the first -/
section
variable {s : List A3} (hs : ∀ i j : Int, 0 ≤ i → i < j → j < (s.length : Int) → ¬ lt3 (gt s j) (gt s i))
include hs
theorem rise2 {i j : Int} (i0 : 0 ≤ i) (ij : i < j) (j1 : j < (s.length : Int)) : ltk (gt s i) (gt s j) ∨ (key2 (gt s i) (gt s j) ∧ (gt s i).2.2 ≤ (gt s j).2.2) := by
  have := hs i j i0 ij j1
  unfold lt3 at this; unfold ltk key2
  omega
theorem cpt_mem {k : Nat} (hk : k ≤ s.length) : ∀ x ∈ cpt s k, ∃ i : Int, 0 ≤ i ∧ i < k ∧ x = gt s i := by
  induction k with
  | zero => intro x hx; cases hx
  | succ k ih =>
    intro x hx
    simp only [cpt] at hx
    rcases List.mem_append.1 hx with hx | hx
    · obtain ⟨i, i0, i1, e⟩ := ih (by omega) x hx
      exact ⟨i, i0, by omega, e⟩
    · split at hx
      · cases hx
      · exact ⟨k, by omega, by omega, List.mem_singleton.1 hx⟩
theorem cpt_inc {k : Nat} (hk : k ≤ s.length) : (cpt s k).Pairwise ltk := by
  induction k with
  | zero => exact .nil
  | succ k ih =>
    simp only [cpt]
    split
    · rw [List.append_nil]; exact ih (by omega)
    · rename_i hn
      rw [List.pairwise_append]
      refine ⟨ih (by omega), List.pairwise_singleton _ _, fun x hx y hy => ?_⟩
      obtain rfl := List.mem_singleton.1 hy
      obtain ⟨i, i0, i1, rfl⟩ := cpt_mem hs (by omega) x hx
      have hk0 : k ≠ 0 := by omega
      have hn' : ¬ key2 (gt s (k : Int)) (gt s ((k : Int) - 1)) := fun q => hn ⟨hk0, q⟩
      have h1 := rise2 hs (i := (k : Int) - 1) (j := k) (by omega) (by omega) (by omega)
      by_cases e : i = (k : Int) - 1
      · subst e
        unfold ltk key2 at *; omega
      · have h2 := rise2 hs (i := i) (j := (k : Int) - 1) i0 (by omega) (by omega)
        unfold ltk key2 at *; omega
theorem cpt_has {k : Nat} (hk : k ≤ s.length) : ∀ i : Int, 0 ≤ i → i < k → ∃ x ∈ cpt s k, key2 x (gt s i) ∧ x.2.2 ≤ (gt s i).2.2 := by
  induction k with
  | zero => intro i i0 i1; simp at i1; omega
  | succ k ih =>
    intro i i0 i1
    by_cases e : i = (k : Int)
    · subst e
      by_cases hn : k ≠ 0 ∧ key2 (gt s (k : Int)) (gt s ((k : Int) - 1))
      · obtain ⟨x, h1, h2, h3⟩ := ih (by omega) ((k : Int) - 1) (by omega) (by omega)
        refine ⟨x, by simp only [cpt]; exact List.mem_append_left _ h1, ?_, ?_⟩
        · have := hn.2; unfold key2 at *; omega
        · have h4 := rise2 hs (i := (k : Int) - 1) (j := k) (by omega) (by omega) (by omega)
          have := hn.2; unfold ltk key2 at *; omega
      · refine ⟨gt s (k : Int), ?_, ⟨rfl, rfl⟩, Int.le_refl _⟩
        simp only [cpt]
        rw [if_neg hn]
        exact List.mem_append_right _ (List.mem_singleton.2 rfl)
    · obtain ⟨x, h1, h2⟩ := ih (by omega) i i0 (by omega)
      exact ⟨x, by simp only [cpt]; exact List.mem_append_left _ h1, h2⟩
end

def noLp (a : A3) : Bool := !decide (a.1 = a.2.1)
theorem nrm_of {A F s : List A3} (hF : F = A.filter noLp) (hp : s.Perm F) (hs : s.Pairwise fun x y => ¬ lt3 y x) : Nrm A (cpt s s.length) := by
  have hs' : ∀ i j : Int, 0 ≤ i → i < j → j < (s.length : Int) → ¬ lt3 (gt s j) (gt s i) := fun i j i0 ij j1 => by
    obtain ⟨i, rfl⟩ := Int.eq_ofNat_of_zero_le i0
    obtain ⟨j, rfl⟩ := Int.eq_ofNat_of_zero_le (show 0 ≤ j by omega)
    rw [gt_nat (show i < s.length by omega), gt_nat (show j < s.length by omega)]
    exact List.pairwise_iff_getElem.1 hs i j (by omega) (by omega) (by omega)
  have mem : ∀ x, x ∈ s ↔ (x ∈ A ∧ x.1 ≠ x.2.1) := fun x => by
    rw [hp.mem_iff, hF, List.mem_filter]; simp [noLp]
  have inc := cpt_inc hs' (Nat.le_refl _)
  refine ⟨inc, fun a ha => ?_, fun a ha hn => ?_⟩
  · obtain ⟨i, i0, i1, e⟩ := cpt_mem hs' (Nat.le_refl _) a ha
    have hm := (mem a).1 (by rw [e]; exact gt_mem i0 i1)
    refine ⟨hm.1, hm.2, fun b hb hk => ?_⟩
    have hbn : b.1 ≠ b.2.1 := by have := hm.2; unfold key2 at hk; omega
    obtain ⟨j, j0, j1, rfl⟩ := mem_gtE ((mem b).2 ⟨hb, hbn⟩)
    obtain ⟨x, x1, x2, x3⟩ := cpt_has hs' (Nat.le_refl _) j j0 j1
    have : x = a := inc_key inc x1 ha (by unfold key2 at *; omega)
    rw [← this]; exact x3
  · obtain ⟨j, j0, j1, rfl⟩ := mem_gtE ((mem a).2 ⟨ha, hn⟩)
    obtain ⟨x, x1, x2, _⟩ := cpt_has hs' (Nat.le_refl _) j j0 j1
    exact ⟨x, x1, x2⟩

end Go.Vd

/-! (So3) -/

set_option linter.unusedVariables false
set_option linter.unusedSimpArgs false
namespace Go.Vd
variable {N : Int} {A L : List A3}

/-- What the normal graph of a graph is. -/
inductive OfA (N : Int) (A : List A3) : Int → List A3 → Er → Prop
  | bad (er : Er) : GChk N A er → er ≠ .nil → OfA N A 0 [] er
  | ok (L : List A3) : GChk N A .nil → Nrm A L → L.length ≤ A.length → OfA N A N L .nil

theorem p_Of : T (z_normal_Of N A) fun r => OfA N A r.1 r.2.1 r.2.2 := by
  unfold z_normal_Of
  refine T_bindr _ p_gCheck fun er hc => ?_
  rw [T_ite]
  refine ⟨fun he => ?_, fun he => by simp only [T_some]; exact .bad er hc he⟩
  subst he
  obtain ⟨n0, n1, n2⟩ := hc.small
  refine T_bindr (fun c => c = A.filter noLp) ?_ ?_
  · refine T_loop (fun z => 0 ≤ z.1 ∧ z.1 ≤ (A.length : Int) ∧ z.2 = (A.take z.1.toNat).filter noLp) (fun z => ((A.length : Int) - z.1).toNat) ?_ ⟨by simp, by simp, by simp⟩
    rintro ⟨i, c⟩ ⟨i0, i1, e⟩
    dsimp only at *
    subst e
    unfold z_normal_Of_l0
    rw [T_ite]
    refine ⟨fun hlt => ?_, fun hge => ?_⟩
    rotate_left
    · simp only [T_some, Sum.elim_inr]
      rw [List.take_of_length_le (by omega)]
    have hll := List.length_filter_le noLp (A.take i.toNat)
    have hlt2 : (A.take i.toNat).length ≤ A.length := by rw [List.length_take]; omega
    have next : (A.take (i + 1).toNat).filter noLp = (A.take i.toNat).filter noLp ++ if (gt A i).1 = (gt A i).2.1 then [] else [gt A i] := by
      rw [take_gtE i0 hlt, List.filter_append]
      congr 1
      by_cases h : (gt A i).1 = (gt A i).2.1 <;> simp [List.filter, noLp, h]
    simp only [T_G, T_ite, T_some, Sum.elim_inl]
    refine ⟨i0, fun h => ⟨by omega, ⟨by omega, by omega, ?_⟩, by omega⟩, fun h => ⟨by omega, by omega, ⟨by omega, by omega, ?_⟩, by omega⟩⟩
    · rw [next, if_pos h, List.append_nil]
    · rw [next, if_neg h]
  · rintro _ rfl
    have hll := List.length_filter_le noLp A
    rw [T_G, p_sort, Option.bind_some]
    refine ⟨by omega, ?_⟩
    have hp := sortL_perm ord3 (A.filter noLp)
    have hlen := hp.length_eq
    refine T_bindr _ (p_Compact (by omega)) fun r hr => ?_
    simp only [T_some]
    rw [hr]
    refine .ok _ hc (nrm_of rfl hp (sort_rise _)) ?_
    have := cpt_len (sortL ord3 (A.filter noLp)) (sortL ord3 (A.filter noLp)).length
    omega

theorem GChk.nrm (h : GChk N A .nil) (k : Nrm A L) (hl : L.length ≤ A.length) : GChk N L .nil := by
  obtain ⟨n0, n1, n2⟩ := h.small
  exact .of_arcs n0 n1 (by omega) fun a ha => h.arcs a (k.sub a ha).1
end Go.Vd

/-! (PrPu) -/


/-! (PrGo) -/

set_option linter.unusedVariables false
set_option linter.unusedSectionVars false
set_option linter.unusedSimpArgs false
namespace Go.Vd
variable {N : Int} {A L : List A3}

theorem p_gDocOf : T (z_viaductref04_DocOf N A) fun r => ∃ er, OfA N A r.1 r.2.1 er ∧ r.2.2.1 = er.code ∧ r.2.2.2 = er.pls := by
  unfold z_viaductref04_DocOf
  refine T_bindr _ p_gDocCheck ?_
  rintro _ ⟨er, hc, rfl⟩
  dsimp only
  rw [p_Bad, Option.bind_some, T_ite]
  refine ⟨fun h => ?_, fun h => ?_⟩
  · simp only [T_some]
    exact ⟨er, .bad er hc (hc.bad.1 (by simpa using h)), rfl, rfl⟩
  · have he : er = .nil := Classical.byContradiction fun k => h (by simpa using hc.bad.2 k)
    subst he
    refine T_bindr _ (p_rOf hc.small.2.2) ?_
    rintro ⟨n, c⟩ ⟨e, h1, h2⟩
    dsimp only at *
    subst e
    simp only [T_some]
    exact ⟨.nil, .ok c hc h1 h2, rfl, rfl⟩
theorem OfA.uniq {n m : Int} {l k : List A3} {er er' : Er} (h : OfA N A n l er) (h' : OfA N A m k er') : n = m ∧ l = k ∧ er = er' := by
  cases h with
  | bad _ c1 n1 =>
    cases h' with
    | bad _ c2 n2 => exact ⟨rfl, rfl, c1.uniq c2⟩
    | ok _ c2 _ _ => exact absurd (c1.uniq c2) n1
  | ok _ c1 m1 _ =>
    cases h' with
    | bad _ c2 n2 => exact absurd (c2.uniq c1) n2
    | ok _ c2 m2 _ => exact ⟨rfl, m1.uniq m2, rfl⟩

end Go.Vd

/-! (So4) -/

set_option linter.unusedVariables false
set_option linter.unusedSectionVars false
set_option linter.unusedSimpArgs false
namespace Go.Vd
variable {N : Int} {A L : List A3} {F T' W : List Int}

def cnt (L : List A3) (v : Int) : Int := ((L.filter fun a => decide (a.1 < v)).length : Int)
def cq (L : List A3) (v : Int) : Int := ((L.filter fun a => decide (a.1 = v)).length : Int)
theorem cnt_succ (L : List A3) (v : Int) : cnt L (v + 1) = cnt L v + cq L v := by
  unfold cnt cq
  induction L with
  | nil => rfl
  | cons a L ih =>
    simp only [List.filter_cons]
    by_cases h1 : a.1 < v
    · rw [if_pos (by simp; omega), if_pos (by simpa using h1), if_neg (by simp; omega)]
      simp only [List.length_cons]; omega
    · by_cases h2 : a.1 = v
      · rw [if_pos (by simp; omega), if_neg (by simpa using h1), if_pos (by simpa using h2)]
        simp only [List.length_cons]; omega
      · rw [if_neg (by simp; omega), if_neg (by simpa using h1), if_neg (by simpa using h2)]; exact ih
theorem cnt_le (L : List A3) (v : Int) : 0 ≤ cnt L v ∧ cnt L v ≤ L.length := by
  unfold cnt; have := List.length_filter_le (fun a : A3 => decide (a.1 < v)) L; omega
theorem cq_le (L : List A3) (v : Int) : 0 ≤ cq L v ∧ cq L v ≤ L.length := by
  unfold cq; have := List.length_filter_le (fun a : A3 => decide (a.1 = v)) L; omega
theorem cnt_none {v : Int} (h : ∀ a ∈ L, v ≤ a.1) : cnt L v = 0 := by
  unfold cnt
  rw [List.filter_eq_nil_iff.2 fun a ha => by have := h a ha; simp; omega]; rfl
theorem cnt_all {v : Int} (h : ∀ a ∈ L, a.1 < v) : cnt L v = L.length := by
  unfold cnt
  rw [List.filter_eq_self.2 fun a ha => by have := h a ha; simpa using this]
theorem cq_snoc (l : List A3) (a : A3) (v : Int) : cq (l ++ [a]) v = cq l v + if a.1 = v then 1 else 0 := by
  unfold cq
  rw [List.filter_append, List.length_append]
  by_cases h : a.1 = v <;> simp [List.filter, h]

theorem idx_nat : ∀ {L : List A3} {v : Int}, L.Pairwise (fun a b => a.1 ≤ b.1) → ∀ (i : Nat) (h : i < L.length), (L[i].1 < v ↔ (i : Int) < cnt L v) := by
  intro L v
  induction L with
  | nil => intro _ i h; simp at h
  | cons a L ih =>
    intro hp i h
    obtain ⟨h1, h2⟩ := List.pairwise_cons.1 hp
    by_cases ha : a.1 < v
    · have hc : cnt (a :: L) v = cnt L v + 1 := by
        unfold cnt; rw [List.filter_cons, if_pos (by simpa using ha)]; simp
      cases i with
      | zero => simp only [List.getElem_cons_zero]; have := (cnt_le L v).1; constructor <;> intro <;> omega
      | succ i =>
        simp only [List.getElem_cons_succ]
        have := ih h2 i (by simpa using h)
        rw [this, hc]; omega
    · have hz : cnt (a :: L) v = 0 := cnt_none fun b hb => by
        rcases List.mem_cons.1 hb with rfl | hb
        · omega
        · have := h1 b hb; omega
      rw [hz]
      constructor
      · intro hi
        cases i with
        | zero => simp only [List.getElem_cons_zero] at hi; omega
        | succ i =>
          simp only [List.getElem_cons_succ] at hi
          have := h1 _ (List.getElem_mem (show i < L.length by simpa using h)); omega
      · intro hi; omega
theorem inc_le (h : L.Pairwise ltk) : L.Pairwise (fun a b => a.1 ≤ b.1) := h.imp fun h => by unfold ltk at h; omega
theorem idx_cnt (h : L.Pairwise ltk) {i v : Int} (i0 : 0 ≤ i) (i1 : i < (L.length : Int)) : (gt L i).1 < v ↔ i < cnt L v := by
  obtain ⟨i, rfl⟩ := Int.eq_ofNat_of_zero_le i0
  rw [gt_nat (by omega)]
  exact idx_nat (inc_le h) i (by omega)

/-- The arrays of a list of arcs. -/
structure Flat (N : Int) (L : List A3) (F T' W : List Int) : Prop where
  lf : (F.length : Int) = N + 1
  lt : T'.length = L.length
  lw : W.length = L.length
  ft : ∀ v, 0 ≤ v → v ≤ N → gt F v = cnt L v
  tw : ∀ i, 0 ≤ i → i < (L.length : Int) → gt T' i = (gt L i).2.1 ∧ gt W i = (gt L i).2.2

theorem gt_mapE {E : Type} [Inhabited E] {l : List E} {f : E → Int} {i : Int} (i0 : 0 ≤ i) (i1 : i < (l.length : Int)) : gt (l.map f) i = f (gt l i) := by
  obtain ⟨i, rfl⟩ := Int.eq_ofNat_of_zero_le i0
  rw [gt_nat (show i < (l.map f).length by simp; omega), gt_nat (by omega)]; simp
theorem gt_rep0 {m : Nat} {x : Int} : gt (List.replicate m (0 : Int)) x = 0 := by
  simp [gt, List.getD_eq_getElem?_getD, List.getElem?_replicate]
  split <;> rfl

theorem p_flat (hg : GChk N L .nil) : T (z_csr_flat N L) fun r => Flat N L r.1 r.2.1 r.2.2 := by
  obtain ⟨n0, n1, n2⟩ := hg.small
  have ha := hg.arcs
  have hz : cnt L 0 = 0 := cnt_none fun a h => (ha a h).1
  unfold z_csr_flat
  simp only [T_G]
  refine ⟨by omega, by omega, ?_⟩
  refine T_bindr (fun r => (r.1.length : Int) = N + 1 ∧ gt r.1 0 = 0 ∧ (∀ u, 0 ≤ u → u < N → gt r.1 (u + 1) = cq L u) ∧ r.2.1 = L.map (fun a => a.2.1) ∧ r.2.2 = L.map (fun a => a.2.2)) ?_ ?_
  · refine T_loop (fun z => 0 ≤ z.1 ∧ z.1 ≤ (L.length : Int) ∧ (z.2.1.length : Int) = N + 1 ∧ gt z.2.1 0 = 0 ∧ (∀ u, 0 ≤ u → u < N → gt z.2.1 (u + 1) = cq (L.take z.1.toNat) u) ∧ z.2.2.1 = (L.take z.1.toNat).map (fun a => a.2.1) ∧ z.2.2.2 = (L.take z.1.toNat).map (fun a => a.2.2)) (fun z => ((L.length : Int) - z.1).toNat) ?_ ⟨by simp, by simp, by simp; omega, gt_rep0, fun u u0 u1 => by dsimp only; rw [gt_rep0]; simp [cq], by simp, by simp⟩
    rintro ⟨i, c1, c2, c3⟩ ⟨i0, i1, h1, h2, h3, h4, h5⟩
    dsimp only at *
    subst h4; subst h5
    unfold z_csr_flat_l0
    rw [T_ite]
    refine ⟨fun hlt => ?_, fun hge => ?_⟩
    rotate_left
    · simp only [T_some, Sum.elim_inr]
      rw [List.take_of_length_le (by omega)] at *
      exact ⟨h1, h2, h3, rfl, rfl⟩
    obtain ⟨a1, a2, a3, a4, a5, a6⟩ := ha _ (gt_mem i0 hlt)
    have hq := h3 (gt L i).1 a1 a2
    have hq2 := cq_le (L.take i.toNat) (gt L i).1
    have htl : (L.take i.toNat).length = i.toNat := by rw [List.length_take]; omega
    have nx := take_gtE i0 hlt
    simp only [T_G, T_some, Sum.elim_inl, List.length_map, htl]
    refine ⟨i0, by omega, by omega, by omega, by omega, by omega, by omega, ⟨by omega, by omega, by simpa using h1, ?_, fun u u0 u1 => ?_, ?_, ?_⟩, by omega⟩
    · rw [gt_setE (by omega) (by omega) (by omega), if_neg (by omega)]; exact h2
    · rw [gt_setE (by omega) (by omega) (by omega), nx, cq_snoc]
      by_cases e : u = (gt L i).1
      · rw [if_pos (by omega), if_pos e.symm, e, hq]
      · rw [if_neg (by omega), if_neg (fun q => e q.symm), h3 u u0 u1]; omega
    · rw [nx, List.map_append]; rfl
    · rw [nx, List.map_append]; rfl
  · rintro ⟨c1, c2, c3⟩ ⟨h1, h2, h3, h4, h5⟩
    dsimp only at *
    subst h4; subst h5
    refine T_bindr (fun r => (r.length : Int) = N + 1 ∧ ∀ v, 0 ≤ v → v ≤ N → gt r v = cnt L v) ?_ ?_
    · refine T_loop (fun z => 0 ≤ z.2 ∧ z.2 ≤ N ∧ (z.1.length : Int) = N + 1 ∧ (∀ v, 0 ≤ v → v ≤ z.2 → gt z.1 v = cnt L v) ∧ ∀ v, z.2 ≤ v → v < N → gt z.1 (v + 1) = cq L v) (fun z => (N - z.2).toNat) ?_ ⟨by simp, n0, h1, fun v v0 v1 => by dsimp only at v1 ⊢; rw [show v = 0 from by omega, h2, hz], fun v v0 v1 => h3 v v0 v1⟩
      rintro ⟨c, i⟩ ⟨i0, i1, g1, g2, g3⟩
      dsimp only at *
      unfold z_csr_flat_l1
      rw [T_ite]
      refine ⟨fun hlt => ?_, fun hge => ?_⟩
      rotate_left
      · simp only [T_some, Sum.elim_inr]
        exact ⟨g1, fun v v0 v1 => g2 v v0 (by omega)⟩
      have e1 := g2 i i0 (by omega)
      have e2 := g3 i (by omega) hlt
      have l1 := cnt_le L i; have l2 := cq_le L i
      have hs := cnt_succ L i
      simp only [T_G, T_some, Sum.elim_inl]
      refine ⟨by omega, by omega, by omega, by omega, by omega, ⟨by omega, by omega, by simpa using g1, fun v v0 v1 => ?_, fun v v0 v1 => ?_⟩, by omega⟩
      · rw [gt_setE (by omega) (by omega) v0]
        by_cases e : v = i + 1
        · rw [if_pos e, e]; omega
        · rw [if_neg e]; exact g2 v v0 (by omega)
      · rw [gt_setE (by omega) (by omega) (by omega), if_neg (by omega)]; exact g3 v (by omega) v1
    · rintro r ⟨g1, g2⟩
      simp only [T_some]
      exact ⟨g1, by simp, by simp, g2, fun i i0 i1 => ⟨gt_mapE i0 i1, gt_mapE i0 i1⟩⟩

section
variable (hf : Flat N L F T' W) (hi : L.Pairwise ltk) (hg : GChk N L .nil)
include hf hi hg
theorem Flat.row {u j : Int} (u0 : 0 ≤ u) (u1 : u < N) : In F u j ↔ (0 ≤ j ∧ j < (L.length : Int) ∧ (gt L j).1 = u) := by
  have lf := hf.lf
  have e1 := hf.ft u u0 (by omega)
  have e2 := hf.ft (u + 1) (by omega) (by omega)
  have l1 := cnt_le L u; have l2 := cnt_le L (u + 1)
  unfold In
  constructor
  · rintro ⟨_, _, h1, h2⟩
    have k1 := idx_cnt hi (i := j) (v := u) (by omega) (by omega)
    have k2 := idx_cnt hi (i := j) (v := u + 1) (by omega) (by omega)
    refine ⟨by omega, by omega, ?_⟩
    have a1 : ¬ (gt L j).1 < u := fun q => by have := k1.1 q; omega
    have a2 := k2.2 (by omega)
    omega
  · rintro ⟨h1, h2, h3⟩
    have k1 := idx_cnt hi (i := j) (v := u) h1 h2
    have k2 := idx_cnt hi (i := j) (v := u + 1) h1 h2
    have a1 : ¬ j < cnt L u := fun q => by have := k1.2 q; omega
    have a2 := k2.1 (by omega)
    exact ⟨u0, by omega, by omega, by omega⟩
theorem Flat.arcw {u x w : Int} : Arcw F T' W u x w ↔ (u, x, w) ∈ L := by
  have lf := hf.lf
  constructor
  · rintro ⟨j, hI, h1, h2⟩
    have u0 := hI.1; have u1 := hI.2.1
    obtain ⟨j0, j1, e⟩ := (hf.row hi hg u0 (by omega)).1 hI
    obtain ⟨t1, t2⟩ := hf.tw j j0 j1
    have : (u, x, w) = gt L j := eq3 e.symm (by dsimp only; omega) (by dsimp only; omega)
    rw [this]; exact gt_mem j0 j1
  · intro h
    obtain ⟨j, j0, j1, e⟩ := mem_gtE h
    have ha := hg.arcs _ h
    dsimp only at ha
    obtain ⟨t1, t2⟩ := hf.tw j j0 j1
    rw [← e] at t1 t2
    refine ⟨j, (hf.row hi hg ha.1 ha.2.1).2 ⟨j0, j1, by rw [← e]⟩, t1, t2.symm⟩
theorem Flat.chk (hn : ∀ a ∈ L, a.1 ≠ a.2.1) : Chk F T' W .nil := by
  obtain ⟨n0, n1, n2⟩ := hg.small
  have lf := hf.lf; have lt := hf.lt; have lw := hf.lw
  have ha := hg.arcs
  have e0 := hf.ft 0 (by omega) n0
  have en := hf.ft N n0 (by omega)
  rw [cnt_none fun a h => (ha a h).1] at e0
  rw [cnt_all fun a h => (ha a h).2.1] at en
  have hlast : (F.length : Int) - 1 = N := by omega
  refine .ok ⟨by omega, e0, by rw [hlast]; omega, by omega⟩ ⟨by omega, by omega⟩ (fun u u0 u1 => ?_) fun u j hI => ?_
  · rw [hf.ft u u0 (by omega), hf.ft (u + 1) (by omega) (by omega), cnt_succ]
    have := cq_le L u; omega
  · have u0 := hI.1; have u1 := hI.2.1
    obtain ⟨j0, j1, e⟩ := (hf.row hi hg u0 (by omega)).1 hI
    obtain ⟨t1, t2⟩ := hf.tw j j0 j1
    have hm := gt_mem j0 j1
    obtain ⟨a1, a2, a3, a4, a5, a6⟩ := ha _ hm
    have hne := hn _ hm
    refine arcNo_0 (by omega) (by omega) ?_ (by omega) (by omega)
    rintro (h | ⟨h1, h2⟩)
    · omega
    · have hI2 : In F u (j - 1) := ⟨u0, u1, by omega, by have := hI.2.2.2; omega⟩
      obtain ⟨q0, q1, q2⟩ := (hf.row hi hg u0 (by omega)).1 hI2
      obtain ⟨s1, s2⟩ := hf.tw (j - 1) q0 q1
      have hlt : ltk (gt L (j - 1)) (gt L j) := by
        obtain ⟨m, hm⟩ := Int.eq_ofNat_of_zero_le q0
        have hj : j = ((m + 1 : Nat) : Int) := by omega
        rw [hm, hj, gt_nat (show m < L.length by omega), gt_nat (show m + 1 < L.length by omega)]
        exact List.pairwise_iff_getElem.1 hi m (m + 1) (by omega) (by omega) (by omega)
      unfold ltk at hlt
      omega
end

/-- What the arrays of a graph are. -/
inductive BldA (N : Int) (A : List A3) : List Int → List Int → List Int → Er → Prop
  | bad (er : Er) : GChk N A er → er ≠ .nil → BldA N A [] [] [] er
  | ok (L : List A3) (F T' W : List Int) : GChk N A .nil → Nrm A L → L.length ≤ A.length → Flat N L F T' W → BldA N A F T' W .nil
theorem p_Build : T (z_csr_Build N A) fun r => BldA N A r.1 r.2.1 r.2.2.1 r.2.2.2 := by
  unfold z_csr_Build
  refine T_bindr _ p_Of ?_
  rintro ⟨n, l, er⟩ h
  dsimp only at *
  cases h with
  | bad _ h1 h2 => rw [if_neg h2]; simp only [T_some]; exact .bad er h1 h2
  | ok _ h1 h2 h3 =>
    rw [if_pos rfl]
    refine T_bindr _ (p_flat (h1.nrm h2 h3)) ?_
    rintro ⟨F, T', W⟩ hf
    simp only [T_some]
    exact .ok l F T' W h1 h2 h3 hf
/-- What the arrays of right graphs are good for. -/
theorem BldA.use {er : Er} (h : BldA N A F T' W er) (hg : GChk N A .nil) : er = .nil ∧ ∃ L, Nrm A L ∧ GChk N L .nil ∧ Flat N L F T' W ∧ Chk F T' W .nil ∧ (F.length : Int) = N + 1 ∧ ∀ u x w, Arcw F T' W u x w ↔ (u, x, w) ∈ L := by
  cases h with
  | bad _ h1 h2 => exact absurd (h1.uniq hg) h2
  | ok L _ _ _ h1 h2 h3 h4 =>
    have hgl := h1.nrm h2 h3
    exact ⟨rfl, L, h2, hgl, h4, h4.chk h2.inc hgl (fun a ha => (h2.sub a ha).2.1), h4.lf, fun u x w => h4.arcw h2.inc hgl⟩
end Go.Vd

/-! (PrRb) -/

set_option linter.unusedVariables false
set_option linter.unusedSimpArgs false
namespace Go.Vd
variable {N : Int} {A L : List A3} {F T' W F2 T2 W2 : List Int}
theorem Flat.uniq (h : Flat N L F T' W) (k : Flat N L F2 T2 W2) : F = F2 ∧ T' = T2 ∧ W = W2 := by
  have := h.lf; have := k.lf; have := h.lt; have := k.lt; have := h.lw; have := k.lw
  refine ⟨list_gtE (by omega) fun j j0 j1 => ?_, list_gtE (by omega) fun j j0 j1 => ?_, list_gtE (by omega) fun j j0 j1 => ?_⟩
  · rw [h.ft j j0 (by omega), k.ft j j0 (by omega)]
  · rw [(h.tw j j0 (by omega)).1, (k.tw j j0 (by omega)).1]
  · rw [(h.tw j j0 (by omega)).2, (k.tw j j0 (by omega)).2]
theorem p_rBuild (hi : L.Pairwise ltk) (hg : GChk N L .nil) : T (z_viaductref05_Build N L) fun r => Flat N L r.1 r.2.1 r.2.2 := by
  obtain ⟨n0, n1, n2⟩ := hg.small
  have ha := hg.arcs
  have hz : cnt L 0 = 0 := cnt_none fun a h => (ha a h).1
  have hN : cnt L N = L.length := cnt_all fun a h => (ha a h).2.1
  unfold z_viaductref05_Build
  refine T_bindr (fun r => Flat N L r.1 r.2.1 r.2.2) ?_ (by rintro ⟨a, b, c⟩ h; simp only [T_some]; exact h)
  refine T_loop (fun z => 0 ≤ z.2.2.2.2 ∧ z.2.2.2.2 ≤ N ∧ (z.1.length : Int) = z.2.2.2.2 + 1 ∧ (∀ u, 0 ≤ u → u ≤ z.2.2.2.2 → gt z.1 u = cnt L u) ∧ z.2.2.2.1 = cnt L z.2.2.2.2 ∧ z.2.1 = (L.take z.2.2.2.1.toNat).map (fun a => a.2.1) ∧ z.2.2.1 = (L.take z.2.2.2.1.toNat).map (fun a => a.2.2)) (fun z => (N - z.2.2.2.2).toNat) ?_ ⟨by simp, n0, by simp, fun u u0 u1 => ?_, hz.symm, by simp, by simp⟩
  rotate_left
  · dsimp only at u1
    rw [show u = 0 from by omega, hz]; rfl
  rintro ⟨c, t, w, i, v⟩ ⟨v0, v1, h1, h2, h3, h4, h5⟩
  dsimp only at *
  unfold z_viaductref05_Build_l1
  rw [T_ite]
  refine ⟨fun hlt => ?_, fun hge => ?_⟩
  rotate_left
  · have e : v = N := by omega
    subst e
    simp only [T_some, Sum.elim_inr]
    rw [h3, hN] at h4 h5
    rw [List.take_of_length_le (by omega)] at h4 h5
    subst h4; subst h5
    exact ⟨h1, by simp, by simp, h2, fun i i0 i1 => ⟨gt_mapE i0 i1, gt_mapE i0 i1⟩⟩
  have l1 := cnt_le L v; have l2 := cnt_le L (v + 1)
  have hs := cnt_succ L v; have hq := cq_le L v
  refine T_bindr (fun r => r.2.2 = cnt L (v + 1) ∧ r.1 = (L.take r.2.2.toNat).map (fun a => a.2.1) ∧ r.2.1 = (L.take r.2.2.toNat).map (fun a => a.2.2)) ?_ ?_
  · refine T_loop (fun z => cnt L v ≤ z.2.2 ∧ z.2.2 ≤ cnt L (v + 1) ∧ z.1 = (L.take z.2.2.toNat).map (fun a => a.2.1) ∧ z.2.1 = (L.take z.2.2.toNat).map (fun a => a.2.2)) (fun z => (cnt L (v + 1) - z.2.2).toNat) ?_ ⟨by dsimp only; omega, by dsimp only; omega, h4, h5⟩
    rintro ⟨t, w, j⟩ ⟨j0, j1, g1, g2⟩
    dsimp only at *
    unfold z_viaductref05_Build_l0
    refine T_bindr (fun b => b = true ↔ j < cnt L (v + 1)) ?_ fun b hb => ?_
    · simp only [T_ite, T_G, T_some]
      refine ⟨fun h => ⟨by omega, ?_⟩, fun h => by simp; omega⟩
      have c1 := idx_cnt hi (i := j) (by omega) h (v := v)
      have c2 := idx_cnt hi (i := j) (by omega) h (v := v + 1)
      simp only [decide_eq_true_eq]
      omega
    · simp only [T_ite, T_G, T_some, Sum.elim_inl, Sum.elim_inr]
      refine ⟨fun h => ?_, fun h => ?_⟩
      · have hj := hb.1 h
        have hlt2 : j < (L.length : Int) := by omega
        have htl : (L.take j.toNat).length = j.toNat := by rw [List.length_take]; omega
        have nx := take_gtE (l := L) (i := j) (by omega) hlt2
        subst g1; subst g2
        simp only [List.length_map, htl]
        refine ⟨by omega, by omega, by omega, by omega, ⟨by omega, by omega, ?_, ?_⟩, by omega⟩
        · rw [nx, List.map_append]; rfl
        · rw [nx, List.map_append]; rfl
      · have : ¬ j < cnt L (v + 1) := fun k => h (hb.2 k)
        exact ⟨by omega, g1, g2⟩
  · rintro ⟨t, w, j⟩ ⟨e, g1, g2⟩
    dsimp only at *
    simp only [T_G, T_some, Sum.elim_inl, List.length_append, List.length_cons, List.length_nil]
    refine ⟨by omega, by omega, ⟨by omega, by omega, by omega, fun u u0 u1 => ?_, e, g1, g2⟩, by omega⟩
    by_cases q : u = v + 1
    · rw [q, ← e]
      have : gt (c ++ [j]) ((c.length : Nat) : Int) = j := by
        rw [gt_nat (by simp)]; simp
      rw [show v + 1 = (c.length : Int) from by omega]; exact this
    · have : gt (c ++ [j]) u = gt c u := by
        unfold gt
        rw [List.getD_eq_getElem?_getD, List.getD_eq_getElem?_getD, List.getElem?_append_left (by omega)]
      rw [this]; exact h2 u u0 (by omega)

end Go.Vd

/-! (PrBe) -/

set_option linter.unusedVariables false
set_option linter.unusedSimpArgs false
namespace Go.Vd
variable {N : Int} {A L : List A3} {F T' W F2 T2 W2 : List Int}
theorem p_gDocBuild : T (z_viaductref05_DocBuild N A) fun r => ∃ er, BldA N A r.1 r.2.1 r.2.2.1 er ∧ r.2.2.2.1 = er.code ∧ r.2.2.2.2 = er.pls := by
  unfold z_viaductref05_DocBuild
  refine T_bindr _ p_gDocOf ?_
  rintro ⟨n, l, c, ps⟩ ⟨er, h, e1, e2⟩
  dsimp only at *
  subst e1; subst e2
  rw [p_Bad, Option.bind_some, T_ite]
  cases h with
  | bad _ c n =>
    refine ⟨fun _ => ?_, fun h => absurd (decide_eq_true (c.bad.2 n)) h⟩
    simp only [T_some]
    exact ⟨er, .bad er c n, rfl, rfl⟩
  | ok _ c k e =>
    refine ⟨fun h => by simp [Er.code, Er.pls] at h, fun _ => ?_⟩
    refine T_bindr _ (p_rBuild k.inc (c.nrm k e)) ?_
    rintro ⟨F, T', W⟩ hf
    simp only [T_some]
    exact ⟨.nil, .ok l F T' W c k e hf, rfl, rfl⟩
theorem BldA.uniq {er er' : Er} (h : BldA N A F T' W er) (h' : BldA N A F2 T2 W2 er') : F = F2 ∧ T' = T2 ∧ W = W2 ∧ er = er' := by
  cases h with
  | bad _ c1 n1 =>
    cases h' with
    | bad _ c2 n2 => exact ⟨rfl, rfl, rfl, c1.uniq c2⟩
    | ok _ _ _ _ c2 _ _ _ => exact absurd (c1.uniq c2) n1
  | ok _ _ _ _ c1 k1 _ f1 =>
    cases h' with
    | bad _ c2 n2 => exact absurd (c2.uniq c1) n2
    | ok _ _ _ _ c2 k2 _ f2 =>
      obtain rfl := k1.uniq k2
      obtain ⟨rfl, rfl, rfl⟩ := f1.uniq f2
      exact ⟨rfl, rfl, rfl, rfl⟩
theorem BldA.len {er : Er} (h : BldA N A F T' W er) : (F.length : Int) ≤ 65537 ∧ (T'.length : Int) ≤ 262144 ∧ (W.length : Int) ≤ 262144 := by
  cases h with
  | bad _ c n => simp
  | ok L _ _ _ c k e f => have := c.small; have := f.lf; have := f.lt; have := f.lw; omega
end Go.Vd

/-! (ChkU) -/

namespace Go.Vd
variable {F T' W l : List Int}

theorem Chk.uniq {er er' : Er} (h : Chk F T' W er) (k : Chk F T' W er') : er = er' := by
  cases h with
  | shape h1 =>
    cases k with
    | shape _ => rfl
    | limit k1 _ => exact absurd k1 h1
    | mono v k1 => exact absurd k1 h1
    | arc v i k1 => exact absurd k1 h1
    | ok k1 => exact absurd k1 h1
  | limit h1 h2 =>
    cases k with
    | shape k1 => exact absurd h1 k1
    | limit _ _ => rfl
    | mono v _ k2 => exact absurd k2 h2
    | arc v i _ k2 => exact absurd k2 h2
    | ok _ k2 => exact absurd k2 h2
  | mono v h1 h2 h3 h4 h5 h6 =>
    cases k with
    | shape k1 => exact absurd h1 k1
    | limit _ k2 => exact absurd h2 k2
    | mono v' _ _ k3 k4 k5 k6 =>
      have : v = v' := by
        rcases Int.lt_trichotomy v v' with q | q | q
        · have := k6 v h3 q; omega
        · exact q
        · have := h6 v' k3 q; omega
      rw [this]
    | arc v' i _ _ k3 => have := k3 v h3 h4; omega
    | ok _ _ k3 => have := k3 v h3 h4; omega
  | arc v i h1 h2 h3 h4 h5 h6 =>
    cases k with
    | shape k1 => exact absurd h1 k1
    | limit _ k2 => exact absurd h2 k2
    | mono v' _ _ k3 k4 k5 k6 => have := h3 v' k3 k4; omega
    | arc v' i' _ _ _ k4 k5 k6 =>
      have e : i = i' := by
        rcases Int.lt_trichotomy i i' with q | q | q
        · exact absurd (k6 v i h4 q) h5
        · exact q
        · exact absurd (h6 v' i' k4 q) k5
      subst e
      rw [In.uniq h3 h4 k4]
    | ok _ _ _ k4 => exact absurd (k4 v i h4) h5
  | ok h1 h2 h3 h4 =>
    cases k with
    | shape k1 => exact absurd h1 k1
    | limit _ k2 => exact absurd h2 k2
    | mono v' _ _ k3 k4 k5 k6 => have := h3 v' k3 k4; omega
    | arc v' i' _ _ _ k4 k5 k6 => exact absurd (h4 v' i' k4) k5
    | ok => rfl

end Go.Vd

/-! (PrRow) -/

set_option linter.unusedVariables false
set_option linter.unusedSimpArgs false
namespace Go.Vd
variable {F T' W : List Int}

/-- The arcs from a node. -/
def RowL (F T' W : List Int) (v : Int) : List (Int × Int × Int) := (List.range (gt F (v + 1) - gt F v).toNat).map fun k => (v, gt T' (gt F v + (k : Nat)), gt W (gt F v + (k : Nat)))
/-- The arcs of the nodes below n. -/
def GrL (F T' W : List Int) (n : Nat) : List (Int × Int × Int) := (List.range n).flatMap fun v => RowL F T' W ((v : Nat) : Int)
theorem GrL.succ {n : Nat} : GrL F T' W (n + 1) = GrL F T' W n ++ RowL F T' W n := by
  simp [GrL, List.range_succ]
theorem RowL.len {v : Int} : (RowL F T' W v).length = (gt F (v + 1) - gt F v).toNat := by simp [RowL]
theorem Chk.inr (hc : Chk F T' W .nil) {v : Int} (v0 : 0 ≤ v) (v1 : v < (F.length : Int) - 1) : 0 ≤ gt F v ∧ gt F v ≤ gt F (v + 1) ∧ gt F (v + 1) ≤ (T'.length : Int) ∧ (T'.length : Int) = W.length ∧ (T'.length : Int) ≤ 262144 ∧ (F.length : Int) ≤ 65537 := by
  obtain ⟨s1, s2, s3, s4⟩ := hc.shp
  obtain ⟨m1, m2⟩ := hc.small
  have a := hc.mon.le (u := 0) (w := v) (by omega) v0 (by omega)
  have b := hc.mon.le (u := v) (w := v + 1) v0 (by omega) (by omega)
  have c := hc.mon.le (u := v + 1) (w := (F.length : Int) - 1) (by omega) (by omega) (by omega)
  omega
theorem GrL.len (hc : Chk F T' W .nil) {n : Nat} (h : (n : Int) ≤ (F.length : Int) - 1) : ((GrL F T' W n).length : Int) = gt F n := by
  induction n with
  | zero => have := hc.shp.2.1; simp [GrL]; exact this.symm
  | succ n ih =>
    have := ih (by omega)
    have h2 := hc.inr (v := (n : Int)) (by omega) (by omega)
    rw [GrL.succ, List.length_append, RowL.len]
    rw [show ((n + 1 : Nat) : Int) = (n : Int) + 1 from by omega]
    omega

theorem row_step {v i : Int} {l : List (Int × Int × Int)} (h : gt F v ≤ i) (e : l = (List.range (i - gt F v).toNat).map fun k => (v, gt T' (gt F v + (k : Nat)), gt W (gt F v + (k : Nat)))) :
    l ++ [(v, gt T' i, gt W i)] = (List.range (i + 1 - gt F v).toNat).map fun k => (v, gt T' (gt F v + (k : Nat)), gt W (gt F v + (k : Nat))) := by
  rw [e, show (i + 1 - gt F v).toNat = (i - gt F v).toNat + 1 from by omega, List.range_succ, List.map_append]
  simp only [List.map_cons, List.map_nil]
  rw [show gt F v + (((i - gt F v).toNat : Nat) : Int) = i from by omega]

theorem p_rowC (hc : Chk F T' W .nil) {v : Int} (v0 : 0 ≤ v) (v1 : v < (F.length : Int) - 1) : z_csr_Csr_row F T' W v = some (RowL F T' W v) := by
  obtain ⟨b1, b2, b3, b4, b5, b6⟩ := hc.inr v0 v1
  refine T_eq.1 ?_
  unfold z_csr_Csr_row
  rw [T_G]
  refine ⟨⟨v0, by omega⟩, T_bindr (fun l => l = RowL F T' W v) ?_ (by rintro _ rfl; simp only [T_some])⟩
  refine T_loop (fun z => gt F v ≤ z.2 ∧ z.2 ≤ gt F (v + 1) ∧ z.1 = (List.range (z.2 - gt F v).toNat).map fun k => (v, gt T' (gt F v + (k : Nat)), gt W (gt F v + (k : Nat)))) (fun z => (gt F (v + 1) - z.2).toNat) ?_ ⟨by simp, b2, by simp⟩
  rintro ⟨l, i⟩ ⟨i0, i1, e⟩
  dsimp only at *
  have hl : l.length = (i - gt F v).toNat := by rw [e]; simp
  unfold z_csr_Csr_row_l0
  simp only [T_G, T_ite, T_some, Sum.elim_inl, Sum.elim_inr, List.length_cons, List.length_nil]
  refine ⟨by omega, by omega, fun h => ⟨by omega, by omega, by omega, by omega, ⟨by omega, by omega, row_step i0 e⟩, by omega⟩, fun h => ?_⟩
  rw [e, show i = gt F (v + 1) from by omega]; rfl

end Go.Vd

/-! (PrRa) -/

set_option linter.unusedVariables false
set_option linter.unusedSimpArgs false
namespace Go.Vd
variable {F T' W : List Int}
theorem Chk.goodR {er : Er} (h : Chk F T' W er) : er.good ∧ er.pls.length ≤ 1 := by
  cases h with
  | shape _ => simp [Er.good, Er.pls]
  | limit _ _ => simp [Er.good, Er.pls]
  | mono _ _ _ _ _ _ _ => simp [Er.good, Er.pls]
  | arc _ _ _ _ _ _ h _ => exact ⟨⟨by simp, h⟩, by simp [Er.pls]⟩
  | ok _ _ _ _ => simp [Er.good, Er.pls]
/-- What is answered for a node's row. -/
inductive RowA (F T' W : List Int) (v : Int) : List (Int × Int × Int) → Er → Prop
  | bad (er : Er) : Chk F T' W er → er ≠ .nil → RowA F T' W v [] er
  | node : Chk F T' W .nil → ¬ (0 ≤ v ∧ v < (F.length : Int) - 1) → RowA F T' W v [] (.no 7)
  | ok : Chk F T' W .nil → 0 ≤ v → v < (F.length : Int) - 1 → RowA F T' W v (RowL F T' W v) .nil
theorem RowA.uniq {v : Int} {l k : List (Int × Int × Int)} {er er' : Er} (h : RowA F T' W v l er) (h' : RowA F T' W v k er') : l = k ∧ er = er' := by
  cases h with
  | bad _ c n1 =>
    cases h' with
    | bad _ c2 _ => exact ⟨rfl, c.uniq c2⟩
    | node c2 _ => exact absurd (c.uniq c2) n1
    | ok c2 _ _ => exact absurd (c.uniq c2) n1
  | node c n =>
    cases h' with
    | bad _ c2 n2 => exact absurd (c2.uniq c) n2
    | node c2 _ => exact ⟨rfl, rfl⟩
    | ok c2 a b => exact absurd ⟨a, b⟩ n
  | ok c a b =>
    cases h' with
    | bad _ c2 n2 => exact absurd (c2.uniq c) n2
    | node c2 n => exact absurd ⟨a, b⟩ n
    | ok c2 _ _ => exact ⟨rfl, rfl⟩
theorem RowA.good {v : Int} {l : List (Int × Int × Int)} {er : Er} (h : RowA F T' W v l er) : er.good ∧ er.pls.length ≤ 1 ∧ l.length ≤ 262144 := by
  cases h with
  | bad _ c _ => exact ⟨c.goodR.1, c.goodR.2, by simp⟩
  | node c _ => exact ⟨by simp [Er.good], by simp [Er.pls], by simp⟩
  | ok c a b =>
    have := c.inr a b
    exact ⟨trivial, by simp [Er.pls], by rw [RowL.len]; omega⟩
theorem RowA.bad' {v : Int} {l : List (Int × Int × Int)} {er : Er} (h : RowA F T' W v l er) : (er.code ≠ 0 ∨ er.pls ≠ []) ↔ er ≠ .nil := by
  cases h with
  | bad _ c _ => exact c.bad
  | node c _ => simp [Er.code]
  | ok c a b => simp [Er.code, Er.pls]

theorem p_Row (hl : F.length ≤ 17592186044160) (ht : T'.length ≤ 17592186044160) {v : Int} : T (z_csr_Row F T' W v) fun r => RowA F T' W v r.1 r.2 := by
  unfold z_csr_Row
  refine T_bindr _ (p_Check hl ht) fun er hc => ?_
  rw [T_ite]
  refine ⟨fun he => ?_, fun he => by simp only [T_some]; exact .bad er hc he⟩
  subst he
  refine T_bindr (fun b => b = true ↔ ¬ (0 ≤ v ∧ v < (F.length : Int) - 1)) ?_ fun b hb => ?_
  · rw [p_nodes hl]
    simp only [T_ite, T_some, Option.bind_some, decide_eq_true_eq, true_iff]
    exact ⟨fun h => by omega, fun h => by omega⟩
  rw [T_ite]
  refine ⟨fun h => by simp only [T_some]; exact .node hc (hb.1 h), fun h => ?_⟩
  have hn : 0 ≤ v ∧ v < (F.length : Int) - 1 := Classical.byContradiction fun k => h (hb.2 k)
  rw [p_rowC hc hn.1 hn.2, Option.bind_some]
  simp only [T_some]
  exact .ok hc hn.1 hn.2
end Go.Vd

/-! (PrGr) -/

set_option linter.unusedVariables false
set_option linter.unusedSimpArgs false
namespace Go.Vd
variable {F T' W : List Int}
/-- What the graph of arrays is. -/
inductive GrA (F T' W : List Int) : Int → List (Int × Int × Int) → Er → Prop
  | bad (er : Er) : Chk F T' W er → er ≠ .nil → GrA F T' W 0 [] er
  | ok : Chk F T' W .nil → GrA F T' W ((F.length : Int) - 1) (GrL F T' W (F.length - 1)) .nil
theorem p_Graph (hl : F.length ≤ 17592186044160) (ht : T'.length ≤ 17592186044160) : T (z_csr_Graph F T' W) fun r => GrA F T' W r.1 r.2.1 r.2.2 := by
  unfold z_csr_Graph
  refine T_bindr _ (p_Check hl ht) fun er hc => ?_
  rw [T_ite]
  refine ⟨fun he => ?_, fun he => by simp only [T_some]; exact .bad er hc he⟩
  subst he
  have s1 := hc.shp.1
  have s3 := hc.shp.2.2.1
  have m2 := hc.small.2
  rw [p_nodes hl, Option.bind_some]
  refine T_bindr (fun l => l = GrL F T' W (F.length - 1)) ?_ (by rintro _ rfl; simp only [T_some]; exact .ok hc)
  refine T_loop (fun z => 0 ≤ z.1 ∧ z.1 ≤ (F.length : Int) - 1 ∧ z.2 = GrL F T' W z.1.toNat) (fun z => ((F.length : Int) - 1 - z.1).toNat) ?_ ⟨by simp, by simpa using s1, by simp [GrL]⟩
  rintro ⟨i, g⟩ ⟨i0, i1, e⟩
  dsimp only at *
  unfold z_csr_Graph_l0
  rw [T_ite]
  refine ⟨fun h => ?_, fun h => ?_⟩
  · obtain ⟨b1, b2, b3, b4, b5, b6⟩ := hc.inr i0 h
    have hg := GrL.len hc (n := i.toNat) (by omega)
    rw [show ((i.toNat : Nat) : Int) = i from by omega] at hg
    rw [p_rowC hc i0 h, Option.bind_some]
    subst e
    simp only [T_G, T_some, Sum.elim_inl, RowL.len]
    refine ⟨by omega, by omega, ⟨by omega, by omega, ?_⟩, by omega⟩
    rw [show (i + 1).toNat = i.toNat + 1 from by omega, GrL.succ, show ((i.toNat : Nat) : Int) = i from by omega]
  · simp only [T_some, Sum.elim_inr]
    rw [e]; congr 1; omega
theorem GrA.ok' {n : Int} {l : List (Int × Int × Int)} {er : Er} (h : GrA F T' W n l er) (hc : Chk F T' W .nil) : n = (F.length : Int) - 1 ∧ l = GrL F T' W (F.length - 1) ∧ er = .nil := by
  cases h with
  | bad _ c n => exact absurd (c.uniq hc) n
  | ok c => exact ⟨rfl, rfl, rfl⟩
end Go.Vd

/-! (PrRq) -/

set_option linter.unusedVariables false
set_option linter.unusedSimpArgs false
namespace Go.Vd
variable {F T' W : List Int}
theorem row_same : z_viaductref05_Row F T' W = z_csr_Csr_row F T' W := by
  funext v
  unfold z_viaductref05_Row z_csr_Csr_row
  have : z_viaductref05_Row_l0 F T' W = z_csr_Csr_row_l0 F T' W := by
    funext v l i
    unfold z_viaductref05_Row_l0 z_csr_Csr_row_l0
    rfl
  rw [this]
theorem p_rowR (hc : Chk F T' W .nil) {v : Int} (v0 : 0 ≤ v) (v1 : v < (F.length : Int) - 1) : z_viaductref05_Row F T' W v = some (RowL F T' W v) := by
  rw [row_same]; exact p_rowC hc v0 v1
theorem p_graphR (hc : Chk F T' W .nil) : z_viaductref05_Graph F T' W = some ((F.length : Int) - 1, GrL F T' W (F.length - 1)) := by
  have s1 := hc.shp.1
  have s3 := hc.shp.2.2.1
  have m1 : (F.length : Int) - 1 ≤ 65536 := hc.small.1
  refine T_eq.1 ?_
  unfold z_viaductref05_Graph
  rw [T_G]
  refine ⟨by omega, ?_⟩
  refine T_bindr (fun l => l = GrL F T' W (F.length - 1)) ?_ (by rintro _ rfl; simp only [T_some])
  refine T_loop (fun z => 0 ≤ z.2 ∧ z.2 ≤ (F.length : Int) - 1 ∧ z.1 = GrL F T' W z.2.toNat) (fun z => ((F.length : Int) - 1 - z.2).toNat) ?_ ⟨by simp, by simpa using s1, by simp [GrL]⟩
  rintro ⟨g, i⟩ ⟨i0, i1, e⟩
  dsimp only at *
  unfold z_viaductref05_Graph_l0
  rw [T_ite]
  refine ⟨fun h => ?_, fun h => ?_⟩
  · obtain ⟨b1, b2, b3, b4, b5, b6⟩ := hc.inr i0 h
    have hg := GrL.len hc (n := i.toNat) (by omega)
    rw [show ((i.toNat : Nat) : Int) = i from by omega] at hg
    rw [p_rowR hc i0 h, Option.bind_some]
    subst e
    simp only [T_G, T_some, Sum.elim_inl, RowL.len]
    refine ⟨by omega, by omega, ⟨by omega, by omega, ?_⟩, by omega⟩
    rw [show (i + 1).toNat = i.toNat + 1 from by omega, GrL.succ, show ((i.toNat : Nat) : Int) = i from by omega]
  · simp only [T_some, Sum.elim_inr]
    rw [e]; congr 1; omega
theorem p_gDocGraph (hl : F.length ≤ 17592186044160) : T (z_viaductref05_DocGraph F T' W) fun r => ∃ er, GrA F T' W r.1 r.2.1 er ∧ r.2.2.1 = er.code ∧ r.2.2.2 = er.pls := by
  unfold z_viaductref05_DocGraph
  refine T_bindr _ (p_DocCheck hl) ?_
  rintro _ ⟨er, hc, rfl⟩
  dsimp only
  rw [p_Bad, Option.bind_some, T_ite]
  refine ⟨fun h => ?_, fun h => ?_⟩
  · simp only [T_some]
    exact ⟨er, .bad er hc (hc.bad.1 (by simpa using h)), rfl, rfl⟩
  · have he : er = .nil := Classical.byContradiction fun k => h (decide_eq_true (hc.bad.2 k))
    subst he
    rw [p_graphR hc, Option.bind_some]
    simp only [T_some]
    exact ⟨.nil, .ok hc, rfl, rfl⟩
theorem GrA.uniq {n m : Int} {l k : List (Int × Int × Int)} {er er' : Er} (h : GrA F T' W n l er) (h' : GrA F T' W m k er') : n = m ∧ l = k ∧ er = er' := by
  cases h with
  | bad _ c n1 =>
    cases h' with
    | bad _ c2 _ => exact ⟨rfl, rfl, c.uniq c2⟩
    | ok c2 => exact absurd (c.uniq c2) n1
  | ok c =>
    cases h' with
    | bad _ c2 n2 => exact absurd (c2.uniq c) n2
    | ok c2 => exact ⟨rfl, rfl, rfl⟩
theorem GrA.good {n : Int} {l : List (Int × Int × Int)} {er : Er} (h : GrA F T' W n l er) : er.good ∧ er.pls.length ≤ 1 ∧ l.length ≤ 262144 := by
  cases h with
  | bad _ c _ => exact ⟨c.goodR.1, c.goodR.2, by simp⟩
  | ok c =>
    have s1 := c.shp.1
    have s3 := c.shp.2.2.1
    have m2 : (T'.length : Int) ≤ 262144 := c.small.2
    have := GrL.len c (n := F.length - 1) (by omega)
    rw [show ((F.length - 1 : Nat) : Int) = (F.length : Int) - 1 from by omega] at this
    exact ⟨trivial, by simp [Er.pls], by omega⟩

end Go.Vd

/-! (Sc) -/

set_option linter.unusedVariables false
set_option linter.unusedSimpArgs false
namespace Go.Vd
theorem same_nextE {E : Type} [Inhabited E] {l m : List E} {i : Int} (h : ∀ j : Int, 0 ≤ j → j < i → gt l j = gt m j) (k : gt l i = gt m i) : ∀ j : Int, 0 ≤ j → j < i + 1 → gt l j = gt m j := by
  intro j h0 h1
  by_cases e : j = i
  · rw [e]; exact k
  · exact h j h0 (by omega)
theorem same_neE {E : Type} [DecidableEq E] {l m : List E} (h : ¬ (l.length : Int) = (m.length : Int)) : decide (l = m) = false := by
  apply decide_eq_false; rintro rfl; exact h rfl
theorem same_atE {E : Type} [DecidableEq E] [Inhabited E] {l m : List E} {i : Int} (h : ¬ gt l i = gt m i) : decide (l = m) = false := by
  apply decide_eq_false; rintro rfl; exact h rfl
theorem same_allE {E : Type} [DecidableEq E] [Inhabited E] {l m : List E} {i : Int} (h : ∀ j : Int, 0 ≤ j → j < i → gt l j = gt m j) (hl : (l.length : Int) = m.length) (hi : (l.length : Int) ≤ i) : decide (l = m) = true :=
  decide_eq_true (list_gtE (by omega) fun j h0 h1 => h j h0 (by omega))
end Go.Vd

/-! (PrSb) -/

set_option linter.unusedVariables false
set_option linter.unusedSimpArgs false
namespace Go.Vd
theorem p_gSameArcs {a b : List A3} (h : a.length ≤ 1152921504606846976) : z_viaductref03_SameArcs a b = some (decide (a = b)) := by
  refine T_eq.1 ?_
  unfold z_viaductref03_SameArcs
  simp only [T_ite, T_bind, T_some]
  refine ⟨fun hl => ?_, fun hl => (same_neE hl).symm⟩
  refine T_loop (fun i => 0 ≤ i ∧ i ≤ (a.length : Int) ∧ ∀ j : Int, 0 ≤ j → j < i → gt a j = gt b j) (fun i => ((a.length : Int) - i).toNat) ?_ ⟨by omega, by omega, fun j _ _ => by omega⟩
  rintro i ⟨h0, h1, h2⟩
  simp only [z_viaductref03_SameArcs_l0, T_ite, T_G, T_some, T_map, Sum.elim_inl, Sum.elim_inr]
  refine ⟨fun hi => ⟨h0, by omega, fun he => ⟨by omega, ⟨by omega, by omega, same_nextE h2 (eq3 he.1 he.2.1 he.2.2)⟩, by omega⟩, fun he => (same_atE fun k => he (by rw [k]; exact ⟨rfl, rfl, rfl⟩)).symm⟩, fun hi => (same_allE h2 hl (by omega)).symm⟩

end Go.Vd

/-! (PrSa) -/

set_option linter.unusedVariables false
set_option linter.unusedSimpArgs false
namespace Go.Vd
theorem p_gSame {n m : Int} {a b : List A3} (h : a.length ≤ 1152921504606846976) : z_viaductref03_Same n a m b = some (decide (n = m ∧ a = b)) := by
  unfold z_viaductref03_Same
  by_cases e : n = m
  · rw [if_pos e, p_gSameArcs h]; simp [e]
  · rw [if_neg e]; simp [e]
end Go.Vd

/-! (PrSk) -/

set_option linter.unusedVariables false
set_option linter.unusedSimpArgs false
namespace Go.Vd
variable {N : Int} {A : List A3}
/-! ### What has spare room -/
theorem p_Spare (hl : A.length ≤ 5864062014636) : z_viaductref03_Spare N A = some (N, A, A ++ [(41, 0, 0), (42, 0, 0)]) := by
  unfold z_viaductref03_Spare G
  rw [if_pos (by omega), if_pos (by omega), if_pos (by simp; omega), if_pos (by simp; omega), if_pos (by simp; omega)]
  simp
theorem p_Kept (hl : A.length ≤ 5864062014636) : z_viaductref03_Kept N A (A ++ [(41, 0, 0), (42, 0, 0)]) = some true := by
  have g1 : gt (A ++ [((41, 0, 0) : A3), (42, 0, 0)]) (A.length : Int) = (41, 0, 0) := by simp [gt, List.getD_eq_getElem?_getD]
  have g2 : gt (A ++ [((41, 0, 0) : A3), (42, 0, 0)]) ((A.length : Int) + 1) = (42, 0, 0) := by
    have : ((A.length : Int) + 1).toNat = A.length + 1 := by omega
    simp [gt, List.getD_eq_getElem?_getD, this]
  have g3 : ((A ++ [((41, 0, 0) : A3), (42, 0, 0)]).take A.length).drop 0 = A := by simp
  unfold z_viaductref03_Kept G
  rw [if_pos (by omega), if_pos (by simp), if_pos (by simp; omega), g3, p_gSameArcs (by omega), Option.bind_some, decide_eq_true rfl, if_pos rfl, if_pos (by simp; omega), g1, if_pos (by simp), if_pos (by omega), if_pos (by simp; omega), g2]
  simp

end Go.Vd

/-! (PrCsrMemory) -/

set_option linter.unusedVariables false
set_option linter.unusedSimpArgs false
namespace Go.Vd
variable {N : Int} {A L : List A3} {F T' W F2 T2 W2 : List Int}
theorem p_CsrSame (h1 : F.length ≤ 1152921504606846976) (h2 : T'.length ≤ 1152921504606846976) (h3 : W.length ≤ 1152921504606846976) : z_viaductref05_Same F T' W F T' W = some true := by
  unfold z_viaductref05_Same
  simp [p_SameInts h1, p_SameInts h2, p_SameInts h3]
/-- A list that is filled. -/
theorem fill_of {f : List Int → Int → Option ((List Int × Int) ⊕ List Int)} {x : Int} {l0 : List Int} (hl : l0.length ≤ 1000000)
    (hf : ∀ a i, f a i = if i < (l0.length : Int) then (G (0 ≤ i ∧ i < (a.length : Int)) (G ((i + 1) ≤ 9223372036854775807) (some (Sum.inl (a.set i.toNat x, i + 1))))) else some (Sum.inr a)) :
    T (loopO (fun zz_ => f zz_.1 zz_.2) (l0, 0)) fun a => a.length = l0.length ∧ ∀ j, 0 ≤ j → j < (l0.length : Int) → gt a j = x := by
  refine T_loop (fun z => 0 ≤ z.2 ∧ z.2 ≤ (l0.length : Int) ∧ z.1.length = l0.length ∧ ∀ j, 0 ≤ j → j < z.2 → gt z.1 j = x) (fun z => ((l0.length : Int) - z.2).toNat) ?_ ⟨by simp, by simp, rfl, fun j _ _ => by dsimp only at *; omega⟩
  rintro ⟨a, i⟩ ⟨i0, i1, la, ha⟩
  dsimp only at *
  rw [hf, T_ite]
  refine ⟨fun hlt => ?_, fun hge => ?_⟩
  · simp only [T_G, T_some, Sum.elim_inl, List.length_set]
    refine ⟨⟨i0, by omega⟩, by omega, ⟨by omega, by omega, la, fun j j0 j1 => ?_⟩, by omega⟩
    rw [gt_setE i0 (by omega) j0]
    split
    · rfl
    · exact ha j j0 (by omega)
  · simp only [T_some, Sum.elim_inr]
    exact ⟨la, fun j j0 j1 => ha j j0 (by omega)⟩
theorem take1 {l : List Int} (h : 0 < l.length) (k : gt l 0 = -7) : l.take (1 : Int).toNat = [-7] := by
  cases l with
  | nil => simp at h
  | cons a l =>
    have : a = -7 := k
    rw [this]; rfl

theorem p_l3 {y : Int × List A3 × Er} (hl : y.2.1.length ≤ 1000000) : T (loopO (fun zz_ => z_viaductlaw05_CsrMemory_l3 y zz_.1 zz_.2) (y.2.1, 0)) fun _ => True := by
  refine T_loop (fun z => 0 ≤ z.2 ∧ z.2 ≤ (y.2.1.length : Int) ∧ z.1.length = y.2.1.length) (fun z => ((y.2.1.length : Int) - z.2).toNat) ?_ ⟨by simp, by simp, rfl⟩
  rintro ⟨a, i⟩ ⟨i0, i1, la⟩
  dsimp only at *
  unfold z_viaductlaw05_CsrMemory_l3
  rw [T_ite]
  refine ⟨fun hlt => ?_, fun hge => by simp⟩
  simp only [T_G, T_some, Sum.elim_inl, List.length_set]
  exact ⟨⟨i0, by omega⟩, by omega, ⟨by omega, by omega, la⟩, by omega⟩
theorem p_l4 {y : List A3 × Er} (hl : y.1.length ≤ 1000000) : T (loopO (fun zz_ => z_viaductlaw05_CsrMemory_l4 y zz_.1 zz_.2) (0, y.1)) fun _ => True := by
  refine T_loop (fun z => 0 ≤ z.1 ∧ z.1 ≤ (y.1.length : Int) ∧ z.2.length = y.1.length) (fun z => ((y.1.length : Int) - z.1).toNat) ?_ ⟨by simp, by simp, rfl⟩
  rintro ⟨i, a⟩ ⟨i0, i1, la⟩
  dsimp only at *
  unfold z_viaductlaw05_CsrMemory_l4
  rw [T_ite]
  refine ⟨fun hlt => ?_, fun hge => by simp⟩
  simp only [T_G, T_some, Sum.elim_inl, List.length_set]
  exact ⟨⟨i0, by omega⟩, by omega, ⟨by omega, by omega, la⟩, by omega⟩

theorem p_CsrMemory (hl : A.length ≤ 5864062014634) : z_viaductlaw05_CsrMemory N A = some true := by
  refine T_eq.1 ?_
  unfold z_viaductlaw05_CsrMemory
  refine T_bindr (fun _ => True) (by unfold z_viaductlaw05_great; simp) fun b _ => ?_
  rw [T_ite]
  refine ⟨fun _ => by simp, fun _ => ?_⟩
  rw [p_Spare (by omega), Option.bind_some]
  obtain ⟨⟨F, T', W, er⟩, q1, o1⟩ := p_Build (N := N) (A := A)
  dsimp only at *
  obtain ⟨hF, hT, hW⟩ := o1.len
  rw [q1, Option.bind_some, Option.bind_some]
  dsimp only
  obtain ⟨⟨n2, l2, e2⟩, q2, o2⟩ := p_Graph (F := F) (T' := T') (W := W) (by omega) (by omega)
  dsimp only at o2
  have hl2 := o2.good.2.2
  rw [q2, Option.bind_some]
  obtain ⟨⟨l3, e3⟩, q3, o3⟩ := p_Row (F := F) (T' := T') (W := W) (v := 0) (by omega) (by omega)
  dsimp only at o3
  have hl3 := o3.good.2.2
  rw [q3, Option.bind_some, p_Kept (by omega), Option.bind_some]
  simp only [Bool.not_true, Bool.false_eq_true, if_false]
  have e12 : ([1, 2] : List Int).length = 2 := rfl
  refine T_bindr _ (fill_of (x := -7) (l0 := F) (by omega) fun a i => rfl) ?_
  rintro a1 ⟨b1, c1⟩
  simp only [T_G, e12]
  refine ⟨by omega, by omega, ?_⟩
  rw [if_pos (by rw [List.length_append, e12]; omega)]
  refine T_bindr _ (fill_of (x := -7) (l0 := T') (by omega) fun a i => rfl) ?_
  rintro a2 ⟨b2, c2⟩
  simp only [T_G, e12]
  refine ⟨by omega, by omega, ?_⟩
  rw [if_pos (by rw [List.length_append, e12]; omega)]
  refine T_bindr _ (fill_of (x := -7) (l0 := W) (by omega) fun a i => rfl) ?_
  rintro a3 ⟨b3, c3⟩
  simp only [T_G, e12]
  refine ⟨by omega, by omega, ?_⟩
  rw [if_pos (by rw [List.length_append, e12]; omega)]
  refine T_bindr _ (p_l3 (y := (n2, l2, e2)) (by dsimp only; omega)) fun _ _ => ?_
  refine T_bindr _ (p_l4 (y := (l3, e3)) (by dsimp only; omega)) fun _ _ => ?_
  refine T_bindr _ p_gDocBuild ?_
  rintro ⟨F2, T2, W2, c, ps⟩ ⟨er', h', _, _⟩
  dsimp only at *
  obtain ⟨rfl, rfl, rfl, rfl⟩ := o1.uniq h'
  rw [Option.bind_some]
  refine T_bindr _ (p_gDocGraph (F := F) (T' := T') (W := W) (by omega)) ?_
  rintro ⟨n4, l4, c4, p4⟩ ⟨er4, h4, _, _⟩
  dsimp only at *
  obtain ⟨rfl, rfl, rfl⟩ := o2.uniq h4
  rw [show z_viaductlaw05_of F T' W = some () from rfl, Option.bind_some, p_CsrSame (by omega) (by omega) (by omega), Option.bind_some, if_pos rfl, p_gSame (by omega), Option.bind_some, decide_eq_true ⟨rfl, rfl⟩, if_pos rfl, T_ite]
  refine ⟨fun _ => by simp, fun h0 => ?_⟩
  have hp : 0 < a1.length := by omega
  simp only [T_G]
  refine ⟨⟨by omega, by omega⟩, ?_⟩
  rw [take1 hp (c1 0 (by omega) (by omega)), p_SameInts (by simp)]
  simp
end Go.Vd
