/- Plain law: of a walk, the list without loops is a walk, and no longer. -/
import Derived.Test.YtbjamignglibpaaDoorLwSimple2
namespace Go.Vd

theorem gt_app {l r : List Int} {i : Int} (h0 : 0 ≤ i) (h1 : i < (l.length : Int)) : gt (l ++ r) i = gt l i := by
  simp only [gt, List.getD_eq_getElem?_getD]
  rw [List.getElem?_append_left (by omega)]
theorem gt_end (l : List Int) (v : Int) : gt (l ++ [v]) (l.length : Int) = v := by
  simp [gt, List.getD_eq_getElem?_getD]
theorem gt_last {l : List Int} {a : Int} (h : l.getLast? = some a) : gt l ((l.length : Int) - 1) = a := by
  rw [List.getLast?_eq_getElem?] at h
  have : 0 < l.length := by
    cases l with
    | nil => simp at h
    | cons _ _ => simp
  refine gt_get? (by omega) ?_
  rw [show ((l.length : Int) - 1).toNat = l.length - 1 from by omega]; exact h
theorem gt_first {l : List Int} {a : Int} (h : l.head? = some a) : gt l 0 = a := by
  cases l with
  | nil => cases h
  | cons x l => simpa [gt] using h
theorem gt_tk {l : List Int} {r : Nat} {k : Int} (k0 : 0 ≤ k) (k1 : k < (r : Int)) : gt (l.take r) k = gt l k := by
  simp only [gt, List.getD_eq_getElem?_getD]
  rw [List.getElem?_take, if_pos (by omega)]

variable {fi to wt : List Int}

theorem simple_sum (hc : Chk fi to wt .nil) (l : List Int) : l ≠ [] → ∀ n, WSum fi to wt l ((l.length : Int) - 1) n → ∃ m, m ≤ n ∧ WSum fi to wt (simple l) (((simple l).length : Int) - 1) m := by
  induction l using snoc_ind with
  | h0 => intro h; exact absurd rfl h
  | h1 l v ih =>
    intro _ n hn
    have hlen : (((l ++ [v]).length : Int) - 1) = (l.length : Int) := by simp
    rw [hlen] at hn
    by_cases hl : l = []
    · subst hl
      rcases hn.inv with ⟨_, rfl⟩ | ⟨_, _, h, _⟩
      · exact ⟨0, Int.le_refl _, by simpa [simple, simp1] using WSum.zero⟩
      · simp at h
    · have hpos : 0 < l.length := List.length_pos_iff.2 hl
      rcases hn.inv with ⟨h, _⟩ | ⟨s', x, _, g1, g2, rfl⟩
      · omega
      · have g3 : WSum fi to wt l ((l.length : Int) - 1) s' := g1.congr fun j j0 j1 => gt_app j0 (by omega)
        rw [gt_app (by omega) (by omega), gt_end] at g2
        obtain ⟨m, hm, hW⟩ := ih hl s' g3
        have hsne : simple l ≠ [] := fun h => hl (simple_nil h)
        have hspos : 0 < (simple l).length := List.length_pos_iff.2 hsne
        have hx := g2.nn hc
        have hlast : gt (simple l) (((simple l).length : Int) - 1) = gt l ((l.length : Int) - 1) := by
          have : l.getLast? = some (l.getLast hl) := List.getLast?_eq_some_getLast hl
          rw [gt_last this, gt_last (by rw [simple_last]; exact this)]
        rw [simple_snoc]
        unfold simp1
        split
        · rename_i hv
          have hi := List.idxOf_lt_length_of_mem hv
          obtain ⟨m', a, b⟩ := hW.pre hc (k' := ((simple l).idxOf v : Int)) (by omega) (by omega)
          refine ⟨m', by omega, ?_⟩
          have hL : ((((simple l).take ((simple l).idxOf v + 1)).length : Int) - 1) = ((simple l).idxOf v : Int) := by
            rw [List.length_take]; omega
          rw [hL]
          exact b.congr fun j j0 j1 => (gt_tk j0 (by omega)).symm
        · refine ⟨m + x, by omega, ?_⟩
          have hL : (((simple l ++ [v]).length : Int) - 1) = (((simple l).length : Int) - 1) + 1 := by simp
          rw [hL]
          refine .step _ m x (by omega) (hW.congr fun j j0 j1 => (gt_app j0 (by omega)).symm) ?_
          rw [gt_app (by omega) (by omega), show ((simple l).length : Int) - 1 + 1 = ((simple l).length : Int) from by omega, gt_end, hlast]
          exact g2

theorem simple_mem {l : List Int} {v : Int} (h : v ∈ simple l) : v ∈ l := by
  induction l using snoc_ind with
  | h0 => exact h
  | h1 l w ih =>
    rw [simple_snoc] at h
    unfold simp1 at h
    split at h
    · exact List.mem_append_left _ (ih (List.mem_of_mem_take h))
    · rcases List.mem_append.1 h with h | h
      · exact List.mem_append_left _ (ih h)
      · exact List.mem_append_right _ h

theorem Len.zero {l : List Int} {n : Int} {er : Er} (h : Len fi to wt l n er) (he : er ≠ .nil) : n = 0 := by
  cases h with
  | ok => exact absurd rfl he
  | _ => rfl

/-- Of a walk it is a walk, and no longer. -/
theorem simple_len_walk {l : List Int} {n m : Int} {er : Er} (h : Len fi to wt l n .nil) (k : Len fi to wt (simple l) m er) : er = .nil ∧ m ≤ n := by
  cases h with
  | bad _ h1 h2 => exact absurd rfl h2
  | ok _ hc hN hp hW =>
    have hl : l ≠ [] := by rintro rfl; simp at hp
    obtain ⟨m0, hm0, hW0⟩ := simple_sum hc l hl n hW
    have hsne : simple l ≠ [] := fun h => hl (simple_nil h)
    have hspos : 0 < (simple l).length := List.length_pos_iff.2 hsne
    have hNs : Nodes fi (simple l) ((simple l).length : Int) := by
      intro j j0 j1
      have hmem : gt (simple l) j ∈ l := simple_mem (gt_mem j0 j1)
      obtain ⟨i, hi, he⟩ := List.getElem_of_mem hmem
      have := hN (i : Int) (by omega) (by omega)
      rw [gt_nat hi, he] at this
      exact this
    cases k with
    | bad _ h1 h2 =>
      exfalso
      cases h1 with
      | shape h => exact h hc.shp
      | limit _ h => exact h hc.small
      | mono v _ _ h0 h1 h2 _ => have := hc.mon v h0 h1; omega
      | arc v i _ _ _ hI h0 _ => exact h0 (hc.arcs v i hI)
      | ok => exact h2 rfl
    | missing _ h => omega
    | node i _ h0 h1 h2 _ => have := hNs i h0 h1; omega
    | nowalk i s _ _ h0 h1 h2 h3 =>
      exfalso
      obtain ⟨s', _, h4⟩ := hW0.pre hc (k' := i + 1) (by omega) (by omega)
      rcases h4.inv with ⟨h, _⟩ | ⟨_, x, _, _, g2, _⟩
      · omega
      · rw [show i + 1 - 1 = i from by omega] at g2; exact h3 x g2
    | ok _ _ _ _ h => exact ⟨rfl, by rw [h.uniq hc hW0]; exact hm0⟩

end Go.Vd
