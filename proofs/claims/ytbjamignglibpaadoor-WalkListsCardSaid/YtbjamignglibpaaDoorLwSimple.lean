/- Plain law: what a list without its loops is. No program here. -/
import Derived.Test.YtbjamignglibpaaDoorVpB
namespace Go.Vd

theorem simp1_nd {s : List Int} {v : Int} (h : s.Nodup) : (simp1 s v).Nodup := by
  unfold simp1
  split
  · exact h.sublist (List.take_sublist _ _)
  · rename_i hv
    rw [List.nodup_append]
    refine ⟨h, by simp, fun x hx y hy => ?_⟩
    simp at hy; subst hy; rintro rfl; exact hv hx

theorem simp1_last (s : List Int) (v : Int) : (simp1 s v).getLast? = some v := by
  unfold simp1
  split
  · rename_i hv
    have hl := List.idxOf_lt_length_of_mem hv
    rw [List.getLast?_eq_getElem?, List.length_take, Nat.min_eq_left (by omega), List.getElem?_take, if_pos (by omega)]
    simp [List.getElem?_eq_getElem hl]
  · simp

theorem simp1_ne (s : List Int) (v : Int) : simp1 s v ≠ [] := by
  intro h
  have := simp1_last s v
  rw [h] at this; cases this

theorem simp1_head {s : List Int} (v : Int) (h : s ≠ []) : (simp1 s v).head? = s.head? := by
  cases s with
  | nil => exact absurd rfl h
  | cons x s =>
    unfold simp1
    split
    · simp
    · simp

theorem simple_snoc (l : List Int) (v : Int) : simple (l ++ [v]) = simp1 (simple l) v := by
  unfold simple; rw [List.foldl_append]; rfl

/-- Induction from the end. -/
theorem snoc_ind {p : List Int → Prop} (h0 : p []) (h1 : ∀ l v, p l → p (l ++ [v])) (l : List Int) : p l := by
  have : ∀ (n : Nat) (l : List Int), l.length = n → p l := by
    intro n
    induction n with
    | zero => intro l hl; rw [List.eq_nil_of_length_eq_zero hl]; exact h0
    | succ n ih =>
      intro l hl
      have hne : l ≠ [] := by rintro rfl; simp at hl
      rw [← List.dropLast_concat_getLast hne]
      exact h1 _ _ (ih _ (by rw [List.length_dropLast]; omega))
  exact this _ l rfl

theorem simple_nd (l : List Int) : (simple l).Nodup := by
  induction l using snoc_ind with
  | h0 => simp [simple]
  | h1 l v ih => rw [simple_snoc]; exact simp1_nd ih

theorem simple_last (l : List Int) : (simple l).getLast? = l.getLast? := by
  induction l using snoc_ind with
  | h0 => rfl
  | h1 l v _ => rw [simple_snoc, simp1_last]; simp

theorem simple_nil {l : List Int} (h : simple l = []) : l = [] := by
  have := simple_last l
  rw [h] at this
  cases l with
  | nil => rfl
  | cons x l => simp [List.getLast?_cons] at this

theorem simple_head (l : List Int) : (simple l).head? = l.head? := by
  induction l using snoc_ind with
  | h0 => rfl
  | h1 l v ih =>
    rw [simple_snoc]
    by_cases hl : l = []
    · subst hl; simp [simple, simp1]
    · rw [simp1_head v (fun h => hl (simple_nil h)), ih]
      cases l with
      | nil => exact absurd rfl hl
      | cons x l => rfl

/-- What has nothing twice stays as it is. -/
theorem simple_self {l : List Int} (h : l.Nodup) : simple l = l := by
  induction l using snoc_ind with
  | h0 => rfl
  | h1 l v ih =>
    rw [List.nodup_append] at h
    rw [simple_snoc, ih h.1]
    unfold simp1
    rw [if_neg (fun hv => h.2.2 v hv v (by simp) rfl)]

end Go.Vd
