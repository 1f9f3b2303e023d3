/- Turned about, joined, and the reference's own. Plain Lean: no program here. -/
import Derived.Test.YtbjamignglibpaaDoorPrS
set_option linter.unusedVariables false
set_option linter.unusedSimpArgs false
namespace Go.Vd
variable {a b l : List Int}

theorem copied (a : List Int) : a.take (List.replicate a.length (0 : Int)).length ++ (List.replicate a.length (0 : Int)).drop a.length = a := by simp
theorem gt_swap {s : List Int} {i j : Int} (i0 : 0 ≤ i) (i1 : i < (s.length : Int)) (j0 : 0 ≤ j) (j1 : j < (s.length : Int)) {k : Int} (k0 : 0 ≤ k) (k1 : k < (s.length : Int)) :
    gt ((s.set i.toNat (gt s j)).set j.toNat (gt s i)) k = if k = j then gt s i else if k = i then gt s j else gt s k := by
  obtain ⟨k, rfl⟩ := Int.eq_ofNat_of_zero_le k0
  rw [gt_nat (show k < ((s.set i.toNat (gt s j)).set j.toNat (gt s i)).length by simp; omega), List.getElem_set, List.getElem_set]
  have hk : s[k]'(by omega) = gt s (k : Int) := (gt_nat (by omega)).symm
  rw [hk]
  have e1 : (j.toNat = k) = ((k : Int) = j) := propext (by omega)
  have e2 : (i.toNat = k) = ((k : Int) = i) := propext (by omega)
  simp only [e1, e2]
theorem gt_rev {s : List Int} {k : Int} (k0 : 0 ≤ k) (k1 : k < (s.length : Int)) : gt s.reverse k = gt s ((s.length : Int) - 1 - k) := by
  obtain ⟨k, rfl⟩ := Int.eq_ofNat_of_zero_le k0
  rw [gt_nat (show k < s.reverse.length by simp; omega), List.getElem_reverse, ← gt_nat]
  congr 1; omega

theorem p_Reverse (h : l.length ≤ 1000000) : z_slices_Reverse l = some l.reverse := by
  refine T_eq.1 ?_
  unfold z_slices_Reverse
  rw [T_G, T_bind]
  refine ⟨by omega, ?_⟩
  refine T_loop (fun s => s.1.length = l.length ∧ 0 ≤ s.2.1 ∧ s.2.1 + s.2.2 = (l.length : Int) - 1 ∧ s.2.1 ≤ s.2.2 + 2 ∧ ∀ k : Int, 0 ≤ k → k < (l.length : Int) → gt s.1 k = if s.2.1 ≤ k ∧ k ≤ s.2.2 then gt l k else gt l ((l.length : Int) - 1 - k)) (fun s => (s.2.2 + 2 - s.2.1).toNat) ?_ ?_
  rotate_left
  · dsimp only
    refine ⟨rfl, by omega, by omega, by omega, fun k k0 k1 => ?_⟩
    rw [if_pos ⟨k0, by omega⟩]
  rintro ⟨s, i, j⟩ ⟨hl, i0, hij, hle, hs⟩
  dsimp only at *
  simp only [z_slices_Reverse_l0, T_ite, T_G, T_some, Sum.elim_inl, Sum.elim_inr, List.length_set]
  refine ⟨fun hlt => ⟨by omega, by omega, by omega, by omega, by omega, ⟨by omega, by omega, by omega, by omega, fun k k0 k1 => ?_⟩, by omega⟩, fun hge => ?_⟩
  · rw [gt_swap i0 (by omega) (by omega) (by omega) k0 (by omega), hs i (by omega) (by omega), hs j (by omega) (by omega), hs k k0 k1, if_pos (show i ≤ i ∧ i ≤ j by omega), if_pos (show i ≤ j ∧ j ≤ j by omega)]
    by_cases h1 : k = j
    · subst h1; rw [if_pos rfl, if_neg (by omega)]; congr 1; omega
    · rw [if_neg h1]
      by_cases h2 : k = i
      · subst h2; rw [if_pos rfl, if_neg (by omega)]; congr 1; omega
      · rw [if_neg h2]
        by_cases h3 : i ≤ k ∧ k ≤ j
        · rw [if_pos h3, if_pos ⟨by omega, by omega⟩]
        · rw [if_neg h3, if_neg (by omega)]
  · refine list_gt (by simp [hl]) fun k k0 k1 => ?_
    rw [hs k k0 (by omega), gt_rev k0 (by omega)]
    by_cases h3 : i ≤ k ∧ k ≤ j
    · rw [if_pos h3]; congr 1; omega
    · rw [if_neg h3]

theorem p_Back (h : l.length ≤ 1000000) : z_walk_Back l = some l.reverse := by
  unfold z_walk_Back
  rw [copied, p_Reverse h]; unfold G; rw [if_pos (by omega)]; rfl
theorem p_Grow {n : Int} (h0 : 0 ≤ n) (h : n ≤ 1000000) : z_slices_Grow n = some [] := by
  refine T_eq.1 ?_
  unfold z_slices_Grow
  simp only [T_ite, T_G, T_some]
  exact ⟨fun h => by omega, fun _ => ⟨by omega, fun _ => ⟨by omega, by omega, by simp⟩, fun _ => trivial⟩⟩
theorem p_Concat (ha : a.length ≤ 100000) (hb : b.length ≤ 100000) : z_slices_Concat a b = some (a ++ b) := by
  refine T_eq.1 ?_
  unfold z_slices_Concat
  simp only [T_ite, T_G, p_Grow (n := 0 + (a.length : Int) + b.length) (by omega) (by omega), Option.bind_some, T_some, List.nil_append, List.length_nil]
  exact ⟨by omega, fun h => by omega, fun _ => ⟨by omega, fun h => by omega, fun _ => ⟨by omega, by omega, trivial⟩⟩⟩

/-- What joining answers. -/
def joined (a b : List Int) : List Int × Er :=
  if a.length = 0 ∨ b.length = 0 then ([], .no 5) else if gt a ((a.length : Int) - 1) = gt b 0 then (a ++ b.drop 1, .nil) else ([], .no 16)
theorem joined_5 (h : a.length = 0 ∨ b.length = 0) : joined a b = ([], .no 5) := if_pos h
theorem joined_0 (h : ¬ (a.length = 0 ∨ b.length = 0)) (k : gt a ((a.length : Int) - 1) = gt b 0) : joined a b = (a ++ b.drop 1, .nil) := by unfold joined; rw [if_neg h, if_pos k]
theorem joined_16 (h : ¬ (a.length = 0 ∨ b.length = 0)) (k : ¬ gt a ((a.length : Int) - 1) = gt b 0) : joined a b = ([], .no 16) := by unfold joined; rw [if_neg h, if_neg k]
theorem joined_len : (joined a b).1.length ≤ a.length + b.length := by
  unfold joined
  split
  · simp
  · split
    · simp
    · simp

theorem p_Join (ha : a.length ≤ 100000) (hb : b.length ≤ 100000) : z_walk_Join a b = some (joined a b) := by
  refine T_eq.1 ?_
  unfold z_walk_Join
  refine T_bindr (fun o => o = true ↔ (a.length = 0 ∨ b.length = 0)) ?_ fun o ho => ?_
  · simp only [T_ite, T_some, decide_eq_true_eq, true_iff]; omega
  refine T_bindr (fun e => e = (joined a b).2) ?_ fun e he => ?_
  · simp only [T_ite, T_G, T_some]
    refine ⟨fun h => by rw [joined_5 (ho.1 h)], fun h => ?_⟩
    have hn : ¬ (a.length = 0 ∨ b.length = 0) := fun k => h (ho.2 k)
    exact ⟨by omega, by omega, by omega, fun k => by rw [joined_0 hn k], fun k => by rw [joined_16 hn k]⟩
  subst he
  by_cases h : a.length = 0 ∨ b.length = 0
  · rw [joined_5 h]; simp
  · by_cases k : gt a ((a.length : Int) - 1) = gt b 0
    · rw [joined_0 h k]
      simp only [List.take_of_length_le (Nat.le_refl _), T_G, if_true]
      rw [p_Concat ha (by simp; omega)]
      exact ⟨by omega, by simp⟩
    · rw [joined_16 h k]; simp

theorem p_DocJoin (ha : a.length ≤ 100000) (hb : b.length ≤ 100000) : T (z_viaductref09_DocJoin a b) fun r => r = ((joined a b).1, (joined a b).2.code) := by
  unfold z_viaductref09_DocJoin
  refine T_bindr (fun o => o = true ↔ (a.length = 0 ∨ b.length = 0)) ?_ fun o ho => ?_
  · simp only [T_ite, T_some, decide_eq_true_eq, true_iff]; omega
  simp only [T_ite, T_G, T_some, p_E, Option.bind_some, p_TwinInts (show a.length ≤ 17592186043904 by omega)]
  refine ⟨fun h => by rw [joined_5 (ho.1 h)]; rfl, fun h => ?_⟩
  have hn : ¬ (a.length = 0 ∨ b.length = 0) := fun k => h (ho.2 k)
  refine ⟨by omega, by omega, by omega, fun k => ⟨by omega, by simp; omega, ?_⟩, fun k => by rw [joined_16 hn k]; rfl⟩
  rw [joined_0 hn k]; simp [Er.code]

theorem p_rBack (h : l.length ≤ 1000000) : z_viaductref09_Back l = some l.reverse := by
  refine T_eq.1 ?_
  unfold z_viaductref09_Back
  rw [T_G, T_bind]
  refine ⟨by omega, ?_⟩
  refine T_loop (fun s => -1 ≤ s.2 ∧ s.2 < (l.length : Int) ∧ s.1 = (l.drop (s.2 + 1).toNat).reverse) (fun s => (s.2 + 1).toNat) ?_ ?_
  rotate_left
  · dsimp only
    refine ⟨by omega, by omega, ?_⟩
    rw [List.drop_of_length_le (by omega)]; rfl
  rintro ⟨s, i⟩ ⟨i0, i1, hs⟩
  dsimp only at *
  subst hs
  simp only [z_viaductref09_Back_l0, T_ite, T_G, T_some, Sum.elim_inl, Sum.elim_inr, List.length_reverse, List.length_drop]
  refine ⟨fun hi => ⟨by omega, by omega, by omega, ⟨by omega, by omega, ?_⟩, by omega⟩, fun hi => ?_⟩
  · rw [show (i - 1 + 1).toNat = i.toNat from by omega, show (i + 1).toNat = i.toNat + 1 from by omega, List.drop_eq_getElem_cons (i := i.toNat) (by omega), List.reverse_cons]
    congr 2
    have hq : ((i.toNat : Nat) : Int) = i := by omega
    rw [← gt_nat (by omega), hq]
  · rw [show (i + 1).toNat = 0 from by omega, List.drop_zero]

theorem p_rSimple (hl : l.length ≤ 1000000) : z_viaductref09_Simple l = some (simple l) := by
  refine T_eq.1 ?_
  unfold z_viaductref09_Simple
  rw [T_bind]
  refine T_loop (fun s => 0 ≤ s.1 ∧ s.1 ≤ (l.length : Int) ∧ s.2 = simple (l.take s.1.toNat)) (fun s => ((l.length : Int) - s.1).toNat) ?_ ⟨by omega, by omega, rfl⟩
  rintro ⟨i, s⟩ ⟨i0, i1, hs⟩
  dsimp only at *
  have hnd : s.Nodup := hs ▸ simple_nd _
  have hsl : s.length ≤ l.length := by
    have h1 := simple_len (l.take i.toNat); have h2 : (l.take i.toNat).length ≤ l.length := List.length_take_le' _ _
    rw [hs]; omega
  unfold z_viaductref09_Simple_l0
  rw [T_ite]
  refine ⟨fun hi => ?_, fun hi => ?_⟩
  rotate_left
  · simp only [T_some, Sum.elim_inr]; rw [hs, List.take_of_length_le (by omega)]
  have hsn := simple_next i0 hi
  rw [← hs] at hsn
  rw [T_G]
  refine ⟨i0, T_bindr (fun at1 => (at1 = -1 ∧ gt l i ∉ s) ∨ (0 ≤ at1 ∧ at1 < (s.length : Int) ∧ gt s at1 = gt l i)) ?_ fun at1 h1 => ?_⟩
  · refine T_loop (fun q => 0 ≤ q.1 ∧ q.1 ≤ (s.length : Int) ∧ ((q.2 = -1 ∧ ∀ k : Int, 0 ≤ k → k < q.1 → gt s k ≠ gt l i) ∨ (0 ≤ q.2 ∧ q.2 < (s.length : Int) ∧ gt s q.2 = gt l i))) (fun q => ((s.length : Int) - q.1).toNat) ?_ ?_
    rotate_left
    · exact ⟨by simp, by simp, .inl ⟨rfl, fun k k0 k1 => by dsimp only at k1; omega⟩⟩
    rintro ⟨j, at1⟩ ⟨j0, j1, hj⟩
    dsimp only at *
    simp only [z_viaductref09_Simple_l1, T_ite, T_G, T_some, Sum.elim_inl, Sum.elim_inr]
    refine ⟨fun hlt => ⟨j0, fun he => ⟨by omega, ⟨by omega, by omega, .inr ⟨j0, hlt, he⟩⟩, by omega⟩, fun he => ⟨by omega, ⟨by omega, by omega, ?_⟩, by omega⟩⟩, fun hge => ?_⟩
    · rcases hj with ⟨e, hj⟩ | hj
      · refine .inl ⟨e, fun k k0 k1 => ?_⟩
        by_cases hk : k = j
        · subst hk; exact he
        · exact hj k k0 (by omega)
      · exact .inr hj
    · rcases hj with ⟨e, hj⟩ | hj
      · refine .inl ⟨e, fun hm => ?_⟩
        obtain ⟨k, hk, he⟩ := List.mem_iff_getElem.1 hm
        exact hj k (by omega) (by omega) (by rw [gt_nat hk]; exact he)
      · exact .inr hj
  · rcases h1 with ⟨e, hn⟩ | ⟨a0, a1, ha⟩
    · rw [show simp1 s (gt l i) = s ++ [gt l i] from if_neg hn] at hsn
      simp only [T_ite, T_G, T_some, Sum.elim_inl]
      exact ⟨fun h => by omega, fun _ => ⟨by omega, by omega, ⟨by omega, by omega, hsn.symm⟩, by omega⟩⟩
    · have hm : gt l i ∈ s := by
        rw [← ha]; obtain ⟨k, rfl⟩ := Int.eq_ofNat_of_zero_le a0
        rw [gt_nat (by omega)]; exact List.getElem_mem _
      have hix : s.idxOf (gt l i) = at1.toNat := by
        obtain ⟨k, rfl⟩ := Int.eq_ofNat_of_zero_le a0
        rw [← ha, gt_nat (by omega)]; simpa using hnd.idxOf_getElem k (by omega)
      rw [show simp1 s (gt l i) = s.take (s.idxOf (gt l i) + 1) from if_pos hm, hix] at hsn
      simp only [T_ite, T_G, T_some, Sum.elim_inl]
      exact ⟨fun _ => ⟨by omega, by omega, by omega, ⟨by omega, by omega, by rw [hsn]; congr 1; omega⟩, by omega⟩, fun h => by omega⟩


end Go.Vd
