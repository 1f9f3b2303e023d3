/- Small functions of the laws of walks, and Simple. Plain Lean: no program here. -/
import Derived.Test.YtbjamignglibpaaDoorIWi
import Derived.Test.YtbjamignglibpaaDoorLwSimple4
set_option linter.unusedVariables false
set_option linter.unusedSimpArgs false
namespace Go.Vd
variable {F T' W l : List Int}

theorem p_TwinInts {l : List Int} (h : l.length ≤ 17592186043904) : z_viaductref02_TwinInts l = some l := by
  refine T_eq.1 ?_
  unfold z_viaductref02_TwinInts
  rw [T_bind]
  refine T_loop (fun s => 0 ≤ s.2 ∧ s.2 ≤ (l.length : Int) ∧ s.1 = l.take s.2.toNat) (fun s => ((l.length : Int) - s.2).toNat) ?_ (by simp)
  rintro ⟨m, i⟩ ⟨h0, h1, h2⟩
  dsimp only at h0 h1 h2 ⊢
  subst h2
  simp only [z_viaductref02_TwinInts_l0, T_ite, T_G, T_some, Sum.elim_inl, Sum.elim_inr, List.length_take]
  refine ⟨fun hi => ?_, fun hi => List.take_of_length_le (by omega)⟩
  and_intros <;> first | omega | exact (take_gt h0 hi).symm

theorem p_SameInts {a b : List Int} (h : a.length ≤ 1152921504606846976) : z_viaductref02_SameInts a b = some (decide (a = b)) := by
  refine T_eq.1 ?_
  unfold z_viaductref02_SameInts
  simp only [T_ite, T_bind, T_some]
  refine ⟨fun hl => ?_, fun hl => (same_ne hl).symm⟩
  refine T_loop (fun i => 0 ≤ i ∧ i ≤ (a.length : Int) ∧ ∀ j : Int, 0 ≤ j → j < i → gt a j = gt b j) (fun i => ((a.length : Int) - i).toNat) ?_ ⟨by omega, by omega, fun j _ _ => by omega⟩
  rintro i ⟨h0, h1, h2⟩
  simp only [z_viaductref02_SameInts_l0, T_ite, T_G, T_some, T_map, Sum.elim_inl, Sum.elim_inr]
  refine ⟨fun hi => ⟨h0, by omega, fun he => ⟨by omega, ⟨by omega, by omega, same_next h2 he⟩, by omega⟩, fun he => (same_at he h0 hi).symm⟩, fun hi => (same_all h2 hl (by omega)).symm⟩

theorem p_E (n : Int) : z_viaductref01_E n = some n := rfl
theorem p_Simple (hl : l.length ≤ 17592186043904) : z_walk_Simple l = some (simple l) := by
  refine T_eq.1 ?_
  unfold z_walk_Simple
  rw [T_bind]
  refine T_loop (fun s => 0 ≤ s.1 ∧ s.1 ≤ (l.length : Int) ∧ s.2.2 = simple (l.take s.1.toNat) ∧ At s.2.2 s.2.1) (fun s => ((l.length : Int) - s.1).toNat) ?_ ⟨by omega, by omega, rfl, At.nil⟩
  rintro ⟨i, f, s⟩ ⟨i0, i1, hs, hA⟩
  dsimp only at i0 i1 hs hA ⊢
  subst hs
  have hsl := simple_len (l.take i.toNat)
  have hsl2 : (l.take i.toNat).length ≤ l.length := List.length_take_le' _ _
  unfold z_walk_Simple_l0
  rw [T_ite]
  refine ⟨fun hi => ?_, fun hi => ?_⟩
  rotate_left
  · simp only [T_some, Sum.elim_inr]; rw [List.take_of_length_le (by omega)]
  have hsn := simple_next i0 hi
  rw [T_G, T_ite]
  refine ⟨i0, fun h0 => ?_, fun h0 => ?_⟩
  · have hnv := hA.none h0
    rw [show simp1 (simple (l.take i.toNat)) (gt l i) = simple (l.take i.toNat) ++ [gt l i] from if_neg hnv] at hsn
    simp only [T_G, T_some, Sum.elim_inl]
    exact ⟨by omega, by omega, ⟨by omega, by omega, hsn.symm, hA.add hnv⟩, by omega⟩
  · obtain ⟨hmem, hidx⟩ := hA.some h0
    have hlt := List.idxOf_lt_length_of_mem hmem
    rw [show simp1 (simple (l.take i.toNat)) (gt l i) = (simple (l.take i.toNat)).take ((simple (l.take i.toNat)).idxOf (gt l i) + 1) from if_pos hmem] at hsn
    rw [T_G]
    refine ⟨by omega, T_bindr (fun g => ∀ k, g k = if k ∈ (simple (l.take i.toNat)).drop ((f (gt l i)).getD 0).toNat then none else f k) ?_ fun g hg => ?_⟩
    · have hdl : (((simple (l.take i.toNat)).drop ((f (gt l i)).getD 0).toNat).length : Int) = ((simple (l.take i.toNat)).length : Int) - (f (gt l i)).getD 0 := by rw [List.length_drop]; omega
      refine T_loop (fun s => 0 ≤ s.2 ∧ s.2 ≤ (((simple (l.take i.toNat)).drop ((f (gt l i)).getD 0).toNat).length : Int) ∧ ∀ k, s.1 k = if k ∈ ((simple (l.take i.toNat)).drop ((f (gt l i)).getD 0).toNat).take s.2.toNat then none else f k)
        (fun s => ((((simple (l.take i.toNat)).drop ((f (gt l i)).getD 0).toNat).length : Int) - s.2).toNat) ?_ ⟨by omega, by omega, fun k => by simp⟩
      rintro ⟨g, j⟩ ⟨j0, j1, hg⟩
      dsimp only at j0 j1 hg ⊢
      unfold z_walk_Simple_l1
      rw [List.take_of_length_le (Nat.le_refl _)]
      simp only [T_ite, T_G, T_some, Sum.elim_inl, Sum.elim_inr]
      refine ⟨fun hj => ⟨j0, by omega, ⟨by omega, by omega, fun k => ?_⟩, by omega⟩, fun hj k => ?_⟩
      · rw [take_gt j0 hj]; simp only [hg, List.mem_append, List.mem_singleton]; split <;> simp_all
      · rw [hg k, List.take_of_length_le (by omega)]
    · simp only [T_G, T_some, Sum.elim_inl]
      have hcut := hA.cut hg
      rw [show ((f (gt l i)).getD 0).toNat = (simple (l.take i.toNat)).idxOf (gt l i) + 1 from by omega] at hcut ⊢
      rw [← hsn] at hcut ⊢
      exact ⟨by omega, ⟨by omega, by omega, rfl, hcut⟩, by omega⟩


end Go.Vd
