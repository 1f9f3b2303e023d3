/- What seen.Same answers where an error is as it should be. Plain Lean: no program here. -/
import Derived.Test.YtbjamignglibpaaDoorIWi
import Derived.Test.YtbjamignglibpaaDoorVpB
set_option linter.unusedVariables false
set_option linter.unusedSimpArgs false
namespace Go.Vd

/-- An error that bears a number, not 0; or none. -/
def Er.good : Er → Prop
  | .nil => True
  | .no n => n ≠ 0
  | .at _ _ e => e ≠ .nil ∧ e.good
theorem Er.good.num {e : Er} (h : e.good) (hn : e ≠ .nil) : e.num = some e.code ∧ e.code ≠ 0 := by
  induction e with
  | nil => exact absurd rfl hn
  | no n => exact ⟨rfl, h⟩
  | «at» k i e ih => exact ih h.2 h.1

theorem p_Bad' {c : Int} {ps : List (Int × Int)} : z_viaductref01_Err_Bad c ps = some (decide (c ≠ 0 ∨ ps ≠ [])) := by
  unfold z_viaductref01_Err_Bad
  by_cases h : c = 0
  · rw [if_pos h]; subst h
    by_cases hp : 0 < (ps.length : Int)
    · rw [bad_t (.inr hp), decide_eq_true (by omega)]
    · rw [bad_f ⟨rfl, hp⟩, decide_eq_false (by omega)]
  · rw [if_neg h, bad_t (.inl h)]

theorem p_SameT {er : Er} (hg : er.good) (hl : er.pls.length ≤ 17592186044160) : z_viaductseen_Same er er.code er.pls = some true := by
  refine T_eq.1 ?_
  unfold z_viaductseen_Same
  rw [p_Bad', Option.bind_some]
  by_cases hn : er = .nil
  · subst hn; simp [Er.code, Er.pls]
  obtain ⟨h1, h2⟩ := hg.num hn
  rw [decide_eq_true (Or.inl h2), if_neg (by decide), if_neg hn]
  refine T_binds (fun e => e ≠ .nil ∧ e.pls = []) ?_ fun e ⟨e0, e1⟩ => ?_
  · refine T_loop (fun s => 0 ≤ s.1 ∧ s.1 ≤ (er.pls.length : Int) ∧ s.2.good ∧ s.2 ≠ .nil ∧ s.2.pls = er.pls.drop s.1.toNat) (fun s => ((er.pls.length : Int) - s.1).toNat) ?_ ⟨by simp, by simp, hg, hn, by simp⟩
    rintro ⟨i, e⟩ ⟨i0, i1, g, gn, hp⟩
    dsimp only at *
    unfold z_viaductseen_Same_l0
    rw [T_ite]
    refine ⟨fun hi => ?_, fun hi => ?_⟩
    · rw [List.drop_eq_getElem_cons (i := i.toNat) (by omega)] at hp
      cases e with
      | nil => exact absurd rfl gn
      | no n => simp [Er.pls] at hp; omega
      | «at» k j e =>
        simp only [Er.pls, List.cons.injEq] at hp
        obtain ⟨q1, q2⟩ := hp
        have hgt : gt er.pls i = (k, j) := by
          have hq : gt er.pls ((i.toNat : Nat) : Int) = er.pls[i.toNat] := gt_nat (by omega)
          rw [q1, ← hq]; congr 1; omega
        rw [T_G, if_pos (show (Er.at k j e).isAt = true from rfl), hgt, if_pos (show (Er.at k j e).fk = (k, j).1 ∧ (Er.at k j e).fi = (k, j).2 from ⟨rfl, rfl⟩), T_G, T_some, Sum.elim_inl]
        refine ⟨i0, by omega, ⟨by dsimp only; omega, by dsimp only; omega, g.2, g.1, ?_⟩, by dsimp only; omega⟩
        dsimp only [Er.fe]
        rw [show (i + 1).toNat = i.toNat + 1 from by omega]; exact q2
    · simp only [T_some, Sum.elim_inr]
      exact ⟨gn, by rw [hp, List.drop_of_length_le (by omega)]⟩
  · have hat : ¬ e.isAt = true := by
      cases e with
      | nil => exact absurd rfl e0
      | no n => simp [Er.isAt]
      | «at» k i e => simp [Er.pls] at e1
    rw [if_neg hat, h1]
    simp only [Option.isSome_some, if_true, Option.getD_some, decide_true, Bool.not_true, Option.bind_some, Bool.false_eq_true, if_false]
    refine T_binds (fun _ => True) ?_ fun _ _ => by simp
    refine T_loop (fun i => 1 ≤ i ∧ i ≤ 21) (fun i => (21 - i).toNat) ?_ ⟨by omega, by omega⟩
    rintro i ⟨i0, i1⟩
    unfold z_viaductseen_Same_l1
    have hq : (decide (er.num = some i)) = (decide (i = er.code)) := by
      rw [h1]; congr 1; simp [eq_comm]
    simp only [T_ite, T_G, T_some, T_map, Sum.elim_inl, Sum.elim_inr]
    exact ⟨fun h => ⟨fun _ => ⟨by omega, ⟨by omega, by omega⟩, by omega⟩, fun h => absurd hq h⟩, fun _ => trivial⟩

end Go.Vd
