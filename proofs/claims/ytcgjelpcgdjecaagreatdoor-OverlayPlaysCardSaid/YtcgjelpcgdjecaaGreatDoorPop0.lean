/- Plain law: what a list without its loops is. No program here. -/
import Derived.Test.YtcgjelpcgdjecaaGreatDoorPopVpB
import Derived.Test.YtcgjelpcgdjecaaGreatDoorPopIOp
import Derived.Test.YtcgjelpcgdjecaaGreatDoorPopVeC
import Derived.Test.YtcgjelpcgdjecaaGreatDoorPopVeL
import Derived.Test.YtcgjelpcgdjecaaGreatDoorPopVeN
set_option linter.unusedVariables false
set_option linter.unusedSimpArgs false
set_option linter.unusedSectionVars false
/-! (LwSimple) -/

namespace Go.Vd

end Go.Vd

/-! (LwSimple2) -/

set_option linter.unusedVariables false
namespace Go.Vd

/-! ### Sums -/

variable {fi to wt : List Int}

theorem WSum.nn {l : List Int} {k s : Int} (h : WSum fi to wt l k s) : 0 ≤ k := by
  induction h with
  | zero => omega
  | step => omega
theorem WSum.inv {l : List Int} {k s : Int} (h : WSum fi to wt l k s) : (k = 0 ∧ s = 0) ∨ ∃ s' x, 0 ≤ k - 1 ∧ WSum fi to wt l (k - 1) s' ∧ Arcw fi to wt (gt l (k - 1)) (gt l k) x ∧ s = s' + x := by
  cases h with
  | zero => exact .inl ⟨rfl, rfl⟩
  | step k s x h0 h1 h2 =>
    refine .inr ⟨s, x, by omega, ?_, ?_, rfl⟩
    · rw [show k + 1 - 1 = k from by omega]; exact h1
    · rw [show k + 1 - 1 = k from by omega]; exact h2
theorem WSum.congr {l l' : List Int} {k s : Int} (h : WSum fi to wt l k s) (he : ∀ j : Int, 0 ≤ j → j ≤ k → gt l j = gt l' j) : WSum fi to wt l' k s := by
  induction h with
  | zero => exact .zero
  | step k s x h0 h1 h2 ih =>
    refine .step k s x h0 (ih fun j j0 j1 => he j j0 (by omega)) ?_
    rw [← he k h0 (by omega), ← he (k + 1) (by omega) (by omega)]; exact h2
theorem Arcw.nn (hc : Chk fi to wt .nil) {v w x : Int} (h : Arcw fi to wt v w x) : 0 ≤ x := by
  obtain ⟨i, hI, _, rfl⟩ := h
  exact (hc.weight hI).1
/-- No node has two arcs to one. -/
theorem Arcw.uniq (hc : Chk fi to wt .nil) {v w x y : Int} (h : Arcw fi to wt v w x) (k : Arcw fi to wt v w y) : x = y := by
  obtain ⟨i, hI, hi, rfl⟩ := h
  obtain ⟨j, hJ, hj, rfl⟩ := k
  have key : ∀ {i j : Int}, In fi v i → In fi v j → gt to i = w → gt to j = w → ¬ i < j := by
    intro i j hI hJ hi hj hlt
    have hR := hc.riseSub hI.1 hI.2.1
    obtain ⟨a1, a2, a3, a4⟩ := hc.shp
    have hM := hc.mon
    have b1 := hM.le (u := 0) (w := v) (by omega) (by have := hI.1; omega) (by have := hI.2.1; omega)
    have b2 := hM.le (u := v + 1) (w := (fi.length : Int) - 1) (by have := hI.1; omega) (by have := hI.2.1; omega) (by omega)
    have b0 := hM v hI.1 hI.2.1
    obtain ⟨c1, c2, c3, c4⟩ := hI
    obtain ⟨d1, d2, d3, d4⟩ := hJ
    have hl := len_sub (l := to) (p := gt fi v) (r := gt fi (v + 1)) (by omega) (by omega) (by omega)
    have := hR.lt (i := i - gt fi v) (j := j - gt fi v) (by omega) (by omega) (by omega)
    rw [gt_sub (by omega) (by omega) (by omega) (by omega) (by omega), gt_sub (by omega) (by omega) (by omega) (by omega) (by omega)] at this
    rw [show gt fi v + (i - gt fi v) = i from by omega, show gt fi v + (j - gt fi v) = j from by omega] at this
    omega
  have h1 := key hI hJ hi hj
  have h2 := key hJ hI hj hi
  rw [show i = j from by omega]
theorem WSum.uniq (hc : Chk fi to wt .nil) {l : List Int} {k s t : Int} (h : WSum fi to wt l k s) : WSum fi to wt l k t → s = t := by
  induction h generalizing t with
  | zero =>
    intro h
    rcases h.inv with ⟨_, h⟩ | ⟨_, _, h, _⟩
    · exact h.symm
    · omega
  | step k s x h0 h1 h2 ih =>
    intro h
    rcases h.inv with ⟨h, _⟩ | ⟨s', x', _, g1, g2, rfl⟩
    · omega
    · rw [show k + 1 - 1 = k from by omega] at g1 g2
      rw [ih g1, Arcw.uniq hc h2 g2]
theorem WSum.pre (hc : Chk fi to wt .nil) {l : List Int} {k s : Int} (h : WSum fi to wt l k s) : ∀ {k' : Int}, 0 ≤ k' → k' ≤ k → ∃ s', s' ≤ s ∧ WSum fi to wt l k' s' := by
  induction h with
  | zero => intro k' h0 h1; rw [show k' = 0 from by omega]; exact ⟨0, by omega, .zero⟩
  | step k s x h0 h1 h2 ih =>
    intro k' k0 k1
    by_cases e : k' = k + 1
    · rw [e]; exact ⟨_, Int.le_refl _, .step k s x h0 h1 h2⟩
    · obtain ⟨s', a, b⟩ := ih k0 (by omega)
      have := h2.nn hc
      exact ⟨s', by omega, b⟩

end Go.Vd

/-! (PrEa) -/

set_option linter.unusedVariables false
set_option linter.unusedSimpArgs false
namespace Go.Vd
variable {F T' W l : List Int}
theorem p_E (n : Int) : z_viaductref01_E n = some n := rfl
theorem p_Bad {c : Int} {ps : List (Int × Int)} : z_viaductref01_Err_Bad c ps = some (decide (c ≠ 0 ∨ ps ≠ [])) := by
  unfold z_viaductref01_Err_Bad
  by_cases h : c = 0
  · rw [if_pos h]; subst h
    by_cases hp : 0 < (ps.length : Int)
    · rw [bad_t (.inr hp), decide_eq_true (by omega)]
    · rw [bad_f ⟨rfl, hp⟩, decide_eq_false (by omega)]
  · rw [if_neg h, bad_t (.inl h)]

end Go.Vd

/-! (PrEb) -/

set_option linter.unusedVariables false
set_option linter.unusedSimpArgs false
namespace Go.Vd
variable {F T' W l : List Int}
theorem p_At {k i c : Int} {ps : List (Int × Int)} (h : ps.length ≤ 8796093021951) : z_viaductref01_At k i c ps = some (c, (k, i) :: ps) := by
  unfold z_viaductref01_At G
  rw [if_pos (by simp; omega)]; rfl
end Go.Vd

/-! (PrSg) -/

set_option linter.unusedVariables false
set_option linter.unusedSimpArgs false
namespace Go.Vd

/-- An error that bears a number, not 0; or none. -/
def Er.good : Er → Prop
  | .nil => True
  | .no n => n ≠ 0
  | .at _ _ e => e ≠ .nil ∧ e.good
theorem Er.good.num {e : Er} (h : e.good) (hn : e ≠ .nil) : e.num = some e.code ∧ e.code ≠ 0 := by
  induction e with
  | nil => exact absurd rfl hn
  | no n => exact ⟨rfl, h⟩
  | «at» k i e ih => exact ih h.2 h.1

theorem p_Bad' {c : Int} {ps : List (Int × Int)} : z_viaductref01_Err_Bad c ps = some (decide (c ≠ 0 ∨ ps ≠ [])) := by
  unfold z_viaductref01_Err_Bad
  by_cases h : c = 0
  · rw [if_pos h]; subst h
    by_cases hp : 0 < (ps.length : Int)
    · rw [bad_t (.inr hp), decide_eq_true (by omega)]
    · rw [bad_f ⟨rfl, hp⟩, decide_eq_false (by omega)]
  · rw [if_neg h, bad_t (.inl h)]
end Go.Vd

/-! (PrSame) -/

namespace Go.Vd
theorem p_SameT {er : Er} (hg : er.good) (hl : er.pls.length ≤ 17592186044160) : z_viaductseen_Same er er.code er.pls = some true := by
  refine T_eq.1 ?_
  unfold z_viaductseen_Same
  rw [p_Bad', Option.bind_some]
  by_cases hn : er = .nil
  · subst hn; simp [Er.code, Er.pls]
  obtain ⟨h1, h2⟩ := hg.num hn
  rw [decide_eq_true (Or.inl h2), if_neg (by decide), if_neg hn]
  refine T_binds (fun e => e ≠ .nil ∧ e.pls = []) ?_ fun e ⟨e0, e1⟩ => ?_
  · refine T_loop (fun s => 0 ≤ s.1 ∧ s.1 ≤ (er.pls.length : Int) ∧ s.2.good ∧ s.2 ≠ .nil ∧ s.2.pls = er.pls.drop s.1.toNat) (fun s => ((er.pls.length : Int) - s.1).toNat) ?_ ⟨by simp, by simp, hg, hn, by simp⟩
    rintro ⟨i, e⟩ ⟨i0, i1, g, gn, hp⟩
    dsimp only at *
    unfold z_viaductseen_Same_l0
    rw [T_ite]
    refine ⟨fun hi => ?_, fun hi => ?_⟩
    · rw [List.drop_eq_getElem_cons (i := i.toNat) (by omega)] at hp
      cases e with
      | nil => exact absurd rfl gn
      | no n => simp [Er.pls] at hp; omega
      | «at» k j e =>
        simp only [Er.pls, List.cons.injEq] at hp
        obtain ⟨q1, q2⟩ := hp
        have hgt : gt er.pls i = (k, j) := by
          have hq : gt er.pls ((i.toNat : Nat) : Int) = er.pls[i.toNat] := gt_nat (by omega)
          rw [q1, ← hq]; congr 1; omega
        rw [T_G, if_pos (show (Er.at k j e).isAt = true from rfl), hgt, if_pos (show (Er.at k j e).fk = (k, j).1 ∧ (Er.at k j e).fi = (k, j).2 from ⟨rfl, rfl⟩), T_G, T_some, Sum.elim_inl]
        refine ⟨i0, by omega, ⟨by dsimp only; omega, by dsimp only; omega, g.2, g.1, ?_⟩, by dsimp only; omega⟩
        dsimp only [Er.fe]
        rw [show (i + 1).toNat = i.toNat + 1 from by omega]; exact q2
    · simp only [T_some, Sum.elim_inr]
      exact ⟨gn, by rw [hp, List.drop_of_length_le (by omega)]⟩
  · have hat : ¬ e.isAt = true := by
      cases e with
      | nil => exact absurd rfl e0
      | no n => simp [Er.isAt]
      | «at» k i e => simp [Er.pls] at e1
    rw [if_neg hat, h1]
    simp only [Option.isSome_some, if_true, Option.getD_some, decide_true, Bool.not_true, Option.bind_some, Bool.false_eq_true, if_false]
    refine T_binds (fun _ => True) ?_ fun _ _ => by simp
    refine T_loop (fun i => 1 ≤ i ∧ i ≤ 21) (fun i => (21 - i).toNat) ?_ ⟨by omega, by omega⟩
    rintro i ⟨i0, i1⟩
    unfold z_viaductseen_Same_l1
    have hq : (decide (er.num = some i)) = (decide (i = er.code)) := by
      rw [h1]; congr 1; simp [eq_comm]
    simp only [T_ite, T_G, T_some, T_map, Sum.elim_inl, Sum.elim_inr]
    exact ⟨fun h => ⟨fun _ => ⟨by omega, ⟨by omega, by omega⟩, by omega⟩, fun h => absurd hq h⟩, fun _ => trivial⟩

end Go.Vd

/-! (InA) -/

set_option maxRecDepth 100000
set_option maxHeartbeats 4000000
set_option linter.unusedVariables false
set_option linter.unusedSimpArgs false
namespace Go.Vd
section
variable {α : Type}
theorem ins_grow {a r u : List α} {i m : Nat} {y : α} (ha : a.length = i) (hr : r.length = m + 1) (hu : u.length = m) :
    ((a ++ r).take i ++ [y] ++ (a ++ r).drop (i + 1)).take (i + 1) ++ u ++ ((a ++ r).take i ++ [y] ++ (a ++ r).drop (i + 1)).drop (i + 1 + m) = a ++ ([y] ++ u) := by
  subst ha; subst hu
  have h1 : (a ++ r).take a.length = a := List.take_left
  have h2 : (a ++ r).drop (a.length + 1) = r.drop 1 := by rw [List.drop_append]; simp
  rw [h1, h2]
  have h3 : (a ++ [y] ++ r.drop 1).take (a.length + 1) = a ++ [y] := by
    have : (a ++ [y]).length = a.length + 1 := by simp
    rw [← this]; exact List.take_left
  have h4 : (a ++ [y] ++ r.drop 1).drop (a.length + 1 + u.length) = [] := List.drop_eq_nil_of_le (by simp; omega)
  rw [h3, h4]; simp
theorem ins_here {a J u : List α} {i m : Nat} {y : α} (ha : a.length = i) (hJ : 1 ≤ J.length) (hu : u.length = m) :
    ((a ++ u ++ J).take (i + 1) ++ u ++ (a ++ u ++ J).drop (i + 1 + m)).take i ++ [y] ++ ((a ++ u ++ J).take (i + 1) ++ u ++ (a ++ u ++ J).drop (i + 1 + m)).drop (i + 1) = a ++ ([y] ++ u) ++ J.drop 1 := by
  subst ha; subst hu
  have h1 : ((a ++ u ++ J).take (a.length + 1)).length = a.length + 1 := by rw [List.length_take]; simp; omega
  have h2 : (a ++ u ++ J).drop (a.length + 1 + u.length) = J.drop 1 := by
    have : a.length + 1 + u.length = (a ++ u).length + 1 := by simp; omega
    rw [this, List.drop_append]; simp
  rw [h2]
  have h3 : ((a ++ u ++ J).take (a.length + 1) ++ u ++ J.drop 1).take a.length = a := by
    rw [List.append_assoc, List.take_append_of_le_length (by omega), List.take_take, Nat.min_eq_left (by omega), List.append_assoc]; exact List.take_left
  have h4 : ((a ++ u ++ J).take (a.length + 1) ++ u ++ J.drop 1).drop (a.length + 1) = u ++ J.drop 1 := by
    have : ((a ++ u ++ J).take (a.length + 1) ++ (u ++ J.drop 1)).drop ((a ++ u ++ J).take (a.length + 1)).length = u ++ J.drop 1 := List.drop_left
    rw [h1] at this
    rw [List.append_assoc]; exact this
  rw [h3, h4]; simp
end
section
variable [Pins]
variable {H : AH} {E : Type} {enc : E → List Value} {s t : Value} {xs : List E} {y : E} {fp ft : Fp} {i j : Int}
/-- A slice of one's own, of which all the room is seen. -/
structure InS (enc : E → List Value) (H : AH) (s : Value) (xs : List E) (fs : Fp) : Prop where
  ow : Ow enc 3 H s xs fs
  is : ((s = .slice none 0 0 ∨ s = voidS) ∧ xs = []) ∨ ∃ b c J, s = .slice (some ⟨b, 0, none⟩) xs.length c ∧ fs = [b] ∧ Rw H b .own 3 (xs.map enc ++ J) ∧ xs.length + J.length = c

theorem a_spread {f : FuncId} {rest : List Value} {P : Program} {R : List E} (wf : WF H) (h : Ow enc 3 H s xs fp)
    (k : ∀ s' H' fs, WF H' → FrS fp H H' → InS enc H' s' xs fs → Inn fp H fs → ACalls P f (s' :: rest).toArray H' fun v H2 => ∃ fp', FrS fs H' H2 ∧ Ow enc 3 H2 v R fp' ∧ Inn fs H' fp') :
    ACalls P f (s :: rest).toArray H fun v H2 => ∃ fp', FrS fp H H2 ∧ Ow enc 3 H2 v R fp' ∧ Inn fp H fp' := by
  have fin : ∀ {s'} {H'} {fs : Fp}, FrS fp H H' → Inn fp H fs → ACalls P f (s' :: rest).toArray H' (fun v H2 => ∃ fp', FrS fs H' H2 ∧ Ow enc 3 H2 v R fp' ∧ Inn fs H' fp') →
      ACalls P f (s' :: rest).toArray H' fun v H2 => ∃ fp', FrS fp H H2 ∧ Ow enc 3 H2 v R fp' ∧ Inn fp H fp' := fun hf hi hk =>
    hk.mono fun v H2 ⟨f', a, b, c⟩ => ⟨f', hf.step wf a hi, b, hi.trans hf.next c⟩
  refine ACalls.spread wf h (fun hx hs => ?_) (fun hx => ?_) (fun H2 b c R' hf hb hn hg hl ho hc hcell => ?_)
  · subst hx; subst hs
    exact fin (.refl wf) Inn.nil (k _ H [] wf (.refl wf) ⟨.nil (by decide), .inl ⟨.inl rfl, rfl⟩⟩ Inn.nil)
  · subst hx
    exact fin (.refl wf) Inn.nil (k _ H [] wf (.refl wf) ⟨.void (by decide), .inl ⟨.inr rfl, rfl⟩⟩ Inn.nil)
  · have hlo : (∀ x ∈ xs, (enc x).length = 3) ∧ ∀ x ∈ xs, allOne (enc x) = true := by
      rcases h.is with ⟨_, rfl⟩ | ⟨φ, _, o⟩
      · exact ⟨fun x hx => (by cases hx), fun x hx => (by cases hx)⟩
      · exact ⟨o.len, o.one⟩
    have hlt : b < H2.next := by omega
    obtain ⟨J, hr, hJ⟩ := Rw.of (enc := enc) (xs := xs) hlt (by decide) hg hl hc hlo.1 hcell
    have hin : Inn fp H [b] := fun t ht => .inr (by rw [List.mem_singleton.1 ht]; omega)
    exact fin hf hin (k _ H2 [b] hf.wf hf ⟨hr.ow (.inl ⟨rfl, rfl⟩) rfl hlo.2 hlt rfl (by simpa using hJ), .inr ⟨b, c, J, rfl, rfl, hr, hJ⟩⟩ hin)
end
end Go.Vd

/-! (InB) -/

set_option maxRecDepth 100000
set_option maxHeartbeats 4000000
set_option linter.unusedVariables false
set_option linter.unusedSimpArgs false
namespace Go.Vd
section
variable [Pins]
variable {H : AH} {E : Type} {enc : E → List Value} {s t : Value} {xs : List E} {y : E} {fs ft : Fp} {i : Int}
attribute [local irreducible] wpSeq wpOrd aWp

theorem a_insert0 (wf : WF H) (hs : InS enc H s xs fs) (ht : Ow enc 3 H t [y] ft) (dj : Dj fs ft) (g : 0 ≤ i ∧ i ≤ (xs.length : Int) ∧ (xs.length : Int) ≤ 1000000000) :
    ACalls Go.Proofs.Tryz.prog 53 #[s, .int .i64 i, t] H fun v H' => ∃ fp', FrS fs H H' ∧ Ow enc 3 H' v (xs.take i.toNat ++ ([y] ++ xs.drop i.toNat)) fp' ∧ Inn fs H fp' := by
  obtain ⟨g0, g1, g2⟩ := g
  obtain ⟨tb, tc, kt, ct, rfl, tlt, tg, tk, tlen, tcell, ty, ty1⟩ : ∃ tb tc kt ct, t = .slice (some ⟨tb, 0, none⟩) 1 tc ∧ tb < H.next ∧ H.get tb = some (.row kt ct) ∧ (kt ≠ .ro ∧ tokOf H tb ∈ ft) ∧ 3 ≤ ct.length ∧ H.cells tb 0 (1 * 3) = some ([enc y].flatMap id) ∧ (enc y).length = 3 ∧ allOne (enc y) = true := by
    rcases ht.is with ⟨_, h⟩ | ⟨φ, hφ, o⟩
    · cases h
    rcases o.is with ⟨_, h⟩ | ⟨b, c, k, cs, e1, e2, e3, e4, e5, e6, e7⟩
    · cases h
    have hl := o.len y (List.mem_singleton.2 rfl)
    have e5' : 1 ≤ c := e5
    refine ⟨b, c, k, cs, e1, e2, e3, ⟨?_, ?_⟩, by omega, ?_, hl, o.one y (List.mem_singleton.2 rfl)⟩
    · rcases e4 with ⟨rfl, _⟩ | rfl <;> simp
    · rcases e4 with ⟨rfl, rfl⟩ | rfl
      · rw [show tokOf H φ = φ by simp [tokOf, e3]]; exact hφ
      · rw [show tokOf H b = φ by simp [tokOf, e3]]; exact hφ
    · rcases ht.sq.src with ⟨h, _⟩ | h
      · rw [e1] at h; simp [voidS] at h
      · rw [e1] at h
        have := h.cells.2
        simpa using this
  refine acalls_of_body mixed Go.Proofs.Tryz.func53 rfl (Nat.le_of_ble_eq_true rfl) ?_
  refine w_seqk fun K1 k1 => ?_
  refine w_reg (by kernel_rfl) ?_
  refine s_qk (.slice none 0 0) (by kernel_rfl) ?_
  refine s_nil ?_
  refine k1 _ _ ?_
  refine w_seqk fun K2 k2 => ?_
  refine w_reg (by kernel_rfl) ?_
  refine s_qk s (by kernel_rfl) ?_
  refine s_qk (.int .i64 i) (by kernel_rfl) ?_
  obtain ⟨v1, hv1⟩ : ∃ v, aSlice Go.Proofs.Tryz.prog 49 s (some (.int .i64 i)) none none H = some v := by
    rcases hs.is with ⟨hs0, rfl⟩ | ⟨b, c, J, rfl, _, hr, hJ⟩
    · obtain rfl : i = 0 := by simp at g1; omega
      obtain ⟨m, z, hT⟩ := slOne_spec (P := Go.Proofs.Tryz.prog) (t := 49) (n := 3) (by kernel_rfl)
      obtain ⟨e, inf, hu, hi, _⟩ := slT_spec hT
      rcases hs0 with rfl | rfl
      · exact ⟨_, by unfold aSlice; simp only [hu, hi]; simp [aBound]; rfl⟩
      · exact ⟨_, by unfold aSlice voidS; simp only [hu, hi]; simp [aBound]; rfl⟩
    · exact hr.slo0 (by simp) (by kernel_rfl) g0 (by omega) (by omega)
  refine s_ql v1 (x := aSlice Go.Proofs.Tryz.prog 49 s (some (.int .i64 i)) none none H) (by kernel_rfl) hv1 ?_
  refine s_nil ?_
  refine k2 _ _ ?_
  refine w_seqk fun K3 k3 => ?_
  refine w_reg (by kernel_rfl) ?_
  refine s_qk (.slice (some ⟨tb, 0, none⟩) 1 tc) (by kernel_rfl) ?_
  refine s_ql (.int .i64 1) (x := aLen Go.Proofs.Tryz.prog 49 (.slice (some ⟨tb, 0, none⟩) 1 tc) H) (by kernel_rfl) (ht.sq.lenb (by kernel_rfl)) ?_
  refine s_qk (.int .i64 1) (by kernel_rfl) ?_
  refine s_nil ?_
  refine k3 _ _ ?_
  refine w_seqk fun K5 k5 => ?_
  refine w_seqk fun K4 k4 => ?_
  refine w_reg (by kernel_rfl) ?_
  refine s_qk (.int .i64 1) (by kernel_rfl) ?_
  refine s_qk (.bool false) (by kernel_rfl) ?_
  refine s_nil ?_
  refine k4 _ _ ?_
  refine w_cond false (by kernel_rfl) rfl (fun h => by cases h) (fun _ => ?_)
  refine w_skip ?_
  refine k5 _ _ ?_
  refine w_seqk fun K6 k6 => ?_
  refine w_reg (by kernel_rfl) ?_
  refine s_qk s (by kernel_rfl) ?_
  refine s_ql (.int .i64 xs.length) (x := aLen Go.Proofs.Tryz.prog 49 s H) (by kernel_rfl) (hs.ow.sq.lenb (by kernel_rfl)) ?_
  refine s_qk (.int .i64 xs.length) (by kernel_rfl) ?_
  refine s_nil ?_
  refine k6 _ _ ?_
  refine w_seqk fun K8 k8 => ?_
  refine w_seqk fun K7 k7 => ?_
  refine w_reg (by kernel_rfl) ?_
  refine s_qk (.int .i64 i) (by kernel_rfl) ?_
  refine s_qk (.int .i64 xs.length) (by kernel_rfl) ?_
  refine s_qk (.bool (decide (i = (xs.length : Int)))) (by kernel_rfl) ?_
  refine s_nil ?_
  refine k7 _ _ ?_
  refine w_condp (i = (xs.length : Int)) (by kernel_rfl) rfl (fun h => ?_) (fun hi => ?_)
  · refine w_seqk fun K9 k9 => ?_
    refine w_reg (by kernel_rfl) ?_
    refine s_qk s (by kernel_rfl) ?_
    refine s_qk (.slice (some ⟨tb, 0, none⟩) 1 tc) (by kernel_rfl) ?_
    obtain ⟨s2, H2, f2, ha, hf, ho2, hi2⟩ := Ow.append (P := Go.Proofs.Tryz.prog) 24 wf hs.ow ht.sq (fun x hx => by rw [List.mem_singleton.1 hx]; exact ty1) (at_ := #[49, 49]) rfl rfl (by kernel_rfl) (by kernel_rfl) (by decide) (by simp only [List.length_cons, List.length_nil]; omega)
    refine s_ek s2 (x := aAppend Go.Proofs.Tryz.prog #[49, 49] s (.slice (some ⟨tb, 0, none⟩) 1 tc) H) (by kernel_rfl) ha ?_
    refine s_qk s2 (by kernel_rfl) ?_
    refine s_nil ?_
    refine k9 _ _ ?_
    refine w_ret ?_
    dsimp only [thenA]
    refine b_ret (fn := Go.Proofs.Tryz.f53) (vs := [s2]) (aRes_tmp (by kernel_rfl) (rfl)) ?_
    refine ⟨f2, hf, ?_, hi2⟩
    rw [h, Int.toNat_natCast, List.take_length, List.drop_length, List.append_nil]
    exact ho2
  rcases hs.is with ⟨_, rfl⟩ | ⟨b, c, J, rfl, rfl, hr, hJ⟩
  · simp at hi g1; omega
  have hmap : (xs.map enc).length = xs.length := List.length_map ..
  have hcl : (xs.map enc ++ J).length = c := by rw [List.length_append, hmap]; exact hJ
  have hone : ∀ x ∈ xs, allOne (enc x) = true := by
    rcases hs.ow.is with ⟨_, rfl⟩ | ⟨φ, _, o⟩
    · intro x hx; cases hx
    · exact o.one
  have hlen3 : ∀ x ∈ xs, (enc x).length = 3 := fun x hx => hr.len _ (List.mem_append_left _ (List.mem_map_of_mem hx))
  have htok : tokOf H b = b := by simp [tokOf, hr.get]
  have htb : tb ≠ b := fun e => dj b (List.mem_singleton.2 rfl) (by rw [← htok]; rw [← e]; exact tk.2)
  have hdl : ((xs.drop i.toNat).map enc).length = xs.length - i.toNat := by simp
  have hd3 : ∀ x ∈ (xs.drop i.toNat).map enc, x.length = 3 := fun x hx => by
    obtain ⟨u, hu, rfl⟩ := List.mem_map.1 hx
    exact hlen3 u (List.mem_of_mem_drop hu)
  have hyl : ∀ x ∈ [enc y], x.length = 3 := fun x hx => by rw [List.mem_singleton.1 hx]; exact ty
  have hal : ((xs.take i.toNat).map enc).length = i.toNat := by simp; omega
  have hsplit : xs.map enc = (xs.take i.toNat).map enc ++ (xs.drop i.toNat).map enc := by rw [← List.map_append, List.take_append_drop]
  have hus : ((xs.map enc ++ J).drop i.toNat).take (xs.length - i.toNat) = (xs.drop i.toNat).map enc := by
    have e1 : ((xs.take i.toNat).map enc ++ ((xs.drop i.toNat).map enc ++ J)).drop ((xs.take i.toNat).map enc).length = (xs.drop i.toNat).map enc ++ J := List.drop_left
    have e2 : ((xs.drop i.toNat).map enc ++ J).take ((xs.drop i.toNat).map enc).length = (xs.drop i.toNat).map enc := List.take_left
    rw [hal] at e1
    rw [hdl] at e2
    rw [hsplit, List.append_assoc, e1, e2]
  have hone' : ∀ x ∈ xs.take i.toNat ++ ([y] ++ xs.drop i.toNat), allOne (enc x) = true := fun x hx => by
    rcases List.mem_append.1 hx with hx | hx
    · exact hone x (List.mem_of_mem_take hx)
    · rcases List.mem_append.1 hx with hx | hx
      · rw [List.mem_singleton.1 hx]; exact ty1
      · exact hone x (List.mem_of_mem_drop hx)
  have hnl : (xs.take i.toNat ++ ([y] ++ xs.drop i.toNat)).length = xs.length + 1 := by simp; omega
  have hnmap : (xs.take i.toNat ++ ([y] ++ xs.drop i.toNat)).map enc = (xs.take i.toNat).map enc ++ ([enc y] ++ (xs.drop i.toNat).map enc) := by simp
  refine w_skip ?_
  refine k8 _ _ ?_
  refine w_seqk fun K11 k11 => ?_
  refine w_seqk fun K10 k10 => ?_
  refine w_reg (by kernel_rfl) ?_
  refine s_qk (.int .i64 xs.length) (by kernel_rfl) ?_
  refine s_qk (.int .i64 1) (by kernel_rfl) ?_
  refine s_w ((xs.length : Int) + 1) (k := .i64) (x := (xs.length : Int) + 1) (by kernel_rfl) (wrap64 ⟨by omega, by omega⟩) ?_
  refine s_qk (.slice (some ⟨b, 0, none⟩) xs.length c) (by kernel_rfl) ?_
  refine s_ql (.int .i64 c) (x := aCap Go.Proofs.Tryz.prog 49 (.slice (some ⟨b, 0, none⟩) xs.length c) H) (by kernel_rfl) (hr.cap (by kernel_rfl)) ?_
  refine s_qk (.bool (decide ((xs.length : Int) + 1 > (c : Int)))) (by kernel_rfl) ?_
  refine s_nil ?_
  refine k10 _ _ ?_
  refine w_condp ((xs.length : Int) + 1 > (c : Int)) (by kernel_rfl) rfl (fun hc => ?_) (fun hc => ?_)
  · -- a new row
    refine w_seqk fun K12 k12 => ?_
    refine w_reg (by kernel_rfl) ?_
    refine s_qk (.slice (some ⟨b, 0, none⟩) xs.length c) (by kernel_rfl) ?_
    refine s_qk (.int .i64 i) (by kernel_rfl) ?_
    refine s_ql (.slice (some ⟨b, 0, none⟩) i.toNat c) (x := aSlice Go.Proofs.Tryz.prog 49 (.slice (some ⟨b, 0, none⟩) xs.length c) none (some (.int .i64 i)) none H) (by kernel_rfl) (hr.shi (by kernel_rfl) g0 (by omega)) ?_
    refine s_qk (.int .i64 xs.length) (by kernel_rfl) ?_
    refine s_qk (.int .i64 1) (by kernel_rfl) ?_
    refine s_w ((xs.length : Int) + 1) (k := .i64) (x := (xs.length : Int) + 1) (by kernel_rfl) (wrap64 ⟨by omega, by omega⟩) ?_
    refine s_qk (.int .i64 i) (by kernel_rfl) ?_
    refine s_w ((xs.length : Int) + 1 - i) (k := .i64) (x := (xs.length : Int) + 1 - i) (by kernel_rfl) (wrap64 ⟨by omega, by omega⟩) ?_
    obtain ⟨H2, zs, ha, he2, hn2, hr2⟩ := hr.grow (P := Go.Proofs.Tryz.prog) (at_ := #[49, 3]) (t0 := 49) (t1 := 3) (m := 24) (n := i.toNat) (c := c) (kk := .i64) (ki := .i64) (z := (xs.length : Int) + 1 - i) wf rfl rfl (by kernel_rfl) (by kernel_rfl) (by omega) (by omega) (by omega) (by decide) (by omega)
    rw [show i.toNat + ((xs.length : Int) + 1 - i).toNat = xs.length + 1 by omega] at ha
    have hJ0 : J = [] := List.eq_nil_of_length_eq_zero (by omega)
    subst hJ0
    rw [List.append_nil] at hr hus hr2
    rw [show (xs.map enc).take i.toNat = (xs.take i.toNat).map enc from (List.map_take ..).symm] at hr2
    generalize hz : List.replicate ((xs.length : Int) + 1 - i).toNat zs = Z at hr2
    have hzl : Z.length = xs.length - i.toNat + 1 := by rw [← hz, List.length_replicate]; omega
    refine s_ek (.slice (some ⟨H.next, 0, none⟩) (xs.length + 1) (xs.length + 1)) (x := aAppend Go.Proofs.Tryz.prog #[49, 3] (.slice (some ⟨b, 0, none⟩) i.toNat c) (.int .i64 ((xs.length : Int) + 1 - i)) H) (by kernel_rfl) ha ?_
    refine s_qk (.slice (some ⟨H.next, 0, none⟩) (xs.length + 1) (xs.length + 1)) (by kernel_rfl) ?_
    refine s_nil ?_
    refine k12 _ _ ?_
    refine w_seqk fun K13 k13 => ?_
    refine w_reg (by kernel_rfl) ?_
    refine s_qk (.slice (some ⟨H.next, 0, none⟩) (xs.length + 1) (xs.length + 1)) (by kernel_rfl) ?_
    refine s_qk (.int .i64 i) (by kernel_rfl) ?_
    refine s_ql (.slice (some ⟨H.next, i.toNat * 3, none⟩) (xs.length + 1 - i.toNat) (xs.length + 1 - i.toNat)) (x := aSlice Go.Proofs.Tryz.prog 49 (.slice (some ⟨H.next, 0, none⟩) (xs.length + 1) (xs.length + 1)) (some (.int .i64 i)) none none H2) (by kernel_rfl) (hr2.slo (by kernel_rfl) g0 (by omega) (by omega) (by omega)) ?_
    refine s_qk (.slice (some ⟨tb, 0, none⟩) 1 tc) (by kernel_rfl) ?_
    have tcell2 : H2.cells tb 0 ([enc y].length * 3) = some ([enc y].flatMap id) := by
      rw [← tcell]; unfold AH.cells; rw [he2.same tb tlt]; rfl
    obtain ⟨H3, hc3, f3, n3, r3⟩ := hr2.copy (P := Go.Proofs.Tryz.prog) (at_ := #[49, 49]) (t0 := 49) (m := 24) (o := i.toNat) (n1 := xs.length + 1 - i.toNat) (c1 := xs.length + 1 - i.toNat) (b2 := tb) (o2 := 0) (n2 := 1) (c2 := tc) (us := [enc y]) (φ := H.next) he2.wf (.inr rfl) rfl (by kernel_rfl) tcell2 (by simp only [List.length_cons, List.length_nil]; omega) hyl (by rw [List.length_append, hal, hzl]; simp only [List.length_cons, List.length_nil]; omega)
    refine s_ek _ (x := aCopy Go.Proofs.Tryz.prog #[49, 49] (.slice (some ⟨H.next, i.toNat * 3, none⟩) (xs.length + 1 - i.toNat) (xs.length + 1 - i.toNat)) (.slice (some ⟨tb, 0, none⟩) 1 tc) H2) (by kernel_rfl) hc3 ?_
    refine s_nil ?_
    refine k13 _ _ ?_
    have hbn : b < H2.next := by have := hr.lt; omega
    have hrb : Rw H3 b .own 3 (xs.map enc) := (hr.fr (he2.frS []) (fun h => by cases h)).fr (f3.frS (W := [H.next]) (List.mem_singleton.2 rfl)) (by
      have : tokOf H2 b = b := by simp [tokOf, he2.same b hr.lt, hr.get]
      rw [this]; intro h; have := List.mem_singleton.1 h; have := hr.lt; omega)
    refine w_seqk fun K14 k14 => ?_
    refine w_draw [0, 1, 2, 3, 4, 5, 6, 7, 8] (by kernel_rfl) ?_
    refine d_qk (.slice (some ⟨H.next, 0, none⟩) (xs.length + 1) (xs.length + 1)) (by kernel_rfl) ?_
    refine d_qk (.int .i64 i) (by kernel_rfl) ?_
    refine d_qk (.int .i64 1) (by kernel_rfl) ?_
    refine d_w (i + 1) (k := .i64) (x := i + 1) (by kernel_rfl) (wrap64 ⟨by omega, by omega⟩) ?_
    refine d_ql (.slice (some ⟨H.next, (i + 1).toNat * 3, none⟩) (xs.length + 1 - (i + 1).toNat) (xs.length + 1 - (i + 1).toNat)) (x := aSlice Go.Proofs.Tryz.prog 49 (.slice (some ⟨H.next, 0, none⟩) (xs.length + 1) (xs.length + 1)) (some (.int .i64 (i + 1))) none none H3) (by kernel_rfl) (r3.slo (by kernel_rfl) (by omega) (by omega) (by omega) (by omega)) ?_
    refine d_qk (.slice (some ⟨b, 0, none⟩) xs.length c) (by kernel_rfl) ?_
    refine d_qk (.int .i64 i) (by kernel_rfl) ?_
    refine d_ql (.slice (some ⟨b, i.toNat * 3, none⟩) (xs.length - i.toNat) (c - i.toNat)) (x := aSlice Go.Proofs.Tryz.prog 49 (.slice (some ⟨b, 0, none⟩) xs.length c) (some (.int .i64 i)) none none H3) (by kernel_rfl) (hrb.slo (by kernel_rfl) (by omega) (by omega) (by omega) (by omega)) ?_
    have ccell : H3.cells b (i.toNat * 3) (((xs.drop i.toNat).map enc).length * 3) = some (((xs.drop i.toNat).map enc).flatMap id) := by
      rw [hdl]
      have := hrb.cells (o := i.toNat) (n := xs.length - i.toNat) (by rw [hmap]; omega)
      rw [hus] at this; exact this
    obtain ⟨H4, hc4, f4, n4, r4⟩ := r3.copy (P := Go.Proofs.Tryz.prog) (at_ := #[49, 49]) (t0 := 49) (m := 24) (o := (i + 1).toNat) (n1 := xs.length + 1 - (i + 1).toNat) (c1 := xs.length + 1 - (i + 1).toNat) (b2 := b) (o2 := i.toNat * 3) (n2 := xs.length - i.toNat) (c2 := c - i.toNat) (us := (xs.drop i.toNat).map enc) (φ := H.next) f3.wf (.inr rfl) rfl (by kernel_rfl) ccell (by rw [hdl]; omega) hd3
      (by rw [hdl]; simp only [List.length_append, List.length_take, List.length_drop, hal, hzl, List.length_cons, List.length_nil]; omega)
    refine d_ek _ (x := aCopy Go.Proofs.Tryz.prog #[49, 49] (.slice (some ⟨H.next, (i + 1).toNat * 3, none⟩) (xs.length + 1 - (i + 1).toNat) (xs.length + 1 - (i + 1).toNat)) (.slice (some ⟨b, i.toNat * 3, none⟩) (xs.length - i.toNat) (c - i.toNat)) H3) (by kernel_rfl) hc4 trivial ?_
    refine d_nil ?_
    refine k14 _ _ ?_
    refine w_seqk fun K15 k15 => ?_
    refine w_reg (by kernel_rfl) ?_
    refine s_qk (.slice (some ⟨H.next, 0, none⟩) (xs.length + 1) (xs.length + 1)) (by kernel_rfl) ?_
    refine s_qk (.slice (some ⟨H.next, 0, none⟩) (xs.length + 1) (xs.length + 1)) (by kernel_rfl) ?_
    refine s_nil ?_
    refine k15 _ _ ?_
    refine w_ret ?_
    dsimp only [thenA]
    refine b_ret (fn := Go.Proofs.Tryz.f53) (vs := [.slice (some ⟨H.next, 0, none⟩) (xs.length + 1) (xs.length + 1)]) (aRes_tmp (by kernel_rfl) (rfl)) ?_
    have hfin := ins_grow (y := enc y) hal hzl hdl
    rw [hdl, show (i + 1).toNat = i.toNat + 1 by omega] at r4
    rw [show ([enc y] : List (List Value)).length = 1 from rfl, hfin] at r4
    have hlt4 : H.next < H4.next := by omega
    refine ⟨[H.next], ?_, r4.ow (.inr rfl) (J := []) (by rw [hnmap, List.append_nil]) hone' hlt4 hnl ?_, fun u hu => .inr (by rw [List.mem_singleton.1 hu]; exact Nat.le_refl _)⟩
    · have a1 : FrS [b] H H2 := he2.frS [b]
      have hin : Inn [b] H [H.next] := fun u hu => .inr (by rw [List.mem_singleton.1 hu]; exact Nat.le_refl _)
      have a2 := a1.step wf (f3.frS (W := [H.next]) (List.mem_singleton.2 rfl)) hin
      exact a2.step wf (f4.frS (W := [H.next]) (List.mem_singleton.2 rfl)) hin
    · simp only [List.length_append, hal, hdl, List.length_cons, List.length_nil]; omega
  -- in place
  refine w_skip ?_
  refine k11 _ _ ?_
  have hJ1 : 1 ≤ J.length := by omega
  have hn1 : ((xs.length : Int) + 1).toNat = xs.length + 1 := by omega
  refine w_seqk fun K21 k21 => ?_
  refine w_reg (by kernel_rfl) ?_
  refine s_qk (.slice (some ⟨b, 0, none⟩) xs.length c) (by kernel_rfl) ?_
  refine s_qk (.int .i64 xs.length) (by kernel_rfl) ?_
  refine s_qk (.int .i64 1) (by kernel_rfl) ?_
  refine s_w ((xs.length : Int) + 1) (k := .i64) (x := (xs.length : Int) + 1) (by kernel_rfl) (wrap64 ⟨by omega, by omega⟩) ?_
  refine s_ql (.slice (some ⟨b, 0, none⟩) (xs.length + 1) c) (x := aSlice Go.Proofs.Tryz.prog 49 (.slice (some ⟨b, 0, none⟩) xs.length c) none (some (.int .i64 ((xs.length : Int) + 1))) none H) (by kernel_rfl) (by have := hr.shi (P := Go.Proofs.Tryz.prog) (t := 49) (kk := .i64) (i := (xs.length : Int) + 1) (n := xs.length) (c := c) (by kernel_rfl) (by omega) (by omega); rw [hn1] at this; exact this) ?_
  refine s_qk (.slice (some ⟨b, 0, none⟩) (xs.length + 1) c) (by kernel_rfl) ?_
  refine s_nil ?_
  refine k21 _ _ ?_
  refine w_seqk fun K23 k23 => ?_
  refine w_seqk fun K22 k22 => ?_
  refine w_reg (by kernel_rfl) ?_
  refine s_qk (.slice (some ⟨tb, 0, none⟩) 1 tc) (by kernel_rfl) ?_
  refine s_qk (.slice (some ⟨b, 0, none⟩) (xs.length + 1) c) (by kernel_rfl) ?_
  refine s_qk (.int .i64 i) (by kernel_rfl) ?_
  refine s_qk (.int .i64 1) (by kernel_rfl) ?_
  refine s_w (i + 1) (k := .i64) (x := i + 1) (by kernel_rfl) (wrap64 ⟨by omega, by omega⟩) ?_
  have hsl2 : aSlice Go.Proofs.Tryz.prog 49 (.slice (some ⟨b, 0, none⟩) (xs.length + 1) c) (some (.int .i64 (i + 1))) none none H = some (.slice (some ⟨b, (i + 1).toNat * 3, none⟩) (xs.length + 1 - (i + 1).toNat) (c - (i + 1).toNat)) := hr.slo (by kernel_rfl) (by omega) (by omega) (by omega) (by omega)
  have hsl1 : aSlice Go.Proofs.Tryz.prog 49 (.slice (some ⟨b, 0, none⟩) (xs.length + 1) c) (some (.int .i64 i)) none none H = some (.slice (some ⟨b, i.toNat * 3, none⟩) (xs.length + 1 - i.toNat) (c - i.toNat)) := hr.slo (by kernel_rfl) (by omega) (by omega) (by omega) (by omega)
  refine s_ql (.slice (some ⟨b, (i + 1).toNat * 3, none⟩) (xs.length + 1 - (i + 1).toNat) (c - (i + 1).toNat)) (x := aSlice Go.Proofs.Tryz.prog 49 (.slice (some ⟨b, 0, none⟩) (xs.length + 1) c) (some (.int .i64 (i + 1))) none none H) (by kernel_rfl) hsl2 ?_
  refine s_ov (g := 65) (fn := Go.Proofs.Tryz.f65) (tS := 49) (tR := 4) (tb := tb) (tc := tc) (b := b) (off := (i + 1).toNat * 3) (n := xs.length + 1 - (i + 1).toNat) (c := c - (i + 1).toNat) (sz := 3) (kt := kt) (ct := ct) rfl (by kernel_rfl) (by kernel_rfl) Go.Proofs.Tryz.func65 (by kernel_rfl) (by kernel_rfl) (by kernel_rfl) (by kernel_rfl) (by kernel_rfl) (by kernel_rfl) (by kernel_rfl) (by omega) tg tk.1 hr.get ?_ htb ?_
  · rw [flat_len (enc := id) hr.len]; omega
  refine s_qk (.bool true) (by kernel_rfl) ?_
  refine s_nil ?_
  refine k22 _ _ ?_
  refine w_cond true (by kernel_rfl) rfl (fun _ => ?_) (fun h => by cases h)
  refine w_seqk fun K24 k24 => ?_
  refine w_draw [0, 1, 2, 3, 4, 5, 6, 7, 8] (by kernel_rfl) ?_
  refine d_qk (.slice (some ⟨b, 0, none⟩) (xs.length + 1) c) (by kernel_rfl) ?_
  refine d_qk (.int .i64 i) (by kernel_rfl) ?_
  refine d_qk (.int .i64 1) (by kernel_rfl) ?_
  refine d_w (i + 1) (k := .i64) (x := i + 1) (by kernel_rfl) (wrap64 ⟨by omega, by omega⟩) ?_
  refine d_ql (.slice (some ⟨b, (i + 1).toNat * 3, none⟩) (xs.length + 1 - (i + 1).toNat) (c - (i + 1).toNat)) (x := aSlice Go.Proofs.Tryz.prog 49 (.slice (some ⟨b, 0, none⟩) (xs.length + 1) c) (some (.int .i64 (i + 1))) none none H) (by kernel_rfl) hsl2 ?_
  refine d_qk (.slice (some ⟨b, 0, none⟩) (xs.length + 1) c) (by kernel_rfl) ?_
  refine d_qk (.int .i64 i) (by kernel_rfl) ?_
  refine d_ql (.slice (some ⟨b, i.toNat * 3, none⟩) (xs.length + 1 - i.toNat) (c - i.toNat)) (x := aSlice Go.Proofs.Tryz.prog 49 (.slice (some ⟨b, 0, none⟩) (xs.length + 1) c) (some (.int .i64 i)) none none H) (by kernel_rfl) hsl1 ?_
  have ccell : H.cells b (i.toNat * 3) (((xs.drop i.toNat).map enc).length * 3) = some (((xs.drop i.toNat).map enc).flatMap id) := by
    rw [hdl]
    have := hr.cells (o := i.toNat) (n := xs.length - i.toNat) (by rw [List.length_append, hmap]; omega)
    rw [hus] at this; exact this
  obtain ⟨H2, hc2, f2, n2, r2⟩ := hr.copy (P := Go.Proofs.Tryz.prog) (at_ := #[49, 49]) (t0 := 49) (m := 24) (o := (i + 1).toNat) (n1 := xs.length + 1 - (i + 1).toNat) (c1 := c - (i + 1).toNat) (b2 := b) (o2 := i.toNat * 3) (n2 := xs.length + 1 - i.toNat) (c2 := c - i.toNat) (us := (xs.drop i.toNat).map enc) (φ := b) wf (.inl ⟨rfl, rfl⟩) rfl (by kernel_rfl) ccell (by rw [hdl]; omega) hd3
    (by rw [hdl, List.length_append, hmap]; omega)
  refine d_ek _ (x := aCopy Go.Proofs.Tryz.prog #[49, 49] (.slice (some ⟨b, (i + 1).toNat * 3, none⟩) (xs.length + 1 - (i + 1).toNat) (c - (i + 1).toNat)) (.slice (some ⟨b, i.toNat * 3, none⟩) (xs.length + 1 - i.toNat) (c - i.toNat)) H) (by kernel_rfl) hc2 trivial ?_
  refine d_nil ?_
  refine k24 _ _ ?_
  refine w_seqk fun K25 k25 => ?_
  refine w_reg (by kernel_rfl) ?_
  refine s_qk (.slice (some ⟨b, 0, none⟩) (xs.length + 1) c) (by kernel_rfl) ?_
  refine s_qk (.int .i64 i) (by kernel_rfl) ?_
  refine s_ql (.slice (some ⟨b, i.toNat * 3, none⟩) (xs.length + 1 - i.toNat) (c - i.toNat)) (x := aSlice Go.Proofs.Tryz.prog 49 (.slice (some ⟨b, 0, none⟩) (xs.length + 1) c) (some (.int .i64 i)) none none H2) (by kernel_rfl) (r2.slo (by kernel_rfl) g0 (by omega) (by omega) (by omega)) ?_
  refine s_qk (.slice (some ⟨tb, 0, none⟩) 1 tc) (by kernel_rfl) ?_
  have tcell2 : H2.cells tb 0 ([enc y].length * 3) = some ([enc y].flatMap id) := by
    rw [← tcell]; unfold AH.cells
    rw [f2.same tb tlt (fun e => dj b (List.mem_singleton.2 rfl) (by rw [← e]; exact tk.2))]; rfl
  obtain ⟨H3, hc3, f3, n3, r3⟩ := r2.copy (P := Go.Proofs.Tryz.prog) (at_ := #[49, 49]) (t0 := 49) (m := 24) (o := i.toNat) (n1 := xs.length + 1 - i.toNat) (c1 := c - i.toNat) (b2 := tb) (o2 := 0) (n2 := 1) (c2 := tc) (us := [enc y]) (φ := b) f2.wf (.inl ⟨rfl, rfl⟩) rfl (by kernel_rfl) tcell2 (by simp only [List.length_cons, List.length_nil]; omega) hyl
    (by simp only [List.length_append, List.length_take, List.length_drop, hdl, hmap, List.length_cons, List.length_nil]; omega)
  refine s_ek _ (x := aCopy Go.Proofs.Tryz.prog #[49, 49] (.slice (some ⟨b, i.toNat * 3, none⟩) (xs.length + 1 - i.toNat) (c - i.toNat)) (.slice (some ⟨tb, 0, none⟩) 1 tc) H2) (by kernel_rfl) hc3 ?_
  refine s_nil ?_
  refine k25 _ _ ?_
  refine w_seqk fun K26 k26 => ?_
  refine w_reg (by kernel_rfl) ?_
  refine s_qk (.slice (some ⟨b, 0, none⟩) (xs.length + 1) c) (by kernel_rfl) ?_
  refine s_qk (.slice (some ⟨b, 0, none⟩) (xs.length + 1) c) (by kernel_rfl) ?_
  refine s_nil ?_
  refine k26 _ _ ?_
  refine w_ret ?_
  dsimp only [thenA]
  refine b_ret (fn := Go.Proofs.Tryz.f53) (vs := [.slice (some ⟨b, 0, none⟩) (xs.length + 1) c]) (aRes_tmp (by kernel_rfl) (rfl)) ?_
  have hfin := ins_here (y := enc y) hal hJ1 hdl
  rw [hdl, show (i + 1).toNat = i.toNat + 1 by omega, hsplit] at r3
  rw [show ([enc y] : List (List Value)).length = 1 from rfl, hfin] at r3
  have hlt3 : b < H3.next := r3.lt
  refine ⟨[b], ?_, r3.ow (.inl ⟨rfl, rfl⟩) (J := J.drop 1) (by rw [hnmap]) hone' hlt3 hnl ?_, Inn.self⟩
  · exact (f2.frS (W := [b]) (List.mem_singleton.2 rfl)).step wf (f3.frS (W := [b]) (List.mem_singleton.2 rfl)) Inn.self
  · simp only [List.length_append, hal, hdl, List.length_drop, List.length_cons, List.length_nil]; omega
end
end Go.Vd

/-! (InC) -/

set_option maxRecDepth 100000
set_option maxHeartbeats 4000000
set_option linter.unusedVariables false
set_option linter.unusedSimpArgs false
namespace Go.Vd
section
variable {α : Type}
theorem del_here {a d u J z : List α} {i j m : Nat} (ha : a.length = i) (hd : d.length = j) (hu : u.length = m) (hz : z.length = j) :
    ((a ++ (d ++ u) ++ J).take i ++ u ++ (a ++ (d ++ u) ++ J).drop (i + m)).take (i + m) ++ z ++ ((a ++ (d ++ u) ++ J).take i ++ u ++ (a ++ (d ++ u) ++ J).drop (i + m)).drop (i + m + j) = a ++ u ++ (z ++ J) := by
  subst ha; subst hd; subst hu
  have h1 : (a ++ (d ++ u) ++ J).take a.length = a := by rw [List.append_assoc]; exact List.take_left
  have hl : (a ++ u).length = a.length + u.length := List.length_append
  have h2 : ∀ W : List α, (a ++ u ++ W).take (a.length + u.length) = a ++ u := fun W => by rw [← hl]; exact List.take_left
  have h3 : ∀ W : List α, (a ++ u ++ W).drop (a.length + u.length + d.length) = W.drop d.length := fun W => by
    rw [← hl, ← List.drop_drop, List.drop_left]
  rw [h1, h2, h3, List.drop_drop]
  have h4 : (a ++ (d ++ u) ++ J).drop (a.length + u.length + d.length) = J := by
    have : a.length + u.length + d.length = (a ++ (d ++ u)).length := by simp; omega
    rw [this]; exact List.drop_left
  rw [h4]; simp
end
section
variable [Pins]
variable {H : AH} {E : Type} {enc : E → List Value} {s t : Value} {xs : List E} {y : E} {fp fs ft : Fp} {i j : Int}
theorem a_Insert (wf : WF H) (h : Ow enc 3 H s xs fp) (ht : Ow enc 3 H t [y] ft) (dj : Dj fp ft) (g : 0 ≤ i ∧ i ≤ (xs.length : Int) ∧ (xs.length : Int) ≤ 1000000000) :
    ACalls Go.Proofs.Tryz.prog 53 #[s, .int .i64 i, t] H fun v H' => ∃ fp', FrS fp H H' ∧ Ow enc 3 H' v (xs.take i.toNat ++ ([y] ++ xs.drop i.toNat)) fp' ∧ Inn fp H fp' :=
  a_spread (rest := [.int .i64 i, t]) wf h fun s' H' fs wf' hf hs hi => a_insert0 wf' hs (ht.fr hf dj) (hi.dj dj ht.lt) g

/-- An append to the beginning of a row, that stays in it. -/
theorem Rw.app {P : Program} {b b2 o2 n2 c2 n c m : Nat} {css us : List (List Value)} {at_ : Array TypeId} {t0 t1 : TypeId} (hw : WF H) (h : Rw H b .own 3 css) (a0 : at_[0]? = some t0) (a1 : at_[1]? = some t1) (hT' : slSz P t0 = some (3, m)) (hT1' : isSl P t1 = true)
    (hc : H.cells b2 o2 (us.length * 3) = some (us.flatMap id)) (hn2 : us.length = n2) (h1 : ∀ x ∈ us, allOne x = true) (hl : ∀ x ∈ us, x.length = 3) (hroom : n + us.length ≤ c) (hcc : css.length = c) :
    ∃ H', aAppend P at_ (.slice (some ⟨b, 0, none⟩) n c) (.slice (some ⟨b2, o2, none⟩) n2 c2) H = some (.slice (some ⟨b, 0, none⟩) (n + us.length) c, H') ∧ Fr b H H' ∧ H'.next = H.next ∧ Rw H' b .own 3 (css.take n ++ us ++ css.drop (n + us.length)) := by
  subst hn2
  obtain ⟨z, hT⟩ := slSz_spec hT'
  obtain ⟨e1, hT1⟩ := isSl_spec hT1'
  obtain ⟨e, i, hu1, hi, hel, hs, hb⟩ := slT_spec hT
  have hone : allOne (us.flatMap id) = true := allOne_flat (enc := id) h1
  have key : aAppend P at_ (.slice (some ⟨b, 0, none⟩) n c) (.slice (some ⟨b2, o2, none⟩) us.length c2) H = AH.append H 3 m (.slice (some ⟨b, 0, none⟩) n c) us.length (us.flatMap id) := by
    unfold aAppend
    rw [a0, a1]
    simp only [Option.bind_some, hel, hT1, hs, hb, hc, hone, if_true]
  have hlen := flat_len (enc := id) (sz := 3) hl
  rw [key]
  unfold AH.append
  rw [if_neg (by omega)]
  dsimp only
  rw [if_pos hroom]
  by_cases h0 : us.length = 0
  · obtain rfl := List.eq_nil_of_length_eq_zero h0
    exact ⟨H, by simp, (Ext.refl hw).toFr b, rfl, by simpa using h⟩
  · obtain ⟨H', p1, p2, p3, p4⟩ := h.put hw (.inl ⟨rfl, rfl⟩) (o := n) (us := us) hl (by omega)
    refine ⟨H', ?_, p2, p3, p4⟩
    rw [if_neg h0, Nat.zero_add, p1]; rfl

theorem Rw.clear {P : Program} {b o n c m : Nat} {css : List (List Value)} {at_ : Array TypeId} {t0 : TypeId} (hw : WF H) (h : Rw H b .own 3 css) (a0 : at_[0]? = some t0) (hT' : slSz P t0 = some (3, m)) (hroom : o + n ≤ css.length) :
    ∃ H' Z, Z.length = n ∧ aClear P at_ (.slice (some ⟨b, o * 3, none⟩) n c) H = some H' ∧ Fr b H H' ∧ H'.next = H.next ∧ Rw H' b .own 3 (css.take o ++ Z ++ css.drop (o + n)) := by
  obtain ⟨z, hT⟩ := slSz_spec hT'
  obtain ⟨e, i, hu1, hi, hel, hs, hb⟩ := slT_spec hT
  have hzl : z.cells.toList.length = 3 := by
    unfold elemInfo at hel
    rw [hu1] at hel
    dsimp only at hel
    rw [hi] at hel
    dsimp only at hel
    split at hel
    · split at hel
      · rename_i hh; cases hel; rw [← hs]; simpa using hh.1
      · cases hel
    · cases hel
  have hel0 : at_[0]?.bind (elemInfo P) = some (e, i, z) := by rw [a0]; exact hel
  have hZ : zerosOf z n = (List.replicate n z.cells.toList).flatMap id := by unfold zerosOf; rw [List.flatMap_id]
  have hZl : (List.replicate n z.cells.toList).length = n := List.length_replicate
  obtain ⟨H', p1, p2, p3, p4⟩ := h.put hw (.inl ⟨rfl, rfl⟩) (o := o) (us := List.replicate n z.cells.toList) (fun x hx => by rw [(List.mem_replicate.1 hx).2]; exact hzl) (by rw [hZl]; exact hroom)
  by_cases h0 : n = 0
  · subst h0
    refine ⟨H, [], rfl, ?_, (Ext.refl hw).toFr b, rfl, by simpa using h⟩
    unfold aClear
    rw [hel0]
    simp
  · refine ⟨H', List.replicate n z.cells.toList, hZl, ?_, p2, p3, by rw [hZl] at p4; exact p4⟩
    unfold aClear
    rw [hel0]
    dsimp only
    rw [if_neg h0, hZ, p1]

attribute [local irreducible] wpSeq wpOrd aWp
theorem a_delete0 (wf : WF H) (hs : InS enc H s xs fs) (g : 0 ≤ i ∧ i ≤ j ∧ j ≤ (xs.length : Int) ∧ (xs.length : Int) ≤ 1000000000) :
    ACalls Go.Proofs.Tryz.prog 52 #[s, .int .i64 i, .int .i64 j] H fun v H' => ∃ fp', FrS fs H H' ∧ Ow enc 3 H' v (xs.take i.toNat ++ xs.drop j.toNat) fp' ∧ Inn fs H fp' := by
  obtain ⟨g0, g1, g2, g3⟩ := g
  refine acalls_of_body mixed Go.Proofs.Tryz.func52 rfl (Nat.le_of_ble_eq_true rfl) ?_
  refine w_seqk fun K1 k1 => ?_
  refine w_reg (by kernel_rfl) ?_
  refine s_qk (.slice none 0 0) (by kernel_rfl) ?_
  refine s_nil ?_
  refine k1 _ _ ?_
  refine w_seqk fun K2 k2 => ?_
  refine w_reg (by kernel_rfl) ?_
  refine s_qk s (by kernel_rfl) ?_
  refine s_qk (.int .i64 i) (by kernel_rfl) ?_
  refine s_qk (.int .i64 j) (by kernel_rfl) ?_
  refine s_qk s (by kernel_rfl) ?_
  refine s_ql (.int .i64 xs.length) (x := aLen Go.Proofs.Tryz.prog 49 s H) (by kernel_rfl) (hs.ow.sq.lenb (by kernel_rfl)) ?_
  obtain ⟨b0, n0, c0, cb0, hs3, hc0⟩ : ∃ b0 n0 c0 cb0, (((s = .slice none 0 0 ∨ s = voidS) ∧ c0 = 0) ∨ (s = .slice (some ⟨b0, 0, none⟩) n0 c0 ∧ H.get b0 = some (.row .own cb0))) ∧ xs.length ≤ c0 := by
    rcases hs.is with ⟨h, rfl⟩ | ⟨b, c, J, h, _, hr, hJ⟩
    · exact ⟨0, 0, 0, [], .inl ⟨h, rfl⟩, Nat.le_refl _⟩
    · exact ⟨b, xs.length, c, _, .inr ⟨h, hr.get⟩, by omega⟩
  refine s_s3 (b := b0) (n := n0) (c := c0) (cb := cb0) (sz := 3) (s := s) (k1 := .i64) (k2 := .i64) (k3 := .i64) (i := i) (j := j) (m := xs.length) rfl (by kernel_rfl) (by kernel_rfl) (by kernel_rfl) hs3 (by kernel_rfl) (by kernel_rfl) (by kernel_rfl) g0 g1 g2 (by omega) fun v3 => ?_
  refine s_nil ?_
  refine k2 _ _ ?_
  refine w_seqk fun K4 k4 => ?_
  refine w_seqk fun K3 k3 => ?_
  refine w_reg (by kernel_rfl) ?_
  refine s_qk (.int .i64 i) (by kernel_rfl) ?_
  refine s_qk (.int .i64 j) (by kernel_rfl) ?_
  refine s_qk (.bool (decide (i = j))) (by kernel_rfl) ?_
  refine s_nil ?_
  refine k3 _ _ ?_
  refine w_condp (i = j) (by kernel_rfl) rfl (fun h => ?_) (fun hi => ?_)
  · refine w_seqk fun K9 k9 => ?_
    refine w_reg (by kernel_rfl) ?_
    refine s_qk s (by kernel_rfl) ?_
    refine s_qk s (by kernel_rfl) ?_
    refine s_nil ?_
    refine k9 _ _ ?_
    refine w_ret ?_
    dsimp only [thenA]
    refine b_ret (fn := Go.Proofs.Tryz.f52) (vs := [s]) (aRes_tmp (by kernel_rfl) (rfl)) ?_
    refine ⟨fs, .refl wf, ?_, Inn.self⟩
    rw [h, List.take_append_drop]
    exact hs.ow
  rcases hs.is with ⟨_, rfl⟩ | ⟨b, c, J, rfl, rfl, hr, hJ⟩
  · simp at g2; omega
  have hmap : (xs.map enc).length = xs.length := List.length_map ..
  have hcl : (xs.map enc ++ J).length = c := by rw [List.length_append, hmap]; exact hJ
  have hone : ∀ x ∈ xs, allOne (enc x) = true := by
    rcases hs.ow.is with ⟨_, rfl⟩ | ⟨φ, _, o⟩
    · intro x hx; cases hx
    · exact o.one
  have hlen3 : ∀ x ∈ xs, (enc x).length = 3 := fun x hx => hr.len _ (List.mem_append_left _ (List.mem_map_of_mem hx))
  have hul : ((xs.drop j.toNat).map enc).length = xs.length - j.toNat := by simp
  have hu3 : ∀ x ∈ (xs.drop j.toNat).map enc, x.length = 3 := fun x hx => by
    obtain ⟨u, hu, rfl⟩ := List.mem_map.1 hx
    exact hlen3 u (List.mem_of_mem_drop hu)
  have hu1 : ∀ x ∈ (xs.drop j.toNat).map enc, allOne x = true := fun x hx => by
    obtain ⟨u, hu, rfl⟩ := List.mem_map.1 hx
    exact hone u (List.mem_of_mem_drop hu)
  have hal : ((xs.take i.toNat).map enc).length = i.toNat := by simp; omega
  have hdl : (((xs.drop i.toNat).take (j.toNat - i.toNat)).map enc).length = j.toNat - i.toNat := by simp; omega
  have hsplit : xs.map enc = (xs.take i.toNat).map enc ++ (((xs.drop i.toNat).take (j.toNat - i.toNat)).map enc ++ (xs.drop j.toNat).map enc) := by
    have e1 : xs.drop j.toNat = (xs.drop i.toNat).drop (j.toNat - i.toNat) := by rw [List.drop_drop]; congr 1; omega
    rw [e1, ← List.map_append, ← List.map_append, List.take_append_drop, List.take_append_drop]
  have hus : ((xs.map enc ++ J).drop j.toNat).take (xs.length - j.toNat) = (xs.drop j.toNat).map enc := by
    rw [List.drop_append_of_le_length (by omega), ← List.map_drop, List.take_append_of_le_length (by omega), ← hul, List.take_length]
  have hone' : ∀ x ∈ xs.take i.toNat ++ xs.drop j.toNat, allOne (enc x) = true := fun x hx => by
    rcases List.mem_append.1 hx with hx | hx
    · exact hone x (List.mem_of_mem_take hx)
    · exact hone x (List.mem_of_mem_drop hx)
  have hnl : (xs.take i.toNat ++ xs.drop j.toNat).length = i.toNat + (xs.length - j.toNat) := by simp; omega
  refine w_skip ?_
  refine k4 _ _ ?_
  refine w_seqk fun K5 k5 => ?_
  refine w_reg (by kernel_rfl) ?_
  refine s_qk (.slice (some ⟨b, 0, none⟩) xs.length c) (by kernel_rfl) ?_
  refine s_ql (.int .i64 xs.length) (x := aLen Go.Proofs.Tryz.prog 49 (.slice (some ⟨b, 0, none⟩) xs.length c) H) (by kernel_rfl) (hs.ow.sq.lenb (by kernel_rfl)) ?_
  refine s_qk (.int .i64 xs.length) (by kernel_rfl) ?_
  refine s_nil ?_
  refine k5 _ _ ?_
  -- what stays is put behind the beginning
  obtain ⟨o2, c2, hsl, hcell⟩ : ∃ o2 c2, aSlice Go.Proofs.Tryz.prog 49 (.slice (some ⟨b, 0, none⟩) xs.length c) (some (.int .i64 j)) none none H = some (.slice (some ⟨b, o2, none⟩) (xs.length - j.toNat) c2) ∧ H.cells b o2 (((xs.drop j.toNat).map enc).length * 3) = some (((xs.drop j.toNat).map enc).flatMap id) := by
    by_cases hjc : j < (c : Int)
    · refine ⟨_, _, hr.slo (by kernel_rfl) (by omega) g2 (by omega) hjc, ?_⟩
      rw [hul]
      have := hr.cells (o := j.toNat) (n := xs.length - j.toNat) (by rw [hcl]; omega)
      rw [hus] at this; exact this
    · obtain ⟨m, z, hT⟩ := slOne_spec (P := Go.Proofs.Tryz.prog) (t := 49) (n := 3) (by kernel_rfl)
      obtain ⟨e, inf, hu, hi', _⟩ := slT_spec hT
      refine ⟨0, c - j.toNat, ?_, ?_⟩
      · unfold aSlice
        simp only [hu, hi', aBound, show 0 ≤ j by omega, if_true, hr.get]
        rw [if_pos (by omega), if_neg (by simp [AObj.isLoose]; omega)]
      · rw [show (xs.drop j.toNat).map enc = [] from List.eq_nil_of_length_eq_zero (by omega)]
        have := hr.cells (o := 0) (n := 0) (by omega)
        simpa using this
  refine w_seqk fun K6 k6 => ?_
  refine w_draw [0, 1, 2, 3, 4, 5, 6, 7] (by kernel_rfl) ?_
  refine d_qk (.slice (some ⟨b, 0, none⟩) xs.length c) (by kernel_rfl) ?_
  refine d_qk (.int .i64 i) (by kernel_rfl) ?_
  refine d_ql (.slice (some ⟨b, 0, none⟩) i.toNat c) (x := aSlice Go.Proofs.Tryz.prog 49 (.slice (some ⟨b, 0, none⟩) xs.length c) none (some (.int .i64 i)) none H) (by kernel_rfl) (hr.shi (by kernel_rfl) g0 (by omega)) ?_
  refine d_qk (.slice (some ⟨b, 0, none⟩) xs.length c) (by kernel_rfl) ?_
  refine d_qk (.int .i64 j) (by kernel_rfl) ?_
  refine d_ql (.slice (some ⟨b, o2, none⟩) (xs.length - j.toNat) c2) (x := aSlice Go.Proofs.Tryz.prog 49 (.slice (some ⟨b, 0, none⟩) xs.length c) (some (.int .i64 j)) none none H) (by kernel_rfl) hsl ?_
  obtain ⟨H2, ha2, f2, n2, r2⟩ := hr.app (P := Go.Proofs.Tryz.prog) (at_ := #[49, 49]) (t0 := 49) (t1 := 49) (m := 24) (n := i.toNat) (c := c) (b2 := b) (o2 := o2) (n2 := xs.length - j.toNat) (c2 := c2) (us := (xs.drop j.toNat).map enc) wf rfl rfl (by kernel_rfl) (by kernel_rfl) hcell hul hu1 hu3 (by rw [hul]; omega) hcl
  refine d_ek _ (x := aAppend Go.Proofs.Tryz.prog #[49, 49] (.slice (some ⟨b, 0, none⟩) i.toNat c) (.slice (some ⟨b, o2, none⟩) (xs.length - j.toNat) c2) H) (by kernel_rfl) ha2 trivial ?_
  generalize hnn : i.toNat + ((xs.drop j.toNat).map enc).length = nn at r2
  refine d_qk (.slice (some ⟨b, 0, none⟩) nn c) (by kernel_rfl) ?_
  refine d_nil ?_
  refine k6 _ _ ?_
  have hnn' : nn = i.toNat + (xs.length - j.toNat) := by rw [← hnn, hul]
  refine w_seqk fun K7 k7 => ?_
  refine w_reg (by kernel_rfl) ?_
  refine s_qk (.slice (some ⟨b, 0, none⟩) nn c) (by kernel_rfl) ?_
  refine s_qk (.slice (some ⟨b, 0, none⟩) nn c) (by kernel_rfl) ?_
  refine s_ql (.int .i64 nn) (x := aLen Go.Proofs.Tryz.prog 49 (.slice (some ⟨b, 0, none⟩) nn c) H2) (by kernel_rfl) (by
    obtain ⟨e, hu⟩ := isSl_spec (P := Go.Proofs.Tryz.prog) (t := 49) (by kernel_rfl)
    unfold aLen; simp only [hu]) ?_
  refine s_qk (.int .i64 xs.length) (by kernel_rfl) ?_
  refine s_ql (.slice (some ⟨b, nn * 3, none⟩) (xs.length - nn) (c - nn)) (x := aSlice Go.Proofs.Tryz.prog 49 (.slice (some ⟨b, 0, none⟩) nn c) (some (.int .i64 nn)) (some (.int .i64 xs.length)) none H2) (by kernel_rfl) (by
    have := r2.sboth (P := Go.Proofs.Tryz.prog) (t := 49) (k1 := .i64) (k2 := .i64) (i := nn) (j := xs.length) (n := nn) (c := c) (by kernel_rfl) (by omega) (by omega) (by omega) (by omega)
    simpa using this) ?_
  have hr2l : ((xs.map enc ++ J).take i.toNat ++ (xs.drop j.toNat).map enc ++ (xs.map enc ++ J).drop nn).length = c := by
    simp only [List.length_append, List.length_take, List.length_drop, hul, hmap]; omega
  obtain ⟨H3, Z, hZ, ha3, f3, n3, r3⟩ := r2.clear (P := Go.Proofs.Tryz.prog) (at_ := #[49]) (t0 := 49) (m := 24) (o := nn) (n := xs.length - nn) (c := c - nn) f2.wf rfl (by kernel_rfl) (by rw [hr2l]; omega)
  refine s_ek (.tuple #[]) (x := (aClear Go.Proofs.Tryz.prog #[49] (.slice (some ⟨b, nn * 3, none⟩) (xs.length - nn) (c - nn)) H2).map fun H' => (.tuple #[], H')) (by kernel_rfl) (by rw [ha3]; rfl) ?_
  refine s_nil ?_
  refine k7 _ _ ?_
  refine w_seqk fun K8 k8 => ?_
  refine w_reg (by kernel_rfl) ?_
  refine s_qk (.slice (some ⟨b, 0, none⟩) nn c) (by kernel_rfl) ?_
  refine s_qk (.slice (some ⟨b, 0, none⟩) nn c) (by kernel_rfl) ?_
  refine s_nil ?_
  refine k8 _ _ ?_
  refine w_ret ?_
  dsimp only [thenA]
  refine b_ret (fn := Go.Proofs.Tryz.f52) (vs := [.slice (some ⟨b, 0, none⟩) nn c]) (aRes_tmp (by kernel_rfl) (rfl)) ?_
  have hfin := del_here (z := Z) (J := J) hal hdl hul (by omega)
  rw [hnn', show i.toNat + (xs.length - j.toNat) + (xs.length - (i.toNat + (xs.length - j.toNat))) = i.toNat + (xs.length - j.toNat) + (j.toNat - i.toNat) by omega, hsplit, hfin] at r3
  refine ⟨[b], ?_, r3.ow (.inl ⟨rfl, rfl⟩) (J := Z ++ J) (by rw [List.map_append]) hone' r3.lt (by rw [hnl, hnn']) ?_, Inn.self⟩
  · exact (f2.frS (W := [b]) (List.mem_singleton.2 rfl)).step wf (f3.frS (W := [b]) (List.mem_singleton.2 rfl)) Inn.self
  · simp only [List.length_append, hal, hul, hZ]; omega
theorem a_Delete (wf : WF H) (h : Ow enc 3 H s xs fp) (g : 0 ≤ i ∧ i ≤ j ∧ j ≤ (xs.length : Int) ∧ (xs.length : Int) ≤ 1000000000) :
    ACalls Go.Proofs.Tryz.prog 52 #[s, .int .i64 i, .int .i64 j] H fun v H' => ∃ fp', FrS fp H H' ∧ Ow enc 3 H' v (xs.take i.toNat ++ xs.drop j.toNat) fp' ∧ Inn fp H fp' :=
  a_spread (rest := [.int .i64 i, .int .i64 j]) wf h fun s' H' fs wf' hf hs hi => a_delete0 wf' hs g
end
end Go.Vd
