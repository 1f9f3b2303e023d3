/-
  errors.As and errors.Is in the evaluator.
-/
import Derived.Test.YtkfblnnococniaaDoorDrG
set_option linter.unusedVariables false
set_option linter.unusedSimpArgs false
namespace Go.Vd
open Go.Proofs Go.Proofs.YtkfblnnococniaaDoor

theorem Rel.set1 {μ : Mu} {H H' : AH} {w : World} (h : Rel μ H w) {b : Nat} {x v v' : Value} {p : Pl} (hb : μ b = some p) (hr : Row H b [x]) (g1 : H.puts b 0 [v] = some H') (hv : VRel μ v v') (h1 : v.oneCell' = true) :
    Rel μ H' (w.setCell ⟨p.blk, p.off, none⟩ v') ∧ Keep μ μ H H' w (w.setCell ⟨p.blk, p.off, none⟩ v') := by
  obtain ⟨w', e1, e2, e3⟩ := h.puts hb g1 (vs' := [v']) (.cons hv .nil) (fun y hy => by rw [List.mem_singleton.1 hy]; exact h1) Tryd.prog
  obtain ⟨old, c1, c2⟩ := h.look hb hr
  have hs : (storeCells ⟨p.blk, p.off + 0, none⟩ [v']).run Tryd.prog w = .ok () (w.setCell ⟨p.blk, p.off, none⟩ v') := by
    simp only [storeCells, Nat.add_zero, Sem.run_bind]
    rw [run_store Tryd.prog w _ v' _ (by rw [hv.one]; exact h1), show (Addr.add ⟨p.blk, p.off, none⟩ 0) = (⟨p.blk, p.off, none⟩ : Addr) from by simp [Addr.add], c1]
    simp [c2, Result.andThen]
  rw [hs] at e1
  cases e1
  exact ⟨e2, e3⟩

theorem x_asF_at {H H' : AH} {tb b : Nat} {x : Value} (hrow : Row H tb [x]) (hp : H.puts tb 0 [.pointer (some ⟨b, 0, none⟩)] = some H') :
    ACalls Tryd.prog 29 #[.iface 78 (.pointer (some ⟨b, 0, none⟩)), .iface 80 (.pointer (some ⟨tb, 0, none⟩))] H fun v H'' => v = .bool true ∧ H'' = H' := by
  intro μ w args' hr ha
  obtain ⟨x', y', rfl, hx, hy⟩ := two ha
  obtain ⟨p, hp1, rfl⟩ := iptr hx
  obtain ⟨q, hq, rfl⟩ := iptr hy
  obtain ⟨old, c1, c2⟩ := hr.look hq hrow
  refine (asF_hit ⟨p.blk, p.off, none⟩ ⟨q.blk, q.off, none⟩ old w hr.pinned c1 c2).mono ?_
  rintro _ _ ⟨rfl, rfl⟩
  have hptr : VRel μ (.pointer (some ⟨b, 0, none⟩)) (.pointer (some ⟨p.blk, p.off, none⟩)) := by simpa using VRel.ptr b 0 p hp1
  obtain ⟨f3, f4⟩ := ((((hr.junk _).junk _).junk _).junk _).set1 hq hrow hp hptr rfl
  refine ⟨_, _, H', μ, rfl, ⟨rfl, rfl⟩, .bool _, f3, ?_⟩
  exact ((((Keep.junk _ _ _ _).trans (Keep.junk _ _ _ _)).trans (Keep.junk _ _ _ _)).trans (Keep.junk _ _ _ _)).trans f4

theorem x_asF_no {H : AH} {tb : Nat} {n : Int} {x : Value} (hrow : Row H tb [x]) :
    ACalls Tryd.prog 29 #[.iface 49 (.int .i64 n), .iface 80 (.pointer (some ⟨tb, 0, none⟩))] H fun v H' => v = .bool false ∧ H' = H := by
  refine (a_asF_no (e := .no n) (fp := []) hrow ⟨.nil, rfl⟩ (by simp [Er.isAt])).mono fun v H' ⟨h1, h2⟩ => ⟨h1, h2.symm⟩

theorem x_asN {H : AH} {tb : Nat} {x hd : Value} {e : Er} {fp : Fp} (hrow : Row H tb [x]) (ev : Ev 49 78 H hd e fp) (hn : e ≠ .nil) (H' : AH) (hh : match e.num with | some n => H.puts tb 0 [.int .i64 n] = some H' | none => H' = H) :
    ACalls Tryd.prog 29 #[hd, .iface 83 (.pointer (some ⟨tb, 0, none⟩))] H fun v H'' => v = .bool e.num.isSome ∧ H'' = H' := by
  intro μ w args' hr ha
  obtain ⟨x', y', rfl, hx, hy⟩ := two ha
  obtain ⟨hlt, hv⟩ := ev
  obtain ⟨l, hm⟩ := hv.mc hr hx
  have hne := hv.nn hx hn
  obtain ⟨q, hq, rfl⟩ := iptr hy
  obtain ⟨old, c1, c2⟩ := hr.look hq hrow
  refine (asN ⟨q.blk, q.off, none⟩ old w x' l e.num hm hne hr.pinned c1 c2).mono ?_
  rintro _ _ ⟨rfl, rfl⟩
  have k3 := ((Keep.junk μ H w (.cells #[.pointer (some ⟨q.blk, q.off, none⟩)] 83)).trans (Keep.junk _ _ _ (.cells #[.pointer (some ⟨1, 83, none⟩), .pointer (some ⟨w.heap.size, 0, none⟩), .int .u64 150] 109))).trans (Keep.junk _ _ _ (.cells #[.pointer (some ⟨1, 83, none⟩), .pointer (some ⟨w.heap.size, 0, none⟩), .int .u64 150] 109))
  have r3 := ((hr.junk (.cells #[.pointer (some ⟨q.blk, q.off, none⟩)] 83)).junk (.cells #[.pointer (some ⟨1, 83, none⟩), .pointer (some ⟨w.heap.size, 0, none⟩), .int .u64 150] 109)).junk (.cells #[.pointer (some ⟨1, 83, none⟩), .pointer (some ⟨w.heap.size, 0, none⟩), .int .u64 150] 109)
  cases hc : e.num with
  | none => rw [hc] at hh; subst hh; exact ⟨_, _, H', μ, rfl, ⟨rfl, rfl⟩, .bool _, r3, k3⟩
  | some n =>
    rw [hc] at hh
    obtain ⟨f3, f4⟩ := (r3.junk (.cells #[.int .i64 n] 49)).set1 hq hrow hh (VRel.int .i64 n) rfl
    exact ⟨_, _, H', μ, rfl, ⟨rfl, rfl⟩, .bool _, f3, (k3.trans (Keep.junk _ _ _ _)).trans f4⟩

/-- What number an error's chain ends in. -/
noncomputable def numE (E : EH) : Nat → Value → Option (Option Int)
  | 0, _ => none
  | k + 1, v => match v with
    | .nilIface => some none
    | .iface t (.int .i64 n) => match Nat.beq t 49 with
      | true => some (some n)
      | false => none
    | .iface t (.pointer (some ⟨b, 0, none⟩)) => match Nat.beq t 78, Nat.blt b E.n, E.get b with
      | true, true, some (.row .own [.int .i64 _, .int .i64 _, u]) => numE E k u
      | _, _, _ => none
    | _ => none

theorem numE_ev {E : EH} : ∀ (k : Nat) (v : Value) (r : Option Int), numE E k v = some r → ∃ e fp, Ev 49 78 E.toAH v e fp ∧ e.num = r ∧ (v ≠ .nilIface → e ≠ .nil) := by
  intro k
  induction k with
  | zero => intro v r h; cases h
  | succ k ih =>
    intro v r h
    unfold numE at h
    split at h
    · cases h; exact ⟨.nil, [], .nil, rfl, fun h => absurd rfl h⟩
    · rename_i t n
      split at h
      · rename_i ht
        cases h
        have := beq_t ht; subst this
        exact ⟨.no n, [], .no, rfl, fun _ => by simp⟩
      · cases h
    · rename_i t b
      split at h
      · rename_i x1 x2 u h1 h2 h3
        have := beq_t h1; subst this
        have hlt : b < E.n := by simpa [Nat.blt_eq] using h2
        obtain ⟨e, fp, g1, g2, _⟩ := ih _ _ h
        refine ⟨.at x1 x2 e, b :: fp, ⟨fun t ht => ?_, b, u, rfl, List.mem_cons_self .., ⟨hlt, h3⟩, g1.is.sub fun t ht => List.mem_cons_of_mem _ ht⟩, g2, fun _ => by simp⟩
        rcases List.mem_cons.1 ht with rfl | ht
        · exact hlt
        · exact g1.lt t ht
      · cases h
    · cases h

noncomputable def rowB (E : EH) (b : Nat) : Bool := match Nat.blt b E.n, E.get b with
  | true, some (.row .own [_]) => true
  | _, _ => false
theorem rowB_row {E : EH} {b : Nat} (h : rowB E b = true) : ∃ x, Row E.toAH b [x] := by
  unfold rowB at h
  split at h
  · rename_i x h1 h2
    exact ⟨x, show b < E.n by simpa [Nat.blt_eq] using h1, h2⟩
  · cases h

noncomputable def asC : Caller := fun f args E => match Nat.beq f 29 with
  | false => none
  | true => match args with
    | ⟨[hd, tv]⟩ => match hd with
      | .nilIface => some (.bool false, E)
      | _ => match tv with
        | .iface tt (.pointer (some ⟨tb, 0, none⟩)) => match rowB E tb with
          | false => none
          | true => match Nat.beq tt 80 with
            | true => match hd with
              | .iface t (.pointer (some ⟨b, 0, none⟩)) => match Nat.beq t 78 with
                | true => match ePuts E tb 0 [.pointer (some ⟨b, 0, none⟩)] with
                  | some E' => some (.bool true, E')
                  | none => none
                | false => none
              | .iface t (.int .i64 _) => match Nat.beq t 49 with
                | true => some (.bool false, E)
                | false => none
              | _ => none
            | false => match Nat.beq tt 83 with
              | true => match numE E 100 hd with
                | some none => some (.bool false, E)
                | some (some n) => match ePuts E tb 0 [.int .i64 n] with
                  | some E' => some (.bool true, E')
                  | none => none
                | none => none
              | false => none
        | _ => none
    | _ => none

theorem asC_sound : Sound Tryd.prog asC := by
  intro f args E v E' h
  unfold asC at h
  split at h
  · cases h
  rename_i hf
  have := beq_t hf; subst this
  split at h
  case h_2 => cases h
  rename_i hd tv
  split at h
  · cases h; exact a_as_nil.mono fun v H' ⟨h1, h2⟩ => ⟨h1, h2.symm⟩
  rename_i hne
  split at h
  case h_2 => cases h
  rename_i tt tb
  split at h
  · cases h
  rename_i hr
  obtain ⟨x, hr⟩ := rowB_row hr
  split at h
  · rename_i ht
    have := beq_t ht; subst this
    split at h
    · rename_i t b
      split at h
      · rename_i ht2
        have := beq_t ht2; subst this
        split at h
        · rename_i E1 hp
          cases h
          exact x_asF_at hr (ePuts_eq hp)
        · cases h
      · cases h
    · rename_i t n
      split at h
      · rename_i ht2
        have := beq_t ht2; subst this
        cases h
        exact x_asF_no hr
      · cases h
    · cases h
  · split at h
    · rename_i ht
      have := beq_t ht; subst this
      split at h
      · rename_i hn
        cases h
        obtain ⟨e, fp, g1, g2, g3⟩ := numE_ev _ _ _ hn
        have := x_asN hr g1 (g3 (fun h => hne h)) E.toAH (by rw [g2])
        rw [g2] at this; exact this
      · rename_i n hn
        split at h
        · rename_i E1 hp
          cases h
          obtain ⟨e, fp, g1, g2, g3⟩ := numE_ev _ _ _ hn
          have := x_asN hr g1 (g3 (fun h => hne h)) E'.toAH (by rw [g2]; exact ePuts_eq hp)
          rw [g2] at this; exact this
        · cases h
      · cases h
    · cases h

noncomputable def isC : Caller := fun f args E => match Nat.beq f 30 with
  | false => none
  | true => match args with
    | ⟨[hd, .iface t (.int .i64 m)]⟩ => match Nat.beq t 49 with
      | true => match hd with
        | .nilIface => none
        | _ => match numE E 100 hd with
          | some (some n) => match decide (n = m) with
            | true => some (.bool true, E)
            | false => some (.bool false, E)
          | some none => some (.bool false, E)
          | none => none
      | false => none
    | _ => none

theorem isC_sound : Sound Tryd.prog isC := by
  intro f args E v E' h
  unfold isC at h
  split at h
  · cases h
  rename_i hf
  have := beq_t hf; subst this
  split at h
  case h_2 => cases h
  rename_i hd t m
  split at h
  case h_2 => cases h
  rename_i ht
  have := beq_t ht; subst this
  split at h
  · cases h
  rename_i hne
  split at h
  · rename_i n hn
    obtain ⟨e, fp, g1, g2, g3⟩ := numE_ev _ _ _ hn
    have := a_isN (m := m) g1 (g3 (fun h => hne h))
    rw [g2] at this
    split at h
    · rename_i hd
      cases h
      have hnm := of_decide_eq_true hd; subst hnm
      exact this.mono fun v H' ⟨h1, h2⟩ => ⟨by rw [h1]; simp, h2.symm⟩
    · rename_i hd
      cases h
      have hnm := of_decide_eq_false hd
      exact this.mono fun v H' ⟨h1, h2⟩ => ⟨by rw [h1]; simp [hnm], h2.symm⟩
  · rename_i hn
    cases h
    obtain ⟨e, fp, g1, g2, g3⟩ := numE_ev _ _ _ hn
    have := a_isN (m := m) g1 (g3 (fun h => hne h))
    rw [g2] at this
    exact this.mono fun v H' ⟨h1, h2⟩ => ⟨by rw [h1]; simp, h2.symm⟩
  · cases h

noncomputable def doorPrim : FuncId → Option Caller := fun f => match Nat.beq f 29 with
  | true => some asC
  | false => match Nat.beq f 30 with
    | true => some isC
    | false => none

theorem doorPrim_sound : ∀ f C, doorPrim f = some C → Sound Tryd.prog C := by
  intro f C h
  unfold doorPrim at h
  split at h
  · cases h; exact asC_sound
  · split at h
    · cases h; exact isC_sound
    · cases h

/-- What a call comes to, errors.As and errors.Is too, if that is a bool. -/
noncomputable def evD (n : Nat) (f : FuncId) (args : Array Value) : Option Bool :=
  match evF doorPrim Tryd.prog n f args .nil with
  | some (.bool b, _) => some b
  | _ => none

theorem acalls_evD {n : Nat} {f : FuncId} {args : Array Value} {b : Bool} (h : evD n f args = some b) (ha : args.toList.all plain = true) (H : AH) :
    ACalls Tryd.prog f args H fun v H' => v = .bool b ∧ H' = H := by
  unfold evD at h
  split at h
  · rename_i b' E' h1
    cases h
    refine acalls_closed (K := fun H' => H' = E'.toAH) (evF_sound mixed doorPrim_sound n _ _ _ _ _ h1) rfl ha H
  · cases h

end Go.Vd
