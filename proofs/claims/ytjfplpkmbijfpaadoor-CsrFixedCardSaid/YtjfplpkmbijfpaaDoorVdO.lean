/- Code, bodies and calls: from the abstract heap to the machine. -/
import Derived.Test.YtjfplpkmbijfpaaDoorVdN
namespace Go.Vd

variable {P : Program} {N : Nat} {ops : Array Oper} {ord : List Nat} {μ0 : Mu} {H0 : AH} {w0 : World} {α0 : AAct}

def unl (n : Nat) (listed : Array Bool) : Nat := ((List.range n).filter fun j => !listed.getD j false).length

theorem unl_set {n : Nat} {listed : Array Bool} {i : Nat} (hi : i < n) (hl : i < listed.size) (hu : listed.getD i false = false) : unl n (listed.setIfInBounds i true) + 1 ≤ unl n listed := by
  have key : ∀ (l : List Nat), l.Nodup → i ∈ l → (l.filter fun j => !(listed.setIfInBounds i true).getD j false).length + 1 ≤ (l.filter fun j => !listed.getD j false).length := by
    intro l
    induction l with
    | nil => intro _ h; cases h
    | cons x l ih =>
      intro hnd hm
      rw [List.nodup_cons] at hnd
      by_cases hx : x = i
      · subst hx
        rw [List.filter_cons_of_neg (by rw [getD_set hl]; simp), List.filter_cons_of_pos (by rw [hu]; rfl)]
        have : (l.filter fun j => !(listed.setIfInBounds x true).getD j false) = (l.filter fun j => !listed.getD j false) := by
          apply List.filter_congr
          intro y hy
          have hyx : y ≠ x := fun e => hnd.1 (e ▸ hy)
          rw [getD_set hl]; simp [hyx]
        rw [this]; simp
      · have hm' : i ∈ l := (List.mem_cons.1 hm).resolve_left (Ne.symm hx)
        have := ih hnd.2 hm'
        simp only [List.filter_cons, getD_set hl]
        by_cases hl2 : listed.getD x false = true
        · simp only [hl2, hx]; simpa [getD_set hl] using this
        · simp only [hl2, hx]; simp [getD_set hl] at this ⊢; omega
  exact key _ List.nodup_range (List.mem_range.2 hi)

theorem any_end (hO : Ord N ops ord) {Q : Exit → AAct → AH → Prop} {listed : Array Bool} {a : Act} {w : World} (hI : Inv P N ops ord (Q .normal) μ0 H0 w0 α0 listed a w)
    (hr : Region.ready .any ops listed = []) : Lift μ0 H0 w0 N Q .normal a w := by
  obtain ⟨hs, dl, rest, fl, H, μ, hC, hrest⟩ := hI
  have all : ∀ (B A : List Nat), ord = A ++ B → (∀ j ∈ A, listed.getD j false = true) → ∀ j ∈ B, listed.getD j false = true := by
    intro B
    induction B with
    | nil => intro A _ _ j hj; cases hj
    | cons i B ih =>
      intro A hA hl
      have hi : listed.getD i false = true := by
        cases hb : listed.getD i false with
        | true => rfl
        | false =>
          obtain ⟨o, g1, g2, _⟩ := hO.at_ A B i hA
          have hlt : i < ops.size := (Array.getElem?_eq_some_iff.1 g1).1
          have hm : i ∈ Region.ready .any ops listed := by
            refine mem_ready.2 ⟨?_, o, g1, fun e he hbd => ?_⟩
            · rw [Array.getD_eq_getD_getElem?, Array.getElem?_eq_getElem (by omega)] at hb ⊢
              exact hb
            · exact hl _ (g2 _ (List.mem_map.2 ⟨e, List.mem_filter.2 ⟨by simpa using he, hbd⟩, rfl⟩))
          rw [hr] at hm; cases hm
      intro j hj
      rcases List.mem_cons.1 hj with rfl | hj
      · exact hi
      · exact ih (A ++ [i]) (by rw [hA]; simp) (fun x hx => by
          rcases List.mem_append.1 hx with hx | hx
          · exact hl x hx
          · simp at hx; rw [hx]; exact hi) j hj
  have hall : ∀ j ∈ ord, listed.getD j false = true := all ord [] rfl (by simp)
  have hr0 : rest = [] := by
    rcases hrest with h | ⟨e, r, o, rfl, _, _⟩
    · exact h
    · obtain ⟨x, hx, hxe⟩ := hC.inDl e (hall e (by rw [hC.ord]; simp))
      exact absurd hxe (Cfg.notIn hO hC.ord x hx)
  subst hr0
  have hw := hC.wp
  simp only [wpOrd] at hw
  have hact := hC.act
  have hf : dl.filter (fun x => listed.getD x.i false) = dl := by
    rw [List.filter_eq_self]
    intro x hx
    exact hall x.i (by rw [hC.ord]; simp; exact ⟨x, hx, rfl⟩)
  rw [hf] at hact
  exact ⟨_, H, μ, hw, hact, hC.defs, hC.size, hC.rel, hC.keep⟩

theorem any_sound (hO : Ord N ops ord) {Q : Exit → AAct → AH → Prop} : ∀ (fuel : Nat) (listed : Array Bool) (a : Act) (w : World), Inv P N ops ord (Q .normal) μ0 H0 w0 α0 listed a w → unl ops.size listed ≤ fuel →
    wpAny P .any ops (Lift μ0 H0 w0 N Q) fuel listed a w := by
  intro fuel
  induction fuel with
  | zero =>
    intro listed a w hI hu
    have hr : Region.ready .any ops listed = [] := by
      apply List.eq_nil_iff_forall_not_mem.2
      intro i hi
      obtain ⟨h1, o, ho, _⟩ := mem_ready.1 hi
      have hlt : i < ops.size := (Array.getElem?_eq_some_iff.1 ho).1
      have hl : i < listed.size := by rw [hI.1]; exact hlt
      have hb : listed.getD i false = false := by
        rw [Array.getD_eq_getD_getElem?, Array.getElem?_eq_getElem hl] at h1 ⊢
        exact h1
      have := unl_set hlt hl hb
      omega
    exact ⟨hr, any_end hO hI hr⟩
  | succ fuel ih =>
    intro listed a w hI hu
    refine ⟨fun hr => any_end hO hI hr, fun i hi => ?_⟩
    refine wpOp_mono (fun a' w' h => ih _ a' w' h ?_) (step_inv hO hI hi)
    obtain ⟨h1, o, ho, _⟩ := mem_ready.1 hi
    have hlt : i < ops.size := (Array.getElem?_eq_some_iff.1 ho).1
    have hl : i < listed.size := by rw [hI.1]; exact hlt
    have hb : listed.getD i false = false := by
      rw [Array.getD_eq_getD_getElem?, Array.getElem?_eq_getElem hl] at h1 ⊢
      exact h1
    have := unl_set hlt hl hb
    omega

theorem draw_sound (hm : P.follows .mixedOrders = true) {id : Nat} {Q : Exit → AAct → AH → Prop} {α : AAct} {H : AH} {μ : Mu} {a : Act} {w : World} (hd : drawOk N ops ord = true)
    (h : wpOrd P ops (ancTbl ops.toList) (Q .normal) ord [] α H) (ha : ActRel μ α a) (hdf : a.defers = []) (hs : a.tmps.size = N) (hr : Rel μ H w) (hk : Keep μ0 μ H0 H w0 w) :
    (Code.region id ops true).wp P (Lift μ0 H0 w0 N Q) a w := by
  have hO := drawOk_spec hd
  have hf : ∀ j, (Array.replicate ops.size false).getD j false = false := by
    intro j
    rw [Array.getD_eq_getD_getElem?, Array.getElem?_replicate]
    split <;> rfl
  have hff : ∀ j, ¬ (Array.replicate ops.size false).getD j false = true := fun j hj => by rw [hf j] at hj; cases hj
  have hc : Cfg P N ops ord (Q .normal) μ0 H0 w0 α (fun j => (Array.replicate ops.size false).getD j false) [] ord [] H μ a { w with drawn := w.drawn + 1 } := by
    refine ⟨rfl, fun A x B hA => ?_, h, fun j hj => absurd hj (hff j), fun x hx => (by cases hx), fun i j _ hj => absurd hj (hff j), ha, hdf, hs, hr.drawn _, hk.trans (Keep.drawn μ H w _ (Nat.le_succ _)), fun x hx => (by cases hx), fun x hx => (by cases hx), .nil, fun x hx => (by cases hx)⟩
    cases A with
    | nil => cases hA
    | cons y A => cases hA
  refine wp_region_any hm (any_sound hO ops.size _ a _ (inv_of_cfg hO (by simp) hc) ?_)
  unfold unl
  exact Nat.le_trans (List.length_filter_le _ _) (by simp)

/-! ### Code -/

def thenA (K : AAct → AH → Prop) (Q : Exit → AAct → AH → Prop) : Exit → AAct → AH → Prop
  | .normal => K
  | e => Q e
def blockA (id : Nat) (Q : Exit → AAct → AH → Prop) : Exit → AAct → AH → Prop
  | .exit id' => if id' = id then Q .normal else Q (.exit id')
  | e => Q e

/-- The least set of states from which each round, and what follows it, comes to the post. -/
def LoopA (step : (AAct → AH → Prop) → AAct → AH → Prop) (α : AAct) (H : AH) : Prop :=
  ∀ R : AAct → AH → Prop, (∀ α H, step R α H → R α H) → R α H

def aWp (P : Program) (N : Nat) : Code → (Exit → AAct → AH → Prop) → AAct → AH → Prop
  | .skip, Q => Q .normal
  | .label _, Q => Q .normal
  | .seq x y, Q => aWp P N x (thenA (aWp P N y Q) Q)
  | .cond c x y, Q => fun α H => opndOk c = true ∧ ∃ b, aEval α c = .bool b ∧ (b = true → aWp P N x Q α H) ∧ (b = false → aWp P N y Q α H)
  | .block id c, Q => aWp P N c (blockA id Q)
  | .loop c, Q => LoopA fun R => aWp P N c (thenA R Q)
  | .exit id, Q => Q (.exit id)
  | .ret, Q => Q .ret
  | .region _ ops false, Q => fun α H => opsOk N ops.toList = true ∧ wpSeq P ops (Q .normal) ops.toList α H
  | .region _ ops true, Q => fun α H => ∃ ord, drawOk N ops ord = true ∧ wpOrd P ops (ancTbl ops.toList) (Q .normal) ord [] α H
  | _, _ => fun _ _ => False

/-- The states of the machine that are as an abstract state says. -/
structure Sts (μ0 : Mu) (H0 : AH) (w0 : World) (N : Nat) (α : AAct) (H : AH) (μ : Mu) (a : Act) (w : World) : Prop where
  act : ActRel μ α a
  defs : a.defers = []
  size : a.tmps.size = N
  rel : Rel μ H w
  keep : Keep μ0 μ H0 H w0 w

theorem wp_sound (hm : P.follows .mixedOrders = true) (c : Code) : ∀ (Q : Exit → AAct → AH → Prop) (α : AAct) (H : AH) (μ : Mu) (a : Act) (w : World), aWp P N c Q α H → Sts μ0 H0 w0 N α H μ a w →
    c.wp P (Lift μ0 H0 w0 N Q) a w := by
  have lift : ∀ {Q : Exit → AAct → AH → Prop} {e : Exit} {α : AAct} {H : AH} {μ : Mu} {a : Act} {w : World}, Q e α H → Sts μ0 H0 w0 N α H μ a w → Lift μ0 H0 w0 N Q e a w :=
    fun h s => ⟨_, _, _, h, s.act, s.defs, s.size, s.rel, s.keep⟩
  induction c with
  | skip => intro Q α H μ a w h s; exact wp_skip (lift h s)
  | label l => intro Q α H μ a w h s; exact wp_label (lift h s)
  | exit id => intro Q α H μ a w h s; exact wp_exit (lift h s)
  | ret => intro Q α H μ a w h s; exact wp_ret (lift h s)
  | seq x y ix iy =>
    intro Q α H μ a w h s
    refine wp_seq (wp_mono (ix _ α H μ a w h s) ?_)
    rintro e a' w' ⟨α', H', μ', h1, h2, h3, h4, h5, h6⟩
    cases e with
    | normal => exact iy Q α' H' μ' a' w' h1 ⟨h2, h3, h4, h5, h6⟩
    | _ => exact ⟨α', H', μ', h1, h2, h3, h4, h5, h6⟩
  | cond c x y ix iy =>
    intro Q α H μ a w h s
    obtain ⟨hok, b, hb, ht, hf⟩ := h
    have hv := s.act.eval hok
    rw [hb] at hv
    have hc : a.eval c = .bool b := by
      generalize a.eval c = z at hv
      cases hv; rfl
    cases b with
    | true => exact wp_cond_true hc (ix Q α H μ a w (ht rfl) s)
    | false => exact wp_cond_false hc (iy Q α H μ a w (hf rfl) s)
  | block id c ic =>
    intro Q α H μ a w h s
    refine wp_block (wp_mono (ic _ α H μ a w h s) ?_)
    rintro e a' w' ⟨α', H', μ', h1, h2, h3, h4, h5, h6⟩
    cases e with
    | exit id' =>
      simp only [Exit.inBlock]
      simp only [blockA] at h1
      by_cases hid : id' = id
      · rw [if_pos hid] at h1 ⊢; exact ⟨α', H', μ', h1, h2, h3, h4, h5, h6⟩
      · rw [if_neg hid] at h1 ⊢; exact ⟨α', H', μ', h1, h2, h3, h4, h5, h6⟩
    | _ => exact ⟨α', H', μ', h1, h2, h3, h4, h5, h6⟩
  | loop c ic =>
    intro Q α H μ a w h s b k cs
    have hR := h (fun α H => ∀ μ a w, Sts μ0 H0 w0 N α H μ a w → ∀ (b : Frame) (k : List Item) (cs : List Frame),
      ∃ e a' w', Lift μ0 H0 w0 N Q e a' w' ∧ Arrives P (lone (b.at a (.code c :: .inLoop c :: k)) cs w) b k cs e a' w') (fun α H hst μ a w s b k cs => ?_) μ a w s b k cs
    · obtain ⟨e, a', w', h1, h2⟩ := hR
      exact ⟨e, a', w', h1, .of_steps (.one step_loop) h2⟩
    · obtain ⟨e, a₁, w₁, ⟨α', H', μ', h1, h2, h3, h4, h5, h6⟩, harr⟩ := ic _ α H μ a w hst s b (.inLoop c :: k) cs
      cases e with
      | normal =>
        obtain ⟨e₂, a₂, w₂, hq₂, harr₂⟩ := h1 μ' a₁ w₁ ⟨h2, h3, h4, h5, h6⟩ b k cs
        exact ⟨e₂, a₂, w₂, hq₂, .of_steps (Steps.trans harr (.one step_inLoop)) harr₂⟩
      | exit id => exact ⟨_, a₁, w₁, ⟨α', H', μ', h1, h2, h3, h4, h5, h6⟩, .pass (x := .inLoop c) rfl (fun _ _ => .inl (by simp)) harr⟩
      | goto l => exact ⟨_, a₁, w₁, ⟨α', H', μ', h1, h2, h3, h4, h5, h6⟩, .pass (x := .inLoop c) rfl (fun _ _ => .inl (by simp)) harr⟩
      | ret => exact ⟨_, a₁, w₁, ⟨α', H', μ', h1, h2, h3, h4, h5, h6⟩, .pass (x := .inLoop c) rfl (fun _ _ => .inl (by simp)) harr⟩
      | panic ch => exact ⟨_, a₁, w₁, ⟨α', H', μ', h1, h2, h3, h4, h5, h6⟩, .pass (x := .inLoop c) rfl (fun _ _ => .inl (by simp)) harr⟩
      | outgrown => exact ⟨_, a₁, w₁, ⟨α', H', μ', h1, h2, h3, h4, h5, h6⟩, .pass (x := .inLoop c) rfl (fun _ _ => .inl (by simp)) harr⟩
  | region id ops d =>
    intro Q α H μ a w h s
    cases d with
    | false =>
      obtain ⟨h1, h2⟩ := h
      exact wp_region_list (seq_sound ops.toList α a μ H w h1 h2 s.act s.defs s.size s.rel s.keep)
    | true =>
      obtain ⟨ord, h1, h2⟩ := h
      exact draw_sound hm h1 h2 s.act s.defs s.size s.rel s.keep
  | _ => intro Q α H μ a w h; exact h.elim

/-! ### Bodies -/

def aRes (P : Program) (α : AAct) (H : AH) : List ResultVar → Option (List Value)
  | [] => some []
  | .tmp t :: l => (aRes P α H l).map (α t :: ·)
  | .cell a t :: l => match aLoad P t (α a) H, aRes P α H l with
    | some v, some vs => some (v :: vs)
    | _, _ => none

def pack : List Value → Value
  | [v] => v
  | vs => .tuple vs.toArray

def bodyA (P : Program) (fn : Func) (K : Value → AH → Prop) : Exit → AAct → AH → Prop
  | .normal, α, H | .ret, α, H => match aRes P α H fn.results.toList with
    | some vs => K (pack vs) H
    | none => False
  | _, _, _ => False

def resM (tmps : Array Value) (r : ResultVar) : Sem Value :=
  match r with
  | .tmp t => pure (tmps.getD t undef)
  | .cell c t => do loadVar t (← asAddr (tmps.getD c undef))

theorem results_eq (fn : Func) (tmps : Array Value) : results fn tmps = (do
    let vs ← fn.results.mapM (resM tmps)
    pure (if h : vs.size = 1 then vs[0] else .tuple vs)) := by
  have : (fun (r : ResultVar) => (match r with
    | .tmp t => pure (tmps.getD t undef)
    | .cell a t => do loadVar t (← asAddr (tmps.getD a undef)) : Sem Value)) = resM tmps := by
    funext r
    cases r <;> rfl
  rw [← this]; rfl

theorem res_sound {μ : Mu} {α : AAct} {H : AH} {a : Act} {w : World} (ha : ActRel μ α a) (hr : Rel μ H w) : ∀ (l : List ResultVar) (vs : List Value), aRes P α H l = some vs →
    ∃ vs', (l.mapM (resM a.tmps)).run P w = .ok vs' w ∧ LRel μ vs vs' := by
  intro l
  induction l with
  | nil => intro vs h; simp [aRes] at h; subst h; exact ⟨[], rfl, .nil⟩
  | cons r l ih =>
    intro vs h
    rw [List.mapM_cons]
    cases r with
    | tmp t =>
      simp only [aRes] at h
      cases hl : aRes P α H l with
      | none => rw [hl] at h; cases h
      | some ws =>
        rw [hl] at h; cases h
        obtain ⟨ws', e1, e2⟩ := ih ws hl
        refine ⟨a.tmps.getD t undef :: ws', ?_, .cons (ha t) e2⟩
        simp only [Sem.run_bind, resM, Sem.run_pure, Result.andThen_ok, e1]
    | cell c t =>
      simp only [aRes] at h
      split at h
      · rename_i v ws hv hl
        cases h
        obtain ⟨ws', e1, e2⟩ := ih ws hl
        obtain ⟨v', e3, e4⟩ := aLoad_sound hr (ha c) hv
        have hptr : ∃ x, a.tmps.getD c undef = .pointer (some x) := by
          have hc := ha c
          unfold aLoad at hv
          split at hv
          · rename_i b o heq
            rw [heq] at hc
            generalize a.tmps.getD c undef = y at hc
            cases hc with | ptr _ _ p _ => exact ⟨_, rfl⟩
          · cases hv
        obtain ⟨x, hx⟩ := hptr
        rw [hx] at e3
        have e5 : (loadVar t x).run P w = .ok v' w := by simpa [Instr.loadAt, Instr.sureAddr] using e3
        have e6 : (resM a.tmps (.cell c t)).run P w = .ok v' w := by
          simp only [resM, hx, Sem.run_bind]
          exact e5
        refine ⟨v' :: ws', ?_, .cons e4 e2⟩
        simp only [Sem.run_bind, e6, Sem.run_pure, Result.andThen_ok, e1]
      · cases h

theorem pack_rel {μ : Mu} {vs vs' : List Value} (h : LRel μ vs vs') : VRel μ (pack vs) (pack vs') := by
  match vs, vs', h with
  | [], [], h => exact .tuple _ _ rfl fun i => by simpa using VRel.nilIface
  | [], _ :: _, h => exact absurd h.1 (by simp)
  | [v], [v'], h => exact h.head
  | [_], [], h => exact absurd h.1 (by simp)
  | [_], _ :: _ :: _, h => exact absurd h.1 (by simp)
  | _ :: _ :: _, [], h => exact absurd h.1 (by simp)
  | _ :: _ :: _, [_], h => exact absurd h.1 (by simp)
  | a :: b :: l, a' :: b' :: l', h =>
    have : ARel μ (a :: b :: l).toArray (a' :: b' :: l').toArray := ARel.toList.2 h
    exact .tuple _ _ this.1 this.2

def initA (args : Array Value) : AAct := fun t => args.getD t undef

/-- **A function's body, on the abstract heap, tells of its calls.** -/
theorem acalls_of_body (hm : P.follows .mixedOrders = true) {f : FuncId} {fn : Func} {c : Code} {args : Array Value} {H : AH} {K : Value → AH → Prop} (hf : P.funcs[f]? = some fn) (hb : fn.body = some c)
    (hn : args.size ≤ fn.ntmps) (h : aWp P fn.ntmps c (bodyA P fn K) (initA args) H) : ACalls P f args H K := by
  intro μ w args' hr ha
  refine calls_of_wp hf hb ?_
  have hsz : args'.size = args.size := ha.1.symm
  have hact : ActRel μ (initA args) { tmps := args' ++ Array.replicate (fn.ntmps - args'.size) undef, defers := [] } := by
    intro t
    simp only [initA, Array.getD_eq_getD_getElem?]
    by_cases ht : t < args.size
    · have ht' : t < args'.size := by omega
      have := ha.2 t
      rw [Array.getElem?_append_left ht', Array.getElem?_eq_getElem ht, Array.getElem?_eq_getElem ht']
      simpa [Array.getD_eq_getD_getElem?, ht, ht'] using this
    · rw [Array.getElem?_eq_none (by omega), Array.getElem?_append_right (by omega), Array.getElem?_replicate]
      split <;> exact .unit
  refine wp_mono (wp_sound hm c _ _ _ μ _ _ h ⟨hact, rfl, by simp; omega, hr, .refl _ _ _⟩) ?_
  rintro e a' w' ⟨α', H', μ', h1, h2, h3, h4, h5, h6⟩
  have fin : (match aRes P α' H' fn.results.toList with | some vs => K (pack vs) H' | none => False) → a'.defers = [] ∧ ∃ v, (results fn a'.tmps).run P w' = .ok v w' ∧
      ∃ v0 v' H'' μ'', Ending.returned v = .returned v' ∧ K v0 H'' ∧ VRel μ'' v0 v' ∧ Rel μ'' H'' w' ∧ Keep μ μ'' H H'' w w' := by
    intro hq
    split at hq
    · rename_i vs hvs
      obtain ⟨vs', e1, e2⟩ := res_sound (P := P) h2 h5 _ vs hvs
      refine ⟨h3, pack vs', ?_, pack vs, _, H', μ', rfl, hq, pack_rel e2, h5, h6⟩
      rw [results_eq, Array.mapM_eq_mapM_toList]
      simp only [Sem.run_bind, Sem.run_map, e1, Result.andThen_ok, Sem.run_pure]
      congr 1
      match vs' with
      | [] => rfl
      | [v] => rfl
      | _ :: _ :: _ => rfl
    · exact hq.elim
  cases e with
  | normal => exact fin h1
  | ret => exact fin h1
  | _ => exact h1.elim

/-- **The end**: a call on a heap of which nothing may be written, on the machine. -/
theorem calls_of_acalls {f : FuncId} {args args' : Array Value} {H : AH} {μ : Mu} {w : World} {r : Value} (h : ACalls P f args H fun v _ => v = r) (hp : plain r = true) (hr : Rel μ H w) (ha : ARel μ args args')
    (hro : ∀ b p, μ b = some p → ∃ cs, H.get b = some (.row .ro cs)) : Calls P f args' w fun e w' => e = .returned r ∧ RowKit.Below w.heap.size w w' := by
  refine (h μ w args' hr ha).mono ?_
  rintro e w' ⟨v, v', H', μ', rfl, rfl, hv, _, hk⟩
  rw [plain_eq hp hv]
  exact ⟨rfl, hk.os, hk.tape, hk.output, hk.size, fun k hlt => hk.block k hlt fun b p hb _ => hro b p hb⟩

end Go.Vd
