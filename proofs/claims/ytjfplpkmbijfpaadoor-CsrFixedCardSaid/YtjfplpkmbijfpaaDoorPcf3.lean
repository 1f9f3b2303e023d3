/- A check of arrays tells but one thing. Plain Lean: no program here. -/
import Derived.Test.YtjfplpkmbijfpaaDoorPcf2
import Derived.Test.YtjfplpkmbijfpaaDoorVpB
import Derived.Test.YtjfplpkmbijfpaaDoorSo0
import Derived.Test.YtjfplpkmbijfpaaDoorVdQ
import Derived.Test.YtjfplpkmbijfpaaDoorICf
set_option linter.unusedVariables false
set_option linter.unusedSimpArgs false
set_option linter.unusedSectionVars false
/-! (ChkU) -/

namespace Go.Vd
variable {F T' W l : List Int}

theorem Chk.uniq {er er' : Er} (h : Chk F T' W er) (k : Chk F T' W er') : er = er' := by
  cases h with
  | shape h1 =>
    cases k with
    | shape _ => rfl
    | limit k1 _ => exact absurd k1 h1
    | mono v k1 => exact absurd k1 h1
    | arc v i k1 => exact absurd k1 h1
    | ok k1 => exact absurd k1 h1
  | limit h1 h2 =>
    cases k with
    | shape k1 => exact absurd h1 k1
    | limit _ _ => rfl
    | mono v _ k2 => exact absurd k2 h2
    | arc v i _ k2 => exact absurd k2 h2
    | ok _ k2 => exact absurd k2 h2
  | mono v h1 h2 h3 h4 h5 h6 =>
    cases k with
    | shape k1 => exact absurd h1 k1
    | limit _ k2 => exact absurd h2 k2
    | mono v' _ _ k3 k4 k5 k6 =>
      have : v = v' := by
        rcases Int.lt_trichotomy v v' with q | q | q
        · have := k6 v h3 q; omega
        · exact q
        · have := h6 v' k3 q; omega
      rw [this]
    | arc v' i _ _ k3 => have := k3 v h3 h4; omega
    | ok _ _ k3 => have := k3 v h3 h4; omega
  | arc v i h1 h2 h3 h4 h5 h6 =>
    cases k with
    | shape k1 => exact absurd h1 k1
    | limit _ k2 => exact absurd h2 k2
    | mono v' _ _ k3 k4 k5 k6 => have := h3 v' k3 k4; omega
    | arc v' i' _ _ _ k4 k5 k6 =>
      have e : i = i' := by
        rcases Int.lt_trichotomy i i' with q | q | q
        · exact absurd (k6 v i h4 q) h5
        · exact q
        · exact absurd (h6 v' i' k4 q) k5
      subst e
      rw [In.uniq h3 h4 k4]
    | ok _ _ _ k4 => exact absurd (k4 v i h4) h5
  | ok h1 h2 h3 h4 =>
    cases k with
    | shape k1 => exact absurd h1 k1
    | limit _ k2 => exact absurd h2 k2
    | mono v' _ _ k3 k4 k5 k6 => have := h3 v' k3 k4; omega
    | arc v' i' _ _ _ k4 k5 k6 => exact absurd (h4 v' i' k4) k5
    | ok => rfl

end Go.Vd

/-! (Mo0) -/

namespace Go.Vd
theorem take_gtE {E : Type} [Inhabited E] {l : List E} {i : Int} (h0 : 0 ≤ i) (h1 : i < (l.length : Int)) : l.take (i + 1).toNat = l.take i.toNat ++ [gt l i] := by
  have hi : i.toNat < l.length := by omega
  rw [show (i + 1).toNat = i.toNat + 1 from by omega, List.take_add_one, List.getElem?_eq_getElem hi]
  have : gt l i = l[i.toNat] := by simp [gt, List.getD_eq_getElem?_getD, hi]
  rw [this]; rfl
theorem gt_setE {E : Type} [Inhabited E] {l : List E} {i j : Int} {v : E} (i0 : 0 ≤ i) (i1 : i < (l.length : Int)) (j0 : 0 ≤ j) : gt (l.set i.toNat v) j = if j = i then v else gt l j := by
  unfold gt
  rw [List.getD_eq_getElem?_getD, List.getD_eq_getElem?_getD, List.getElem?_set]
  by_cases h : j = i
  · subst h; rw [if_pos rfl, if_pos rfl, if_pos (by omega)]; rfl
  · rw [if_neg h, if_neg (by omega)]
theorem list_gtE {E : Type} [Inhabited E] {l m : List E} (hl : l.length = m.length) (h : ∀ j : Int, 0 ≤ j → j < (l.length : Int) → gt l j = gt m j) : l = m := by
  refine List.ext_getElem hl fun j h1 h2 => ?_
  have := h (j : Int) (by omega) (by omega)
  rwa [gt_nat h1, gt_nat h2] at this
end Go.Vd

/-! (PrRow) -/

set_option linter.unusedVariables false
set_option linter.unusedSimpArgs false
namespace Go.Vd
variable {F T' W : List Int}

/-- The arcs from a node. -/
def RowL (F T' W : List Int) (v : Int) : List (Int × Int × Int) := (List.range (gt F (v + 1) - gt F v).toNat).map fun k => (v, gt T' (gt F v + (k : Nat)), gt W (gt F v + (k : Nat)))
/-- The arcs of the nodes below n. -/
def GrL (F T' W : List Int) (n : Nat) : List (Int × Int × Int) := (List.range n).flatMap fun v => RowL F T' W ((v : Nat) : Int)
theorem GrL.succ {n : Nat} : GrL F T' W (n + 1) = GrL F T' W n ++ RowL F T' W n := by
  simp [GrL, List.range_succ]
theorem RowL.len {v : Int} : (RowL F T' W v).length = (gt F (v + 1) - gt F v).toNat := by simp [RowL]
theorem Chk.inr (hc : Chk F T' W .nil) {v : Int} (v0 : 0 ≤ v) (v1 : v < (F.length : Int) - 1) : 0 ≤ gt F v ∧ gt F v ≤ gt F (v + 1) ∧ gt F (v + 1) ≤ (T'.length : Int) ∧ (T'.length : Int) = W.length ∧ (T'.length : Int) ≤ 262144 ∧ (F.length : Int) ≤ 65537 := by
  obtain ⟨s1, s2, s3, s4⟩ := hc.shp
  obtain ⟨m1, m2⟩ := hc.small
  have a := hc.mon.le (u := 0) (w := v) (by omega) v0 (by omega)
  have b := hc.mon.le (u := v) (w := v + 1) v0 (by omega) (by omega)
  have c := hc.mon.le (u := v + 1) (w := (F.length : Int) - 1) (by omega) (by omega) (by omega)
  omega
theorem GrL.len (hc : Chk F T' W .nil) {n : Nat} (h : (n : Int) ≤ (F.length : Int) - 1) : ((GrL F T' W n).length : Int) = gt F n := by
  induction n with
  | zero => have := hc.shp.2.1; simp [GrL]; exact this.symm
  | succ n ih =>
    have := ih (by omega)
    have h2 := hc.inr (v := (n : Int)) (by omega) (by omega)
    rw [GrL.succ, List.length_append, RowL.len]
    rw [show ((n + 1 : Nat) : Int) = (n : Int) + 1 from by omega]
    omega

theorem row_step {v i : Int} {l : List (Int × Int × Int)} (h : gt F v ≤ i) (e : l = (List.range (i - gt F v).toNat).map fun k => (v, gt T' (gt F v + (k : Nat)), gt W (gt F v + (k : Nat)))) :
    l ++ [(v, gt T' i, gt W i)] = (List.range (i + 1 - gt F v).toNat).map fun k => (v, gt T' (gt F v + (k : Nat)), gt W (gt F v + (k : Nat))) := by
  rw [e, show (i + 1 - gt F v).toNat = (i - gt F v).toNat + 1 from by omega, List.range_succ, List.map_append]
  simp only [List.map_cons, List.map_nil]
  rw [show gt F v + (((i - gt F v).toNat : Nat) : Int) = i from by omega]

theorem p_rowC (hc : Chk F T' W .nil) {v : Int} (v0 : 0 ≤ v) (v1 : v < (F.length : Int) - 1) : z_csr_Csr_row F T' W v = some (RowL F T' W v) := by
  obtain ⟨b1, b2, b3, b4, b5, b6⟩ := hc.inr v0 v1
  refine T_eq.1 ?_
  unfold z_csr_Csr_row
  rw [T_G]
  refine ⟨⟨v0, by omega⟩, T_bindr (fun l => l = RowL F T' W v) ?_ (by rintro _ rfl; simp only [T_some])⟩
  refine T_loop (fun z => gt F v ≤ z.2 ∧ z.2 ≤ gt F (v + 1) ∧ z.1 = (List.range (z.2 - gt F v).toNat).map fun k => (v, gt T' (gt F v + (k : Nat)), gt W (gt F v + (k : Nat)))) (fun z => (gt F (v + 1) - z.2).toNat) ?_ ⟨by simp, b2, by simp⟩
  rintro ⟨l, i⟩ ⟨i0, i1, e⟩
  dsimp only at *
  have hl : l.length = (i - gt F v).toNat := by rw [e]; simp
  unfold z_csr_Csr_row_l0
  simp only [T_G, T_ite, T_some, Sum.elim_inl, Sum.elim_inr, List.length_cons, List.length_nil]
  refine ⟨by omega, by omega, fun h => ⟨by omega, by omega, by omega, by omega, ⟨by omega, by omega, row_step i0 e⟩, by omega⟩, fun h => ?_⟩
  rw [e, show i = gt F (v + 1) from by omega]; rfl

end Go.Vd

/-! (Gb) -/

set_option linter.unusedVariables false
set_option linter.unusedSimpArgs false
namespace Go.Vd
abbrev A3 := Int × Int × Int
theorem eq3 {x y : A3} (h1 : x.1 = y.1) (h2 : x.2.1 = y.2.1) (h3 : x.2.2 = y.2.2) : x = y := by
  obtain ⟨a, b, c⟩ := x; obtain ⟨a', b', c'⟩ := y
  simp only at h1 h2 h3
  subst h1; subst h2; subst h3; rfl

theorem mem_gtE {E : Type} [Inhabited E] {l : List E} {x : E} (h : x ∈ l) : ∃ i : Int, 0 ≤ i ∧ i < (l.length : Int) ∧ x = gt l i := by
  obtain ⟨i, hi, rfl⟩ := List.getElem_of_mem h
  exact ⟨i, by omega, by omega, (gt_nat hi).symm⟩

end Go.Vd

/-! (PrRa) -/

set_option linter.unusedVariables false
set_option linter.unusedSimpArgs false
namespace Go.Vd
variable {F T' W : List Int}
theorem Chk.goodR {er : Er} (h : Chk F T' W er) : er.good ∧ er.pls.length ≤ 1 := by
  cases h with
  | shape _ => simp [Er.good, Er.pls]
  | limit _ _ => simp [Er.good, Er.pls]
  | mono _ _ _ _ _ _ _ => simp [Er.good, Er.pls]
  | arc _ _ _ _ _ _ h _ => exact ⟨⟨by simp, h⟩, by simp [Er.pls]⟩
  | ok _ _ _ _ => simp [Er.good, Er.pls]
/-- What is answered for a node's row. -/
inductive RowA (F T' W : List Int) (v : Int) : List (Int × Int × Int) → Er → Prop
  | bad (er : Er) : Chk F T' W er → er ≠ .nil → RowA F T' W v [] er
  | node : Chk F T' W .nil → ¬ (0 ≤ v ∧ v < (F.length : Int) - 1) → RowA F T' W v [] (.no 7)
  | ok : Chk F T' W .nil → 0 ≤ v → v < (F.length : Int) - 1 → RowA F T' W v (RowL F T' W v) .nil
theorem RowA.uniq {v : Int} {l k : List (Int × Int × Int)} {er er' : Er} (h : RowA F T' W v l er) (h' : RowA F T' W v k er') : l = k ∧ er = er' := by
  cases h with
  | bad _ c n1 =>
    cases h' with
    | bad _ c2 _ => exact ⟨rfl, c.uniq c2⟩
    | node c2 _ => exact absurd (c.uniq c2) n1
    | ok c2 _ _ => exact absurd (c.uniq c2) n1
  | node c n =>
    cases h' with
    | bad _ c2 n2 => exact absurd (c2.uniq c) n2
    | node c2 _ => exact ⟨rfl, rfl⟩
    | ok c2 a b => exact absurd ⟨a, b⟩ n
  | ok c a b =>
    cases h' with
    | bad _ c2 n2 => exact absurd (c2.uniq c) n2
    | node c2 n => exact absurd ⟨a, b⟩ n
    | ok c2 _ _ => exact ⟨rfl, rfl⟩
theorem RowA.good {v : Int} {l : List (Int × Int × Int)} {er : Er} (h : RowA F T' W v l er) : er.good ∧ er.pls.length ≤ 1 ∧ l.length ≤ 262144 := by
  cases h with
  | bad _ c _ => exact ⟨c.goodR.1, c.goodR.2, by simp⟩
  | node c _ => exact ⟨by simp [Er.good], by simp [Er.pls], by simp⟩
  | ok c a b =>
    have := c.inr a b
    exact ⟨trivial, by simp [Er.pls], by rw [RowL.len]; omega⟩
theorem RowA.bad' {v : Int} {l : List (Int × Int × Int)} {er : Er} (h : RowA F T' W v l er) : (er.code ≠ 0 ∨ er.pls ≠ []) ↔ er ≠ .nil := by
  cases h with
  | bad _ c _ => exact c.bad
  | node c _ => simp [Er.code]
  | ok c a b => simp [Er.code, Er.pls]

theorem p_Row (hl : F.length ≤ 17592186044160) (ht : T'.length ≤ 17592186044160) {v : Int} : T (z_csr_Row F T' W v) fun r => RowA F T' W v r.1 r.2 := by
  unfold z_csr_Row
  refine T_bindr _ (p_Check hl ht) fun er hc => ?_
  rw [T_ite]
  refine ⟨fun he => ?_, fun he => by simp only [T_some]; exact .bad er hc he⟩
  subst he
  refine T_bindr (fun b => b = true ↔ ¬ (0 ≤ v ∧ v < (F.length : Int) - 1)) ?_ fun b hb => ?_
  · rw [p_nodes hl]
    simp only [T_ite, T_some, Option.bind_some, decide_eq_true_eq, true_iff]
    exact ⟨fun h => by omega, fun h => by omega⟩
  rw [T_ite]
  refine ⟨fun h => by simp only [T_some]; exact .node hc (hb.1 h), fun h => ?_⟩
  have hn : 0 ≤ v ∧ v < (F.length : Int) - 1 := Classical.byContradiction fun k => h (hb.2 k)
  rw [p_rowC hc hn.1 hn.2, Option.bind_some]
  simp only [T_some]
  exact .ok hc hn.1 hn.2
end Go.Vd

/-! (PrFp) -/

set_option linter.unusedVariables false
set_option linter.unusedSimpArgs false
namespace Go.Vd
variable {F T' W : List Int}
theorem RowL.gt' {v j : Int} (j0 : 0 ≤ j) (j1 : j < ((RowL F T' W v).length : Int)) : gt (RowL F T' W v) j = (v, gt T' (gt F v + j), gt W (gt F v + j)) := by
  have hj : (j.toNat : Int) = j := by omega
  have hl : j.toNat < (RowL F T' W v).length := by omega
  have : gt (RowL F T' W v) ((j.toNat : Nat) : Int) = (RowL F T' W v)[j.toNat] := gt_nat hl
  rw [hj] at this
  rw [this]
  simp [RowL, hj]
theorem rise_all {f : Int → Int} {a b : Int} (h : ∀ k, a < k → k < b → f (k - 1) < f k) : ∀ (d : Nat) (i : Int), a ≤ i → i + d + 1 < b → f i < f (i + d + 1) := by
  intro d
  induction d with
  | zero =>
    intro i i0 i1
    have := h (i + 1) (by omega) (by omega)
    rw [show i + 1 - 1 = i from by omega] at this
    rw [show i + ((0 : Nat) : Int) + 1 = i + 1 from by omega]; exact this
  | succ d ih =>
    intro i i0 i1
    have a1 := ih i i0 (by omega)
    have b1 := h (i + ((d + 1 : Nat) : Int) + 1) (by omega) (by omega)
    rw [show i + ((d + 1 : Nat) : Int) + 1 - 1 = i + d + 1 from by omega] at b1
    omega
/-- The nodes to which a list's arcs lead rise. -/
def RiseT (l : List A3) : Prop := ∀ i j : Int, 0 ≤ i → i < j → j < (l.length : Int) → (gt l i).2.1 < (gt l j).2.1
theorem RowL.rise (hc : Chk F T' W .nil) {v : Int} (v0 : 0 ≤ v) (v1 : v < (F.length : Int) - 1) : RiseT (RowL F T' W v) := by
  intro i j i0 ij j1
  have hb := hc.inr v0 v1
  have hlen := RowL.len (F := F) (T' := T') (W := W) (v := v)
  rw [RowL.gt' i0 (by omega), RowL.gt' (by omega) j1]
  show gt T' (gt F v + i) < gt T' (gt F v + j)
  have := rise_all (f := fun k => gt T' k) (a := gt F v) (b := gt F (v + 1)) (fun k k0 k1 => hc.rise ⟨v0, v1, by omega, by omega⟩ k0) (j - i - 1).toNat (gt F v + i) (by omega) (by omega)
  rw [show gt F v + i + (((j - i - 1).toNat : Nat) : Int) + 1 = gt F v + j from by omega] at this
  exact this
theorem RowL.node (hc : Chk F T' W .nil) {v j : Int} (v0 : 0 ≤ v) (v1 : v < (F.length : Int) - 1) (j0 : 0 ≤ j) (j1 : j < ((RowL F T' W v).length : Int)) : 0 ≤ (gt (RowL F T' W v) j).2.1 ∧ (gt (RowL F T' W v) j).2.1 < (F.length : Int) - 1 := by
  have hb := hc.inr v0 v1
  have hlen := RowL.len (F := F) (T' := T') (W := W) (v := v)
  rw [RowL.gt' j0 j1]
  show 0 ≤ gt T' (gt F v + j) ∧ gt T' (gt F v + j) < (F.length : Int) - 1
  have := hc.arcs v (gt F v + j) ⟨v0, v1, by omega, by omega⟩
  unfold arcNo at this
  split at this
  · simp at this
  · omega

/-- What a list of arcs tells of a node. -/
inductive Hit (l : List A3) (w : Int) : Int → Bool → Prop
  | yes (i : Int) : 0 ≤ i → i < (l.length : Int) → (gt l i).2.1 = w → Hit l w (gt l i).2.2 true
  | no : (∀ i, 0 ≤ i → i < (l.length : Int) → (gt l i).2.1 ≠ w) → Hit l w 0 false
theorem Hit.uniq {l : List A3} {w x y : Int} {a b : Bool} (hr : RiseT l) (h : Hit l w x a) (k : Hit l w y b) : x = y ∧ a = b := by
  cases h with
  | yes i i0 i1 e =>
    cases k with
    | yes j j0 j1 e2 =>
      have : i = j := by
        rcases Int.lt_trichotomy i j with h | h | h
        · have := hr i j i0 h j1; omega
        · exact h
        · have := hr j i j0 h i1; omega
      subst this; exact ⟨rfl, rfl⟩
    | no n => exact absurd e (n i i0 i1)
  | no n =>
    cases k with
    | yes j j0 j1 e2 => exact absurd e2 (n j j0 j1)
    | no _ => exact ⟨rfl, rfl⟩

theorem p_bs {l : List A3} {w n : Int} (hr : RiseT l) (hn : ∀ i, 0 ≤ i → i < (l.length : Int) → 0 ≤ (gt l i).2.1 ∧ (gt l i).2.1 < n) (n1 : n ≤ 65536) (w0 : 0 ≤ w) (w1 : w < n) (hl : l.length ≤ 262144) :
    T (z_slices_BinarySearchFunc l w) fun r => if r.2 = true then 0 ≤ r.1 ∧ r.1 < (l.length : Int) ∧ Hit l w (gt l r.1).2.2 true else Hit l w 0 false := by
  have f1 : ∀ i, 0 ≤ i → i < (l.length : Int) → z_csr_Find_1 ((gt l i).1) ((gt l i).2.1) ((gt l i).2.2) w = some ((gt l i).2.1 - w) := fun i i0 i1 => by
    have := hn i i0 i1
    unfold z_csr_Find_1 G; rw [if_pos (by omega)]
  unfold z_slices_BinarySearchFunc
  refine T_bindr (fun o => 0 ≤ o ∧ o ≤ (l.length : Int) ∧ (∀ k, 0 ≤ k → k < o → (gt l k).2.1 < w) ∧ ∀ k, o ≤ k → k < (l.length : Int) → w ≤ (gt l k).2.1) ?_ ?_
  · refine T_loop (fun z => 0 ≤ z.2 ∧ z.2 ≤ z.1 ∧ z.1 ≤ (l.length : Int) ∧ (∀ k, 0 ≤ k → k < z.2 → (gt l k).2.1 < w) ∧ ∀ k, z.1 ≤ k → k < (l.length : Int) → w ≤ (gt l k).2.1) (fun z => (z.1 - z.2).toNat) ?_ ⟨by simp, by simp, by simp, fun k k0 k1 => by dsimp only at k1; omega, fun k k0 k1 => by dsimp only at k0; omega⟩
    rintro ⟨j, i⟩ ⟨i0, ij, j1, h1, h2⟩
    dsimp only at *
    unfold z_slices_BinarySearchFunc_l0
    rw [T_ite]
    refine ⟨fun hlt => ?_, fun hge => ?_⟩
    · have m0 : 0 ≤ (i + j) / 2 := by omega
      have m1 : (i + j) / 2 < (l.length : Int) := by omega
      rw [T_G, T_G, T_G, T_G, f1 _ m0 m1, Option.bind_some, T_ite]
      refine ⟨by omega, by omega, by omega, ⟨m0, m1⟩, fun h => ?_, fun h => ?_⟩
      · simp only [T_G, T_some, Sum.elim_inl]
        refine ⟨by omega, ⟨by omega, by omega, j1, fun k k0 k1 => ?_, h2⟩, by omega⟩
        by_cases e : k = (i + j) / 2
        · rw [e]; omega
        · have := hr k ((i + j) / 2) k0 (by omega) m1; omega
      · simp only [T_some, Sum.elim_inl]
        refine ⟨⟨i0, by omega, by omega, h1, fun k k0 k1 => ?_⟩, by omega⟩
        by_cases e : k = (i + j) / 2
        · rw [e]; omega
        · have := hr ((i + j) / 2) k m0 (by omega) k1; omega
    · simp only [T_some, Sum.elim_inr]
      exact ⟨i0, by omega, h1, fun k k0 k1 => h2 k (by omega) k1⟩
  · rintro o ⟨o0, o1, h1, h2⟩
    rw [T_ite]
    refine ⟨fun hlt => ?_, fun hge => ?_⟩
    · rw [T_G, f1 o o0 hlt, Option.bind_some]
      simp only [T_some]
      refine ⟨o0, ?_⟩
      by_cases e : (gt l o).2.1 - w = 0
      · rw [decide_eq_true e, if_pos rfl]
        exact ⟨o0, hlt, .yes o o0 hlt (by omega)⟩
      · rw [decide_eq_false e, if_neg (by decide)]
        refine .no fun k k0 k1 hk => ?_
        by_cases q : k < o
        · have := h1 k k0 q; omega
        · by_cases q2 : k = o
          · rw [q2] at hk; omega
          · have := hr o k o0 (by omega) k1
            have := h2 o (by omega) hlt
            omega
    · simp only [T_some]
      rw [if_neg (by decide)]
      exact .no fun k k0 k1 hk => by have := h1 k k0 (by omega); omega

/-- What is answered for an arc that is looked for. -/
inductive FndA (F T' W : List Int) (v w : Int) : Int → Er → Prop
  | row (l : List A3) (er : Er) : RowA F T' W v l er → er ≠ .nil → FndA F T' W v w 0 er
  | node : RowA F T' W v (RowL F T' W v) .nil → ¬ (0 ≤ w ∧ w < (F.length : Int) - 1) → FndA F T' W v w 0 (.no 7)
  | hit (x : Int) : RowA F T' W v (RowL F T' W v) .nil → 0 ≤ w → w < (F.length : Int) - 1 → Hit (RowL F T' W v) w x true → FndA F T' W v w x .nil
  | none : RowA F T' W v (RowL F T' W v) .nil → 0 ≤ w → w < (F.length : Int) - 1 → Hit (RowL F T' W v) w 0 false → FndA F T' W v w 0 (.no 16)
theorem RowA.nil' {v : Int} {l : List A3} (h : RowA F T' W v l .nil) : l = RowL F T' W v ∧ Chk F T' W .nil ∧ 0 ≤ v ∧ v < (F.length : Int) - 1 := by
  cases h with
  | bad _ _ n => exact absurd rfl n
  | ok c a b => exact ⟨rfl, c, a, b⟩
theorem FndA.uniq {v w x y : Int} {er er' : Er} (h : FndA F T' W v w x er) (k : FndA F T' W v w y er') : x = y ∧ er = er' := by
  cases h with
  | row l _ r n =>
    cases k with
    | row l' _ r' n' => exact ⟨rfl, (r.uniq r').2⟩
    | node r' _ => exact absurd (r.uniq r').2 n
    | hit _ r' _ _ _ => exact absurd (r.uniq r').2 n
    | none r' _ _ _ => exact absurd (r.uniq r').2 n
  | node r n =>
    cases k with
    | row l' _ r' n' => exact absurd (r'.uniq r).2 n'
    | node r' _ => exact ⟨rfl, rfl⟩
    | hit _ r' a b _ => exact absurd ⟨a, b⟩ n
    | none r' a b _ => exact absurd ⟨a, b⟩ n
  | hit _ r a b t =>
    obtain ⟨_, c, v0, v1⟩ := r.nil'
    cases k with
    | row l' _ r' n' => exact absurd (r'.uniq r).2 n'
    | node r' n => exact absurd ⟨a, b⟩ n
    | hit _ r' _ _ t' => exact ⟨(t.uniq (RowL.rise c v0 v1) t').1, rfl⟩
    | none r' _ _ t' => exact absurd (t.uniq (RowL.rise c v0 v1) t').2 (by decide)
  | none r a b t =>
    obtain ⟨_, c, v0, v1⟩ := r.nil'
    cases k with
    | row l' _ r' n' => exact absurd (r'.uniq r).2 n'
    | node r' n => exact absurd ⟨a, b⟩ n
    | hit _ r' _ _ t' => exact absurd (t.uniq (RowL.rise c v0 v1) t').2 (by decide)
    | none r' _ _ t' => exact ⟨rfl, rfl⟩
theorem FndA.good {v w x : Int} {er : Er} (h : FndA F T' W v w x er) : er.good ∧ er.pls.length ≤ 1 := by
  cases h with
  | row l _ r n => exact ⟨r.good.1, r.good.2.1⟩
  | node r n => exact ⟨by simp [Er.good], by simp [Er.pls]⟩
  | hit _ r a b t => exact ⟨trivial, by simp [Er.pls]⟩
  | none r a b t => exact ⟨by simp [Er.good], by simp [Er.pls]⟩

theorem p_Find (hl : F.length ≤ 17592186044160) (ht : T'.length ≤ 17592186044160) {v w : Int} : T (z_csr_Find F T' W v w) fun r => FndA F T' W v w r.1 r.2 := by
  unfold z_csr_Find
  refine T_bindr _ (p_Row hl ht) ?_
  rintro ⟨l, er⟩ h
  dsimp only at *
  rw [T_ite]
  refine ⟨fun he => ?_, fun he => by simp only [T_some]; exact .row l er h he⟩
  subst he
  obtain ⟨rfl, c, v0, v1⟩ := h.nil'
  have hg := h.good
  have hsm : (F.length : Int) - 1 ≤ 65536 := c.small.1
  refine T_bindr (fun b => b = true ↔ ¬ (0 ≤ w ∧ w < (F.length : Int) - 1)) ?_ fun b hb => ?_
  · rw [p_nodes hl]
    simp only [T_ite, T_some, Option.bind_some, decide_eq_true_eq, true_iff]
    exact ⟨fun h => by omega, fun h => by omega⟩
  rw [T_ite]
  refine ⟨fun k => by simp only [T_some]; exact .node h (hb.1 k), fun k => ?_⟩
  have hn : 0 ≤ w ∧ w < (F.length : Int) - 1 := Classical.byContradiction fun q => k (hb.2 q)
  refine T_bindr _ (p_bs (RowL.rise c v0 v1) (fun i i0 i1 => RowL.node c v0 v1 i0 i1) hsm hn.1 hn.2 hg.2.2) ?_
  rintro ⟨o, f⟩ hf
  dsimp only at *
  cases f with
  | false =>
    rw [if_neg (by decide)] at hf
    rw [if_pos (by decide)]
    simp only [T_some]
    exact .none h hn.1 hn.2 hf
  | true =>
    rw [if_pos rfl] at hf
    obtain ⟨o0, o1, hf⟩ := hf
    rw [if_neg (by decide), T_G, T_some]
    exact ⟨⟨o0, o1⟩, .hit _ h hn.1 hn.2 hf⟩
end Go.Vd

/-! (Gc) -/

set_option linter.unusedVariables false
set_option linter.unusedSimpArgs false
namespace Go.Vd
variable {N : Int} {A L : List A3}

/-- The number of what is wrong with an arc; 0: nothing. -/
def arcG (N : Int) (a : A3) : Int := if a.1 < 0 ∨ a.1 ≥ N ∨ a.2.1 < 0 ∨ a.2.1 ≥ N then 7 else if a.2.2 < 0 ∨ a.2.2 > 2147483647 then 8 else 0
def BigG (N : Int) (A : List A3) : Prop := N < 0 ∨ N > 65536 ∨ (A.length : Int) > 262144

/-- What a graph's check tells. -/
inductive GChk (N : Int) (A : List A3) : Er → Prop
  | limit : BigG N A → GChk N A (.no 9)
  | arc (i : Int) : ¬ BigG N A → 0 ≤ i → i < (A.length : Int) → arcG N (gt A i) ≠ 0 → (∀ j, 0 ≤ j → j < i → arcG N (gt A j) = 0) → GChk N A (.at 4 i (.no (arcG N (gt A i))))
  | ok : ¬ BigG N A → (∀ j, 0 ≤ j → j < (A.length : Int) → arcG N (gt A j) = 0) → GChk N A .nil

theorem arcG_7 {a : A3} (h : a.1 < 0 ∨ a.1 ≥ N ∨ a.2.1 < 0 ∨ a.2.1 ≥ N) : arcG N a = 7 := by unfold arcG; rw [if_pos h]
theorem arcG_8 {a : A3} (h : ¬ (a.1 < 0 ∨ a.1 ≥ N ∨ a.2.1 < 0 ∨ a.2.1 ≥ N)) (k : a.2.2 < 0 ∨ a.2.2 > 2147483647) : arcG N a = 8 := by unfold arcG; rw [if_neg h, if_pos k]
theorem arcG_0 {a : A3} (h : ¬ (a.1 < 0 ∨ a.1 ≥ N ∨ a.2.1 < 0 ∨ a.2.1 ≥ N)) (k : ¬ (a.2.2 < 0 ∨ a.2.2 > 2147483647)) : arcG N a = 0 := by unfold arcG; rw [if_neg h, if_neg k]
theorem arcG_ok {a : A3} (h : arcG N a = 0) : 0 ≤ a.1 ∧ a.1 < N ∧ 0 ≤ a.2.1 ∧ a.2.1 < N ∧ 0 ≤ a.2.2 ∧ a.2.2 ≤ 2147483647 := by
  unfold arcG at h
  split at h
  · cases h
  · split at h
    · cases h
    · omega

theorem GChk.uniq {er er' : Er} (h : GChk N A er) (k : GChk N A er') : er = er' := by
  cases h with
  | limit h1 =>
    cases k with
    | limit _ => rfl
    | arc _ k1 => exact absurd h1 k1
    | ok k1 _ => exact absurd h1 k1
  | arc i h1 h2 h3 h4 h5 =>
    cases k with
    | limit k1 => exact absurd k1 h1
    | arc j _ k2 k3 k4 k5 =>
      have : i = j := by
        rcases Int.lt_trichotomy i j with q | q | q
        · exact absurd (k5 i h2 q) h4
        · exact q
        · exact absurd (h5 j k2 q) k4
      rw [this]
    | ok _ k2 => exact absurd (k2 i h2 h3) h4
  | ok h1 h2 =>
    cases k with
    | limit k1 => exact absurd k1 h1
    | arc j _ k2 k3 k4 _ => exact absurd (h2 j k2 k3) k4
    | ok _ _ => rfl
theorem GChk.bad {er : Er} (h : GChk N A er) : (er.code ≠ 0 ∨ er.pls ≠ []) ↔ er ≠ .nil := by
  cases h with
  | limit _ => simp [Er.code]
  | arc i _ _ _ h4 _ => simp [Er.pls]
  | ok _ _ => simp [Er.code, Er.pls]
theorem GChk.small (h : GChk N A .nil) : 0 ≤ N ∧ N ≤ 65536 ∧ (A.length : Int) ≤ 262144 := by
  cases h with
  | ok h1 _ => unfold BigG at h1; omega
theorem GChk.arcs (h : GChk N A .nil) : ∀ a ∈ A, 0 ≤ a.1 ∧ a.1 < N ∧ 0 ≤ a.2.1 ∧ a.2.1 < N ∧ 0 ≤ a.2.2 ∧ a.2.2 ≤ 2147483647 := by
  cases h with
  | ok h1 h2 =>
    intro a ha
    obtain ⟨i, i0, i1, rfl⟩ := mem_gtE ha
    exact arcG_ok (h2 i i0 i1)
theorem GChk.of_arcs (n0 : 0 ≤ N) (n1 : N ≤ 65536) (n2 : (A.length : Int) ≤ 262144) (h : ∀ a ∈ A, 0 ≤ a.1 ∧ a.1 < N ∧ 0 ≤ a.2.1 ∧ a.2.1 < N ∧ 0 ≤ a.2.2 ∧ a.2.2 ≤ 2147483647) : GChk N A .nil :=
  .ok (by unfold BigG; omega) fun j j0 j1 => by have := h _ (gt_mem j0 j1); exact arcG_0 (by omega) (by omega)

theorem p_garc {a : A3} : z_gtext_arc a.1 a.2.1 a.2.2 N = some (if arcG N a = 0 then .nil else .no (arcG N a)) := by
  refine T_eq.1 ?_
  unfold z_gtext_arc
  refine T_bindr (fun o => o = decide (a.1 < 0 ∨ a.1 ≥ N ∨ a.2.1 < 0 ∨ a.2.1 ≥ N)) ?_ ?_
  · unfold z_gtext_within
    simp only [T_bind, T_ite, T_some]
    refine ⟨fun h1 => ⟨fun h2 => ⟨fun h3 => ?_, fun h3 => ?_⟩, fun h2 => ?_⟩, fun h1 => ⟨fun h2 => ?_, fun h2 => ?_⟩⟩
    · have h2' : a.1 < N := by simpa using h2
      by_cases h4 : a.2.1 < N
      · simp [h4]; omega
      · simp [h4]; omega
    · simp; omega
    · have h2' : ¬ a.1 < N := by simpa using h2
      simp; omega
    · simp at h2
    · simp; omega
  · rintro _ rfl
    by_cases h : a.1 < 0 ∨ a.1 ≥ N ∨ a.2.1 < 0 ∨ a.2.1 ≥ N
    · rw [arcG_7 h]; simp [h]
    · rw [decide_eq_false h, if_neg (by decide)]
      by_cases k1 : a.2.2 < 0
      · rw [if_pos k1, arcG_8 h (.inl k1)]; simp
      · rw [if_neg k1]
        by_cases k2 : a.2.2 > 2147483647
        · rw [if_pos k2, arcG_8 h (.inr k2)]; simp
        · rw [if_neg k2, arcG_0 h (by omega)]; simp
theorem p_fAtG {k i : Int} {e : Er} (h : e ≠ .nil) : z_fault_At k i e = some (.at k i e) := by
  unfold z_fault_At; rw [if_neg h]

theorem p_big : T (if N < 0 then (some true) else (if N > 65536 then (some true) else (some (decide ((A.length : Int) > 262144)))) : Option Bool) fun o => o = true ↔ BigG N A := by
  unfold BigG
  simp only [T_ite, T_some]
  exact ⟨fun h => by simp [h], fun h => ⟨fun h2 => by simp [h2], fun h2 => by simp; omega⟩⟩

theorem p_gCheck : T (z_gtext_Check N A) (GChk N A) := by
  unfold z_gtext_Check
  refine T_bindr _ p_big fun o ho => ?_
  rw [T_ite]
  refine ⟨fun h => by simp only [T_some]; exact .limit (ho.1 h), fun h => ?_⟩
  have hb : ¬ BigG N A := fun k => h (ho.2 k)
  have hl : (A.length : Int) ≤ 262144 := by unfold BigG at hb; omega
  refine T_binds (fun _ => ∀ j, 0 ≤ j → j < (A.length : Int) → arcG N (gt A j) = 0) ?_ fun _ h => by simp only [T_some]; exact .ok hb h
  refine T_loop (fun i => 0 ≤ i ∧ i ≤ (A.length : Int) ∧ ∀ j, 0 ≤ j → j < i → arcG N (gt A j) = 0) (fun i => ((A.length : Int) - i).toNat) ?_ ⟨by simp, by simp, fun j j0 j1 => by omega⟩
  rintro i ⟨i0, i1, hi⟩
  unfold z_gtext_Check_l0
  rw [T_ite]
  refine ⟨fun hlt => ?_, fun hge => by simp only [T_some, Sum.elim_inr]; exact fun j j0 j1 => hi j j0 (by omega)⟩
  rw [T_G, p_garc, Option.bind_some]
  refine ⟨i0, ?_⟩
  by_cases h0 : arcG N (gt A i) = 0
  · rw [if_pos h0, if_pos rfl]
    simp only [T_G, T_some, Sum.elim_inl]
    refine ⟨by omega, ⟨by omega, by omega, fun j j0 j1 => ?_⟩, by omega⟩
    by_cases e : j = i
    · rw [e]; exact h0
    · exact hi j j0 (by omega)
  · rw [if_neg h0, if_neg (by simp), p_fAtG (by simp), Option.bind_some]
    simp only [T_map, T_some, Sum.elim_inr, Sum.elim_inl]
    exact .arc i hb i0 hlt h0 hi

/-- An arc turned about. -/
def swp3 (a : A3) : A3 := (a.2.1, a.1, a.2.2)
inductive RevA (N : Int) (A : List A3) : Int → List A3 → Er → Prop
  | bad (er : Er) : GChk N A er → er ≠ .nil → RevA N A 0 [] er
  | ok : GChk N A .nil → RevA N A N (A.map swp3) .nil
theorem GChk.rev (h : GChk N A .nil) : GChk N (A.map swp3) .nil := by
  obtain ⟨n0, n1, n2⟩ := h.small
  refine .of_arcs n0 n1 (by simpa using n2) fun a ha => ?_
  obtain ⟨b, hb, rfl⟩ := List.mem_map.1 ha
  have := h.arcs b hb
  unfold swp3; dsimp only; omega
end Go.Vd

/-! (So3r) -/

set_option linter.unusedVariables false
set_option linter.unusedSectionVars false
set_option linter.unusedSimpArgs false
namespace Go.Vd
variable {N : Int} {A L : List A3}
theorem p_Rev : T (z_normal_Reverse N A) fun r => RevA N A r.1 r.2.1 r.2.2 := by
  unfold z_normal_Reverse
  refine T_bindr _ p_gCheck fun er hc => ?_
  rw [T_ite]
  refine ⟨fun he => ?_, fun he => by simp only [T_some]; exact .bad er hc he⟩
  subst he
  obtain ⟨n0, n1, n2⟩ := hc.small
  refine T_bindr (fun c => c = A.map swp3) ?_ ?_
  · refine T_loop (fun z => 0 ≤ z.1 ∧ z.1 ≤ (A.length : Int) ∧ z.2 = (A.take z.1.toNat).map swp3) (fun z => ((A.length : Int) - z.1).toNat) ?_ ⟨by simp, by simp, by simp⟩
    rintro ⟨i, c⟩ ⟨i0, i1, e⟩
    dsimp only at *
    subst e
    unfold z_normal_Reverse_l0
    rw [T_ite]
    refine ⟨fun hlt => ?_, fun hge => ?_⟩
    rotate_left
    · simp only [T_some, Sum.elim_inr]
      rw [List.take_of_length_le (by omega)]
    simp only [T_G, T_some, Sum.elim_inl, List.length_map, List.length_take]
    refine ⟨i0, by omega, by omega, ⟨by omega, by omega, ?_⟩, by omega⟩
    rw [take_gtE i0 hlt, List.map_append]; rfl
  · rintro _ rfl
    simp only [T_some]
    exact .ok hc
end Go.Vd

/-! (So1) -/

set_option linter.unusedVariables false
set_option linter.unusedSimpArgs false
namespace Go.Vd

theorem p_Compare {x y : Int} : z_cmp_Compare x y = some (if x < y then -1 else if x > y then 1 else 0) := by
  unfold z_cmp_Compare z_cmp_isNaN
  simp only [Option.bind_some]
  simp
  by_cases h1 : x < y
  · simp [h1]
  · by_cases h2 : y < x <;> simp [h1, h2]
theorem p_Or3 {a b c : Int} : z_cmp_Or [a, b, c] = some (if a ≠ 0 then a else if b ≠ 0 then b else c) := by
  unfold z_cmp_Or
  have h3 : z_cmp_Or_l0 [a, b, c] 3 = some (Sum.inr (Sum.inr ())) := by unfold z_cmp_Or_l0; rw [if_neg (by simp)]
  have step : ∀ i : Int, 0 ≤ i → i < 3 → z_cmp_Or_l0 [a, b, c] i = if gt [a, b, c] i = 0 then some (Sum.inl (i + 1)) else some (Sum.inr (Sum.inl (gt [a, b, c] i))) := fun i i0 i1 => by
    unfold z_cmp_Or_l0 G
    rw [if_pos (by simp; omega), if_pos i0]
    split
    · rw [if_pos (by omega)]
    · rfl
  have g0 : gt [a, b, c] 0 = a := rfl
  have g1 : gt [a, b, c] 1 = b := rfl
  have g2 : gt [a, b, c] 2 = c := rfl
  rw [loopO_eq, step 0 (by omega) (by omega), g0]
  by_cases ha : a = 0
  · rw [if_pos ha, if_neg (by simp [ha]), Option.bind_some, Sum.elim_inl, show (0 : Int) + 1 = 1 from rfl, loopO_eq, step 1 (by omega) (by omega), g1]
    by_cases hb : b = 0
    · rw [if_pos hb, if_neg (by simp [hb]), Option.bind_some, Sum.elim_inl, show (1 : Int) + 1 = 2 from rfl, loopO_eq, step 2 (by omega) (by omega), g2]
      by_cases hc : c = 0
      · rw [if_pos hc, Option.bind_some, Sum.elim_inl, show (2 : Int) + 1 = 3 from rfl, loopO_eq, h3]
        simp [hc]
      · rw [if_neg hc]; simp
    · rw [if_neg hb, if_pos hb]; simp
  · rw [if_neg ha, if_pos ha]; simp

/-- Three numbers in order. -/
def lt3 (x y : Int × Int × Int) : Prop := x.1 < y.1 ∨ (x.1 = y.1 ∧ (x.2.1 < y.2.1 ∨ (x.2.1 = y.2.1 ∧ x.2.2 < y.2.2)))
instance (x y : Int × Int × Int) : Decidable (lt3 x y) := by unfold lt3; infer_instance
noncomputable abbrev ord3 : Int × Int × Int → Int × Int × Int → Option Int := fun a_ b_ => z_normal_order a_.1 a_.2.1 a_.2.2 b_.1 b_.2.1 b_.2.2

theorem p_order (x y : Int × Int × Int) : ∃ r, ord3 x y = some r ∧ (r < 0 ↔ lt3 x y) := by
  unfold ord3 z_normal_order
  simp only [p_Compare, Option.bind_some, p_Or3]
  refine ⟨_, rfl, ?_⟩
  unfold lt3
  by_cases a1 : x.1 < y.1
  · simp [a1]
  · by_cases a2 : x.1 > y.1
    · have : ¬ x.1 = y.1 := by omega
      simp [a1, a2, this]
    · have e : x.1 = y.1 := by omega
      by_cases b1 : x.2.1 < y.2.1
      · simp [e, b1]
      · by_cases b2 : x.2.1 > y.2.1
        · have : ¬ x.2.1 = y.2.1 := by omega
          simp [e, b1, b2, this]
        · have e2 : x.2.1 = y.2.1 := by omega
          by_cases c1 : x.2.2 < y.2.2
          · simp [e, e2, c1]
          · by_cases c2 : x.2.2 > y.2.2 <;> simp [e, e2, c1, c2]
theorem ord3_lt (x y : Int × Int × Int) : (ord3 x y).getD 0 < 0 ↔ lt3 x y := by
  obtain ⟨r, h1, h2⟩ := p_order x y
  rw [h1]; exact h2
theorem ord3_ok : SortOk ord3 :=
  { ans := fun x y => let ⟨r, h, _⟩ := p_order x y; ⟨r, h⟩
    irr := fun x => by rw [ord3_lt]; unfold lt3; omega
    trn := fun x y z => by rw [ord3_lt, ord3_lt, ord3_lt]; unfold lt3; omega
    ntr := fun x y z => by rw [ord3_lt, ord3_lt, ord3_lt]; unfold lt3; omega
    tot := fun x y h1 h2 => by
      rw [ord3_lt] at h1 h2
      obtain ⟨x1, x2, x3⟩ := x
      obtain ⟨y1, y2, y3⟩ := y
      unfold lt3 at h1 h2
      dsimp only at h1 h2
      simp only [Prod.mk.injEq]
      omega }
theorem p_sort (xs : List (Int × Int × Int)) : sortO (fun (a_ b_ : Int × Int × Int) => z_normal_order a_.1 a_.2.1 a_.2.2 b_.1 b_.2.1 b_.2.2) xs = some (sortL ord3 xs) := sortO_ok ord3_ok xs
theorem sort_rise (xs : List (Int × Int × Int)) : (sortL ord3 xs).Pairwise fun x y => ¬ lt3 y x := (sortL_sorted ord3_ok xs).imp fun h => by rwa [ord3_lt] at h

/-- Of the same two nodes. -/
def key2 (x y : Int × Int × Int) : Prop := x.1 = y.1 ∧ x.2.1 = y.2.1
instance (x y : Int × Int × Int) : Decidable (key2 x y) := by unfold key2; infer_instance
theorem p_like {x y : Int × Int × Int} : z_normal_Of_1 x.1 x.2.1 x.2.2 y.1 y.2.1 y.2.2 = some (decide (key2 x y)) := by
  unfold z_normal_Of_1 key2
  by_cases h : x.1 = y.1 <;> simp [h]

/-- What is left of the first k, when of neighbours that are alike the first stays. -/
def cpt (s : List (Int × Int × Int)) : Nat → List (Int × Int × Int)
  | 0 => []
  | k + 1 => cpt s k ++ if k ≠ 0 ∧ key2 (gt s (k : Int)) (gt s ((k : Int) - 1)) then [] else [gt s (k : Int)]
theorem cpt_len (s : List (Int × Int × Int)) (k : Nat) : (cpt s k).length ≤ k := by
  induction k with
  | zero => simp [cpt]
  | succ k ih =>
    simp only [cpt, List.length_append]
    split <;> simp <;> omega
theorem cpt_next {s : List (Int × Int × Int)} {i : Int} (i0 : 0 ≤ i) : cpt s (i + 1).toNat = cpt s i.toNat ++ if i ≠ 0 ∧ key2 (gt s i) (gt s (i - 1)) then [] else [gt s i] := by
  rw [show (i + 1).toNat = i.toNat + 1 from by omega]
  simp only [cpt]
  rw [show ((i.toNat : Nat) : Int) = i from by omega]
  have : i.toNat ≠ 0 ↔ i ≠ 0 := by omega
  simp only [ne_eq, this]

theorem gt_drop {E : Type} [Inhabited E] {l : List E} {k j : Int} (k0 : 0 ≤ k) (j0 : 0 ≤ j) : gt (l.drop k.toNat) j = gt l (k + j) := by
  unfold gt
  rw [List.getD_eq_getElem?_getD, List.getD_eq_getElem?_getD, List.getElem?_drop, show k.toNat + j.toNat = (k + j).toNat from by omega]

theorem p_Compact {s : List (Int × Int × Int)} (hl : s.length ≤ 1000000000000) : T (z_slices_CompactFunc s) fun r => r.1 = cpt s s.length := by
  unfold z_slices_CompactFunc
  rw [T_ite]
  have c1 : 0 < s.length → cpt s 1 = s.take 1 := fun h => by
    simp only [cpt]
    have := take_gtE (l := s) (i := 0) (by omega) (by omega)
    simpa using this.symm
  refine ⟨fun h => ?_, fun h => ?_⟩
  · simp only [T_some]
    by_cases h0 : s.length = 0
    · rw [h0]; exact List.eq_nil_of_length_eq_zero h0
    · have : s.length = 1 := by omega
      have h2 := c1 (by omega)
      rw [this, h2, List.take_of_length_le (by omega)]
  refine T_binds (fun _ => cpt s s.length = s) ?_ fun _ h => by simp only [T_some]; exact h.symm
  refine T_loop (fun k => 1 ≤ k ∧ k ≤ (s.length : Int) ∧ cpt s k.toNat = s.take k.toNat) (fun k => ((s.length : Int) - k).toNat) ?_ ⟨by omega, by omega, c1 (by omega)⟩
  rintro k ⟨k0, k1, hk⟩
  unfold z_slices_CompactFunc_l1
  rw [T_ite]
  refine ⟨fun hlt => ?_, fun hge => ?_⟩
  rotate_left
  · simp only [T_some, Sum.elim_inr]
    have : k = s.length := by omega
    subst this
    simpa using hk
  simp only [T_G]
  refine ⟨by omega, by omega, by omega, ?_⟩
  rw [p_like, Option.bind_some, T_ite]
  refine ⟨fun heq => ?_, fun hne => ?_⟩
  rotate_left
  · have hne' : ¬ key2 (gt s k) (gt s (k - 1)) := by simpa using hne
    simp only [T_G, T_some, Sum.elim_inl]
    refine ⟨by omega, ⟨by omega, by omega, ?_⟩, by omega⟩
    rw [cpt_next (by omega), if_neg (fun h => hne' h.2), hk]
    exact (take_gtE (by omega) hlt).symm
  have heq' : key2 (gt s k) (gt s (k - 1)) := by simpa using heq
  simp only [T_G]
  refine ⟨by omega, ?_⟩
  refine T_bindr (fun r => (r.1.length : Int) = s.length ∧ 0 ≤ r.2 ∧ r.2 ≤ (s.length : Int) ∧ cpt s s.length = r.1.take r.2.toNat) ?_ ?_
  · refine T_loop (fun z => 1 ≤ z.2.2 ∧ z.2.2 ≤ (s.length : Int) - k ∧ k ≤ z.2.1 ∧ z.2.1 ≤ k + z.2.2 - 1 ∧ (z.1.length : Int) = s.length ∧ cpt s (k + z.2.2).toNat = z.1.take z.2.1.toNat ∧ ∀ j, k + z.2.2 - 1 ≤ j → gt z.1 j = gt s j) (fun z => ((s.length : Int) - k - z.2.2).toNat) ?_ ⟨by simp, by dsimp only; omega, by simp, by dsimp only; omega, rfl, ?_, fun _ _ => rfl⟩
    rotate_left
    · dsimp only
      rw [cpt_next (by omega), if_pos ⟨by omega, heq'⟩, hk, List.append_nil]
    rintro ⟨s0, k1', k2⟩ ⟨a0, a1, a2, a3, a4, a5, a6⟩
    dsimp only at *
    have hdl : ((s0.drop k.toNat).length : Int) = s.length - k := by rw [List.length_drop]; omega
    unfold z_slices_CompactFunc_l0
    rw [hdl, T_ite]
    refine ⟨fun hlt2 => ?_, fun hge2 => ?_⟩
    rotate_left
    · simp only [T_some, Sum.elim_inr]
      have : k + k2 = s.length := by omega
      rw [this] at a5
      exact ⟨a4, by omega, by omega, by simpa using a5⟩
    have e1 : gt (s0.drop k.toNat) k2 = gt s (k + k2) := by rw [gt_drop (by omega) (by omega)]; exact a6 _ (by omega)
    have e2 : gt (s0.drop k.toNat) (k2 - 1) = gt s (k + k2 - 1) := by rw [gt_drop (by omega) (by omega), show k + (k2 - 1) = k + k2 - 1 from by omega]; exact a6 _ (by omega)
    simp only [T_G]
    refine ⟨by omega, by omega, by omega, ?_⟩
    rw [p_like, e1, e2, Option.bind_some, T_ite]
    have nx : (k + (k2 + 1)).toNat = (k + k2 + 1).toNat := by omega
    refine ⟨fun hn => ?_, fun hy => ?_⟩
    · have hn' : ¬ key2 (gt s (k + k2)) (gt s (k + k2 - 1)) := by simpa using hn
      simp only [T_G, T_some, Sum.elim_inl]
      refine ⟨by omega, by omega, by omega, ⟨by omega, by omega, by omega, by omega, by simpa using a4, ?_, fun j hj => ?_⟩, by omega⟩
      · rw [nx, cpt_next (by omega), if_neg (fun h => hn' h.2), a5]
        have h1 := take_gtE (l := s0.set k1'.toNat (gt s (k + k2))) (i := k1') (by omega) (by simp; omega)
        rw [h1, gt_setE (by omega) (by omega) (by omega), if_pos rfl, List.take_set_of_le (Nat.le_refl _)]
      · rw [gt_setE (by omega) (by omega) (by omega), if_neg (by omega)]; exact a6 j (by omega)
    · have hy' : key2 (gt s (k + k2)) (gt s (k + k2 - 1)) := by simpa using hy
      simp only [T_G, T_some, Sum.elim_inl]
      refine ⟨by omega, ⟨by omega, by omega, by omega, by omega, a4, ?_, fun j hj => a6 j (by omega)⟩, by omega⟩
      rw [nx, cpt_next (by omega), if_pos ⟨by omega, hy'⟩, a5, List.append_nil]
  · rintro ⟨r, q⟩ ⟨b1, b2, b3, b4⟩
    dsimp only at *
    have hlen : ((r.take q.toNat ++ List.replicate (r.length - q.toNat) ((0, 0, 0) : Int × Int × Int)).length : Int) = r.length := by simp; omega
    simp only [T_G, T_map, T_some, Sum.elim_inr, Sum.elim_inl]
    refine ⟨by omega, by omega, by omega, ?_⟩
    rw [List.take_left' (by rw [List.length_take]; omega)]
    exact b4.symm
end Go.Vd

/-! (So2) -/

set_option linter.unusedVariables false
set_option linter.unusedSectionVars false
set_option linter.unusedSimpArgs false
namespace Go.Vd

def ltk (x y : A3) : Prop := x.1 < y.1 ∨ (x.1 = y.1 ∧ x.2.1 < y.2.1)

/-- L is the normal list of A's arcs. -/
structure Nrm (A L : List A3) : Prop where
  inc : L.Pairwise ltk
  sub : ∀ a ∈ L, a ∈ A ∧ a.1 ≠ a.2.1 ∧ ∀ b ∈ A, key2 b a → a.2.2 ≤ b.2.2
  sup : ∀ a ∈ A, a.1 ≠ a.2.1 → ∃ b ∈ L, key2 b a

theorem sorted_eq : ∀ {L M : List A3}, L.Pairwise ltk → M.Pairwise ltk → (∀ x, x ∈ L ↔ x ∈ M) → L = M := by
  intro L
  induction L with
  | nil =>
    intro M _ _ h
    cases M with
    | nil => rfl
    | cons b M => have := (h b).2 (List.mem_cons_self ..); cases this
  | cons a L ih =>
    intro M hL hM h
    cases M with
    | nil => have := (h a).1 (List.mem_cons_self ..); cases this
    | cons b M =>
      have hab : a = b := by
        rcases List.mem_cons.1 ((h a).1 (List.mem_cons_self ..)) with h1 | h1
        · exact h1
        · rcases List.mem_cons.1 ((h b).2 (List.mem_cons_self ..)) with h2 | h2
          · exact h2.symm
          · have k1 := (List.pairwise_cons.1 hM).1 a h1
            have k2 := (List.pairwise_cons.1 hL).1 b h2
            unfold ltk at k1 k2
            omega
      subst hab
      rw [ih (List.pairwise_cons.1 hL).2 (List.pairwise_cons.1 hM).2 fun x => ⟨fun hx => ?_, fun hx => ?_⟩]
      · rcases List.mem_cons.1 ((h x).1 (List.mem_cons_of_mem _ hx)) with rfl | h1
        · have := (List.pairwise_cons.1 hL).1 x hx
          unfold ltk at this; omega
        · exact h1
      · rcases List.mem_cons.1 ((h x).2 (List.mem_cons_of_mem _ hx)) with rfl | h1
        · have := (List.pairwise_cons.1 hM).1 x hx
          unfold ltk at this; omega
        · exact h1

theorem inc_tri {L : List A3} (h : L.Pairwise ltk) : ∀ x ∈ L, ∀ y ∈ L, x = y ∨ ltk x y ∨ ltk y x := by
  induction L with
  | nil => intro x hx; cases hx
  | cons a L ih =>
    intro x hx y hy
    obtain ⟨h1, h2⟩ := List.pairwise_cons.1 h
    rcases List.mem_cons.1 hx with ex | hx'
    · rcases List.mem_cons.1 hy with ey | hy'
      · exact .inl (ex.trans ey.symm)
      · rw [ex]; exact .inr (.inl (h1 y hy'))
    · rcases List.mem_cons.1 hy with ey | hy'
      · rw [ey]; exact .inr (.inr (h1 x hx'))
      · exact ih h2 x hx' y hy'
theorem inc_key {L : List A3} (h : L.Pairwise ltk) {x y : A3} (hx : x ∈ L) (hy : y ∈ L) (k : key2 x y) : x = y := by
  rcases inc_tri h x hx y hy with h | h | h
  · exact h
  · unfold ltk at h; unfold key2 at k; omega
  · unfold ltk at h; unfold key2 at k; omega

theorem Nrm.mem {A L M : List A3} (h : Nrm A L) (k : Nrm A M) {x : A3} (hx : x ∈ L) : x ∈ M := by
  obtain ⟨h1, h2, h3⟩ := h.sub x hx
  obtain ⟨b, b1, b2⟩ := k.sup x h1 h2
  obtain ⟨k1, k2, k3⟩ := k.sub b b1
  have e1 := h3 b k1 b2
  have e2 := k3 x h1 ⟨b2.1.symm, b2.2.symm⟩
  have : x = b := eq3 b2.1.symm b2.2.symm (by omega)
  rw [this]; exact b1
theorem Nrm.uniq {A L M : List A3} (h : Nrm A L) (k : Nrm A M) : L = M :=
  sorted_eq h.inc k.inc fun x => ⟨h.mem k, k.mem h⟩
/-- Only what is in the list counts. -/
theorem Nrm.of_mem {A B L : List A3} (h : Nrm A L) (e : ∀ x, x ∈ A ↔ x ∈ B) : Nrm B L :=
  ⟨h.inc, fun a ha => let ⟨h1, h2, h3⟩ := h.sub a ha; ⟨(e a).1 h1, h2, fun b hb => h3 b ((e b).2 hb)⟩, fun a ha hn => h.sup a ((e a).2 ha) hn⟩
/-- A normal list's own is itself. -/
theorem Nrm.self {A L : List A3} (h : Nrm A L) : Nrm L L :=
  ⟨h.inc, fun a ha => ⟨ha, (h.sub a ha).2.1, fun b hb k => by rw [inc_key h.inc hb ha k]; exact Int.le_refl _⟩, fun a ha _ => ⟨a, ha, rfl, rfl⟩⟩

/-! ### Sorted, and of neighbours that are alike the first -/
section
variable {s : List A3} (hs : ∀ i j : Int, 0 ≤ i → i < j → j < (s.length : Int) → ¬ lt3 (gt s j) (gt s i))
include hs
theorem rise2 {i j : Int} (i0 : 0 ≤ i) (ij : i < j) (j1 : j < (s.length : Int)) : ltk (gt s i) (gt s j) ∨ (key2 (gt s i) (gt s j) ∧ (gt s i).2.2 ≤ (gt s j).2.2) := by
  have := hs i j i0 ij j1
  unfold lt3 at this; unfold ltk key2
  omega
theorem cpt_mem {k : Nat} (hk : k ≤ s.length) : ∀ x ∈ cpt s k, ∃ i : Int, 0 ≤ i ∧ i < k ∧ x = gt s i := by
  induction k with
  | zero => intro x hx; cases hx
  | succ k ih =>
    intro x hx
    simp only [cpt] at hx
    rcases List.mem_append.1 hx with hx | hx
    · obtain ⟨i, i0, i1, e⟩ := ih (by omega) x hx
      exact ⟨i, i0, by omega, e⟩
    · split at hx
      · cases hx
      · exact ⟨k, by omega, by omega, List.mem_singleton.1 hx⟩
theorem cpt_inc {k : Nat} (hk : k ≤ s.length) : (cpt s k).Pairwise ltk := by
  induction k with
  | zero => exact .nil
  | succ k ih =>
    simp only [cpt]
    split
    · rw [List.append_nil]; exact ih (by omega)
    · rename_i hn
      rw [List.pairwise_append]
      refine ⟨ih (by omega), List.pairwise_singleton _ _, fun x hx y hy => ?_⟩
      obtain rfl := List.mem_singleton.1 hy
      obtain ⟨i, i0, i1, rfl⟩ := cpt_mem hs (by omega) x hx
      have hk0 : k ≠ 0 := by omega
      have hn' : ¬ key2 (gt s (k : Int)) (gt s ((k : Int) - 1)) := fun q => hn ⟨hk0, q⟩
      have h1 := rise2 hs (i := (k : Int) - 1) (j := k) (by omega) (by omega) (by omega)
      by_cases e : i = (k : Int) - 1
      · subst e
        unfold ltk key2 at *; omega
      · have h2 := rise2 hs (i := i) (j := (k : Int) - 1) i0 (by omega) (by omega)
        unfold ltk key2 at *; omega
theorem cpt_has {k : Nat} (hk : k ≤ s.length) : ∀ i : Int, 0 ≤ i → i < k → ∃ x ∈ cpt s k, key2 x (gt s i) ∧ x.2.2 ≤ (gt s i).2.2 := by
  induction k with
  | zero => intro i i0 i1; simp at i1; omega
  | succ k ih =>
    intro i i0 i1
    by_cases e : i = (k : Int)
    · subst e
      by_cases hn : k ≠ 0 ∧ key2 (gt s (k : Int)) (gt s ((k : Int) - 1))
      · obtain ⟨x, h1, h2, h3⟩ := ih (by omega) ((k : Int) - 1) (by omega) (by omega)
        refine ⟨x, by simp only [cpt]; exact List.mem_append_left _ h1, ?_, ?_⟩
        · have := hn.2; unfold key2 at *; omega
        · have h4 := rise2 hs (i := (k : Int) - 1) (j := k) (by omega) (by omega) (by omega)
          have := hn.2; unfold ltk key2 at *; omega
      · refine ⟨gt s (k : Int), ?_, ⟨rfl, rfl⟩, Int.le_refl _⟩
        simp only [cpt]
        rw [if_neg hn]
        exact List.mem_append_right _ (List.mem_singleton.2 rfl)
    · obtain ⟨x, h1, h2⟩ := ih (by omega) i i0 (by omega)
      exact ⟨x, by simp only [cpt]; exact List.mem_append_left _ h1, h2⟩
end

def noLp (a : A3) : Bool := !decide (a.1 = a.2.1)
theorem nrm_of {A F s : List A3} (hF : F = A.filter noLp) (hp : s.Perm F) (hs : s.Pairwise fun x y => ¬ lt3 y x) : Nrm A (cpt s s.length) := by
  have hs' : ∀ i j : Int, 0 ≤ i → i < j → j < (s.length : Int) → ¬ lt3 (gt s j) (gt s i) := fun i j i0 ij j1 => by
    obtain ⟨i, rfl⟩ := Int.eq_ofNat_of_zero_le i0
    obtain ⟨j, rfl⟩ := Int.eq_ofNat_of_zero_le (show 0 ≤ j by omega)
    rw [gt_nat (show i < s.length by omega), gt_nat (show j < s.length by omega)]
    exact List.pairwise_iff_getElem.1 hs i j (by omega) (by omega) (by omega)
  have mem : ∀ x, x ∈ s ↔ (x ∈ A ∧ x.1 ≠ x.2.1) := fun x => by
    rw [hp.mem_iff, hF, List.mem_filter]; simp [noLp]
  have inc := cpt_inc hs' (Nat.le_refl _)
  refine ⟨inc, fun a ha => ?_, fun a ha hn => ?_⟩
  · obtain ⟨i, i0, i1, e⟩ := cpt_mem hs' (Nat.le_refl _) a ha
    have hm := (mem a).1 (by rw [e]; exact gt_mem i0 i1)
    refine ⟨hm.1, hm.2, fun b hb hk => ?_⟩
    have hbn : b.1 ≠ b.2.1 := by have := hm.2; unfold key2 at hk; omega
    obtain ⟨j, j0, j1, rfl⟩ := mem_gtE ((mem b).2 ⟨hb, hbn⟩)
    obtain ⟨x, x1, x2, x3⟩ := cpt_has hs' (Nat.le_refl _) j j0 j1
    have : x = a := inc_key inc x1 ha (by unfold key2 at *; omega)
    rw [← this]; exact x3
  · obtain ⟨j, j0, j1, rfl⟩ := mem_gtE ((mem a).2 ⟨ha, hn⟩)
    obtain ⟨x, x1, x2, _⟩ := cpt_has hs' (Nat.le_refl _) j j0 j1
    exact ⟨x, x1, x2⟩

end Go.Vd

/-! (So3) -/

set_option linter.unusedVariables false
set_option linter.unusedSimpArgs false
namespace Go.Vd
variable {N : Int} {A L : List A3}

/-- What the normal graph of a graph is. -/
inductive OfA (N : Int) (A : List A3) : Int → List A3 → Er → Prop
  | bad (er : Er) : GChk N A er → er ≠ .nil → OfA N A 0 [] er
  | ok (L : List A3) : GChk N A .nil → Nrm A L → L.length ≤ A.length → OfA N A N L .nil

theorem p_Of : T (z_normal_Of N A) fun r => OfA N A r.1 r.2.1 r.2.2 := by
  unfold z_normal_Of
  refine T_bindr _ p_gCheck fun er hc => ?_
  rw [T_ite]
  refine ⟨fun he => ?_, fun he => by simp only [T_some]; exact .bad er hc he⟩
  subst he
  obtain ⟨n0, n1, n2⟩ := hc.small
  refine T_bindr (fun c => c = A.filter noLp) ?_ ?_
  · refine T_loop (fun z => 0 ≤ z.1 ∧ z.1 ≤ (A.length : Int) ∧ z.2 = (A.take z.1.toNat).filter noLp) (fun z => ((A.length : Int) - z.1).toNat) ?_ ⟨by simp, by simp, by simp⟩
    rintro ⟨i, c⟩ ⟨i0, i1, e⟩
    dsimp only at *
    subst e
    unfold z_normal_Of_l0
    rw [T_ite]
    refine ⟨fun hlt => ?_, fun hge => ?_⟩
    rotate_left
    · simp only [T_some, Sum.elim_inr]
      rw [List.take_of_length_le (by omega)]
    have hll := List.length_filter_le noLp (A.take i.toNat)
    have hlt2 : (A.take i.toNat).length ≤ A.length := by rw [List.length_take]; omega
    have next : (A.take (i + 1).toNat).filter noLp = (A.take i.toNat).filter noLp ++ if (gt A i).1 = (gt A i).2.1 then [] else [gt A i] := by
      rw [take_gtE i0 hlt, List.filter_append]
      congr 1
      by_cases h : (gt A i).1 = (gt A i).2.1 <;> simp [List.filter, noLp, h]
    simp only [T_G, T_ite, T_some, Sum.elim_inl]
    refine ⟨i0, fun h => ⟨by omega, ⟨by omega, by omega, ?_⟩, by omega⟩, fun h => ⟨by omega, by omega, ⟨by omega, by omega, ?_⟩, by omega⟩⟩
    · rw [next, if_pos h, List.append_nil]
    · rw [next, if_neg h]
  · rintro _ rfl
    have hll := List.length_filter_le noLp A
    rw [T_G, p_sort, Option.bind_some]
    refine ⟨by omega, ?_⟩
    have hp := sortL_perm ord3 (A.filter noLp)
    have hlen := hp.length_eq
    refine T_bindr _ (p_Compact (by omega)) fun r hr => ?_
    simp only [T_some]
    rw [hr]
    refine .ok _ hc (nrm_of rfl hp (sort_rise _)) ?_
    have := cpt_len (sortL ord3 (A.filter noLp)) (sortL ord3 (A.filter noLp)).length
    omega

theorem GChk.nrm (h : GChk N A .nil) (k : Nrm A L) (hl : L.length ≤ A.length) : GChk N L .nil := by
  obtain ⟨n0, n1, n2⟩ := h.small
  exact .of_arcs n0 n1 (by omega) fun a ha => h.arcs a (k.sub a ha).1
end Go.Vd

/-! (So4) -/

set_option linter.unusedVariables false
set_option linter.unusedSectionVars false
set_option linter.unusedSimpArgs false
namespace Go.Vd
variable {N : Int} {A L : List A3} {F T' W : List Int}

def cnt (L : List A3) (v : Int) : Int := ((L.filter fun a => decide (a.1 < v)).length : Int)
def cq (L : List A3) (v : Int) : Int := ((L.filter fun a => decide (a.1 = v)).length : Int)
theorem cnt_succ (L : List A3) (v : Int) : cnt L (v + 1) = cnt L v + cq L v := by
  unfold cnt cq
  induction L with
  | nil => rfl
  | cons a L ih =>
    simp only [List.filter_cons]
    by_cases h1 : a.1 < v
    · rw [if_pos (by simp; omega), if_pos (by simpa using h1), if_neg (by simp; omega)]
      simp only [List.length_cons]; omega
    · by_cases h2 : a.1 = v
      · rw [if_pos (by simp; omega), if_neg (by simpa using h1), if_pos (by simpa using h2)]
        simp only [List.length_cons]; omega
      · rw [if_neg (by simp; omega), if_neg (by simpa using h1), if_neg (by simpa using h2)]; exact ih
theorem cnt_le (L : List A3) (v : Int) : 0 ≤ cnt L v ∧ cnt L v ≤ L.length := by
  unfold cnt; have := List.length_filter_le (fun a : A3 => decide (a.1 < v)) L; omega
theorem cq_le (L : List A3) (v : Int) : 0 ≤ cq L v ∧ cq L v ≤ L.length := by
  unfold cq; have := List.length_filter_le (fun a : A3 => decide (a.1 = v)) L; omega
theorem cnt_none {v : Int} (h : ∀ a ∈ L, v ≤ a.1) : cnt L v = 0 := by
  unfold cnt
  rw [List.filter_eq_nil_iff.2 fun a ha => by have := h a ha; simp; omega]; rfl
theorem cnt_all {v : Int} (h : ∀ a ∈ L, a.1 < v) : cnt L v = L.length := by
  unfold cnt
  rw [List.filter_eq_self.2 fun a ha => by have := h a ha; simpa using this]
theorem cq_snoc (l : List A3) (a : A3) (v : Int) : cq (l ++ [a]) v = cq l v + if a.1 = v then 1 else 0 := by
  unfold cq
  rw [List.filter_append, List.length_append]
  by_cases h : a.1 = v <;> simp [List.filter, h]

theorem idx_nat : ∀ {L : List A3} {v : Int}, L.Pairwise (fun a b => a.1 ≤ b.1) → ∀ (i : Nat) (h : i < L.length), (L[i].1 < v ↔ (i : Int) < cnt L v) := by
  intro L v
  induction L with
  | nil => intro _ i h; simp at h
  | cons a L ih =>
    intro hp i h
    obtain ⟨h1, h2⟩ := List.pairwise_cons.1 hp
    by_cases ha : a.1 < v
    · have hc : cnt (a :: L) v = cnt L v + 1 := by
        unfold cnt; rw [List.filter_cons, if_pos (by simpa using ha)]; simp
      cases i with
      | zero => simp only [List.getElem_cons_zero]; have := (cnt_le L v).1; constructor <;> intro <;> omega
      | succ i =>
        simp only [List.getElem_cons_succ]
        have := ih h2 i (by simpa using h)
        rw [this, hc]; omega
    · have hz : cnt (a :: L) v = 0 := cnt_none fun b hb => by
        rcases List.mem_cons.1 hb with rfl | hb
        · omega
        · have := h1 b hb; omega
      rw [hz]
      constructor
      · intro hi
        cases i with
        | zero => simp only [List.getElem_cons_zero] at hi; omega
        | succ i =>
          simp only [List.getElem_cons_succ] at hi
          have := h1 _ (List.getElem_mem (show i < L.length by simpa using h)); omega
      · intro hi; omega
theorem inc_le (h : L.Pairwise ltk) : L.Pairwise (fun a b => a.1 ≤ b.1) := h.imp fun h => by unfold ltk at h; omega
theorem idx_cnt (h : L.Pairwise ltk) {i v : Int} (i0 : 0 ≤ i) (i1 : i < (L.length : Int)) : (gt L i).1 < v ↔ i < cnt L v := by
  obtain ⟨i, rfl⟩ := Int.eq_ofNat_of_zero_le i0
  rw [gt_nat (by omega)]
  exact idx_nat (inc_le h) i (by omega)

/-- The arrays of a list of arcs. -/
structure Flat (N : Int) (L : List A3) (F T' W : List Int) : Prop where
  lf : (F.length : Int) = N + 1
  lt : T'.length = L.length
  lw : W.length = L.length
  ft : ∀ v, 0 ≤ v → v ≤ N → gt F v = cnt L v
  tw : ∀ i, 0 ≤ i → i < (L.length : Int) → gt T' i = (gt L i).2.1 ∧ gt W i = (gt L i).2.2

theorem gt_mapE {E : Type} [Inhabited E] {l : List E} {f : E → Int} {i : Int} (i0 : 0 ≤ i) (i1 : i < (l.length : Int)) : gt (l.map f) i = f (gt l i) := by
  obtain ⟨i, rfl⟩ := Int.eq_ofNat_of_zero_le i0
  rw [gt_nat (show i < (l.map f).length by simp; omega), gt_nat (by omega)]; simp
theorem gt_rep0 {m : Nat} {x : Int} : gt (List.replicate m (0 : Int)) x = 0 := by
  simp [gt, List.getD_eq_getElem?_getD, List.getElem?_replicate]
  split <;> rfl

theorem p_flat (hg : GChk N L .nil) : T (z_csr_flat N L) fun r => Flat N L r.1 r.2.1 r.2.2 := by
  obtain ⟨n0, n1, n2⟩ := hg.small
  have ha := hg.arcs
  have hz : cnt L 0 = 0 := cnt_none fun a h => (ha a h).1
  unfold z_csr_flat
  simp only [T_G]
  refine ⟨by omega, by omega, ?_⟩
  refine T_bindr (fun r => (r.1.length : Int) = N + 1 ∧ gt r.1 0 = 0 ∧ (∀ u, 0 ≤ u → u < N → gt r.1 (u + 1) = cq L u) ∧ r.2.1 = L.map (fun a => a.2.1) ∧ r.2.2 = L.map (fun a => a.2.2)) ?_ ?_
  · refine T_loop (fun z => 0 ≤ z.1 ∧ z.1 ≤ (L.length : Int) ∧ (z.2.1.length : Int) = N + 1 ∧ gt z.2.1 0 = 0 ∧ (∀ u, 0 ≤ u → u < N → gt z.2.1 (u + 1) = cq (L.take z.1.toNat) u) ∧ z.2.2.1 = (L.take z.1.toNat).map (fun a => a.2.1) ∧ z.2.2.2 = (L.take z.1.toNat).map (fun a => a.2.2)) (fun z => ((L.length : Int) - z.1).toNat) ?_ ⟨by simp, by simp, by simp; omega, gt_rep0, fun u u0 u1 => by dsimp only; rw [gt_rep0]; simp [cq], by simp, by simp⟩
    rintro ⟨i, c1, c2, c3⟩ ⟨i0, i1, h1, h2, h3, h4, h5⟩
    dsimp only at *
    subst h4; subst h5
    unfold z_csr_flat_l0
    rw [T_ite]
    refine ⟨fun hlt => ?_, fun hge => ?_⟩
    rotate_left
    · simp only [T_some, Sum.elim_inr]
      rw [List.take_of_length_le (by omega)] at *
      exact ⟨h1, h2, h3, rfl, rfl⟩
    obtain ⟨a1, a2, a3, a4, a5, a6⟩ := ha _ (gt_mem i0 hlt)
    have hq := h3 (gt L i).1 a1 a2
    have hq2 := cq_le (L.take i.toNat) (gt L i).1
    have htl : (L.take i.toNat).length = i.toNat := by rw [List.length_take]; omega
    have nx := take_gtE i0 hlt
    simp only [T_G, T_some, Sum.elim_inl, List.length_map, htl]
    refine ⟨i0, by omega, by omega, by omega, by omega, by omega, by omega, ⟨by omega, by omega, by simpa using h1, ?_, fun u u0 u1 => ?_, ?_, ?_⟩, by omega⟩
    · rw [gt_setE (by omega) (by omega) (by omega), if_neg (by omega)]; exact h2
    · rw [gt_setE (by omega) (by omega) (by omega), nx, cq_snoc]
      by_cases e : u = (gt L i).1
      · rw [if_pos (by omega), if_pos e.symm, e, hq]
      · rw [if_neg (by omega), if_neg (fun q => e q.symm), h3 u u0 u1]; omega
    · rw [nx, List.map_append]; rfl
    · rw [nx, List.map_append]; rfl
  · rintro ⟨c1, c2, c3⟩ ⟨h1, h2, h3, h4, h5⟩
    dsimp only at *
    subst h4; subst h5
    refine T_bindr (fun r => (r.length : Int) = N + 1 ∧ ∀ v, 0 ≤ v → v ≤ N → gt r v = cnt L v) ?_ ?_
    · refine T_loop (fun z => 0 ≤ z.2 ∧ z.2 ≤ N ∧ (z.1.length : Int) = N + 1 ∧ (∀ v, 0 ≤ v → v ≤ z.2 → gt z.1 v = cnt L v) ∧ ∀ v, z.2 ≤ v → v < N → gt z.1 (v + 1) = cq L v) (fun z => (N - z.2).toNat) ?_ ⟨by simp, n0, h1, fun v v0 v1 => by dsimp only at v1 ⊢; rw [show v = 0 from by omega, h2, hz], fun v v0 v1 => h3 v v0 v1⟩
      rintro ⟨c, i⟩ ⟨i0, i1, g1, g2, g3⟩
      dsimp only at *
      unfold z_csr_flat_l1
      rw [T_ite]
      refine ⟨fun hlt => ?_, fun hge => ?_⟩
      rotate_left
      · simp only [T_some, Sum.elim_inr]
        exact ⟨g1, fun v v0 v1 => g2 v v0 (by omega)⟩
      have e1 := g2 i i0 (by omega)
      have e2 := g3 i (by omega) hlt
      have l1 := cnt_le L i; have l2 := cq_le L i
      have hs := cnt_succ L i
      simp only [T_G, T_some, Sum.elim_inl]
      refine ⟨by omega, by omega, by omega, by omega, by omega, ⟨by omega, by omega, by simpa using g1, fun v v0 v1 => ?_, fun v v0 v1 => ?_⟩, by omega⟩
      · rw [gt_setE (by omega) (by omega) v0]
        by_cases e : v = i + 1
        · rw [if_pos e, e]; omega
        · rw [if_neg e]; exact g2 v v0 (by omega)
      · rw [gt_setE (by omega) (by omega) (by omega), if_neg (by omega)]; exact g3 v (by omega) v1
    · rintro r ⟨g1, g2⟩
      simp only [T_some]
      exact ⟨g1, by simp, by simp, g2, fun i i0 i1 => ⟨gt_mapE i0 i1, gt_mapE i0 i1⟩⟩

section
variable (hf : Flat N L F T' W) (hi : L.Pairwise ltk) (hg : GChk N L .nil)
include hf hi hg
theorem Flat.row {u j : Int} (u0 : 0 ≤ u) (u1 : u < N) : In F u j ↔ (0 ≤ j ∧ j < (L.length : Int) ∧ (gt L j).1 = u) := by
  have lf := hf.lf
  have e1 := hf.ft u u0 (by omega)
  have e2 := hf.ft (u + 1) (by omega) (by omega)
  have l1 := cnt_le L u; have l2 := cnt_le L (u + 1)
  unfold In
  constructor
  · rintro ⟨_, _, h1, h2⟩
    have k1 := idx_cnt hi (i := j) (v := u) (by omega) (by omega)
    have k2 := idx_cnt hi (i := j) (v := u + 1) (by omega) (by omega)
    refine ⟨by omega, by omega, ?_⟩
    have a1 : ¬ (gt L j).1 < u := fun q => by have := k1.1 q; omega
    have a2 := k2.2 (by omega)
    omega
  · rintro ⟨h1, h2, h3⟩
    have k1 := idx_cnt hi (i := j) (v := u) h1 h2
    have k2 := idx_cnt hi (i := j) (v := u + 1) h1 h2
    have a1 : ¬ j < cnt L u := fun q => by have := k1.2 q; omega
    have a2 := k2.1 (by omega)
    exact ⟨u0, by omega, by omega, by omega⟩
theorem Flat.arcw {u x w : Int} : Arcw F T' W u x w ↔ (u, x, w) ∈ L := by
  have lf := hf.lf
  constructor
  · rintro ⟨j, hI, h1, h2⟩
    have u0 := hI.1; have u1 := hI.2.1
    obtain ⟨j0, j1, e⟩ := (hf.row hi hg u0 (by omega)).1 hI
    obtain ⟨t1, t2⟩ := hf.tw j j0 j1
    have : (u, x, w) = gt L j := eq3 e.symm (by dsimp only; omega) (by dsimp only; omega)
    rw [this]; exact gt_mem j0 j1
  · intro h
    obtain ⟨j, j0, j1, e⟩ := mem_gtE h
    have ha := hg.arcs _ h
    dsimp only at ha
    obtain ⟨t1, t2⟩ := hf.tw j j0 j1
    rw [← e] at t1 t2
    refine ⟨j, (hf.row hi hg ha.1 ha.2.1).2 ⟨j0, j1, by rw [← e]⟩, t1, t2.symm⟩
theorem Flat.chk (hn : ∀ a ∈ L, a.1 ≠ a.2.1) : Chk F T' W .nil := by
  obtain ⟨n0, n1, n2⟩ := hg.small
  have lf := hf.lf; have lt := hf.lt; have lw := hf.lw
  have ha := hg.arcs
  have e0 := hf.ft 0 (by omega) n0
  have en := hf.ft N n0 (by omega)
  rw [cnt_none fun a h => (ha a h).1] at e0
  rw [cnt_all fun a h => (ha a h).2.1] at en
  have hlast : (F.length : Int) - 1 = N := by omega
  refine .ok ⟨by omega, e0, by rw [hlast]; omega, by omega⟩ ⟨by omega, by omega⟩ (fun u u0 u1 => ?_) fun u j hI => ?_
  · rw [hf.ft u u0 (by omega), hf.ft (u + 1) (by omega) (by omega), cnt_succ]
    have := cq_le L u; omega
  · have u0 := hI.1; have u1 := hI.2.1
    obtain ⟨j0, j1, e⟩ := (hf.row hi hg u0 (by omega)).1 hI
    obtain ⟨t1, t2⟩ := hf.tw j j0 j1
    have hm := gt_mem j0 j1
    obtain ⟨a1, a2, a3, a4, a5, a6⟩ := ha _ hm
    have hne := hn _ hm
    refine arcNo_0 (by omega) (by omega) ?_ (by omega) (by omega)
    rintro (h | ⟨h1, h2⟩)
    · omega
    · have hI2 : In F u (j - 1) := ⟨u0, u1, by omega, by have := hI.2.2.2; omega⟩
      obtain ⟨q0, q1, q2⟩ := (hf.row hi hg u0 (by omega)).1 hI2
      obtain ⟨s1, s2⟩ := hf.tw (j - 1) q0 q1
      have hlt : ltk (gt L (j - 1)) (gt L j) := by
        obtain ⟨m, hm⟩ := Int.eq_ofNat_of_zero_le q0
        have hj : j = ((m + 1 : Nat) : Int) := by omega
        rw [hm, hj, gt_nat (show m < L.length by omega), gt_nat (show m + 1 < L.length by omega)]
        exact List.pairwise_iff_getElem.1 hi m (m + 1) (by omega) (by omega) (by omega)
      unfold ltk at hlt
      omega
end

/-- What the arrays of a graph are. -/
inductive BldA (N : Int) (A : List A3) : List Int → List Int → List Int → Er → Prop
  | bad (er : Er) : GChk N A er → er ≠ .nil → BldA N A [] [] [] er
  | ok (L : List A3) (F T' W : List Int) : GChk N A .nil → Nrm A L → L.length ≤ A.length → Flat N L F T' W → BldA N A F T' W .nil
theorem p_Build : T (z_csr_Build N A) fun r => BldA N A r.1 r.2.1 r.2.2.1 r.2.2.2 := by
  unfold z_csr_Build
  refine T_bindr _ p_Of ?_
  rintro ⟨n, l, er⟩ h
  dsimp only at *
  cases h with
  | bad _ h1 h2 => rw [if_neg h2]; simp only [T_some]; exact .bad er h1 h2
  | ok _ h1 h2 h3 =>
    rw [if_pos rfl]
    refine T_bindr _ (p_flat (h1.nrm h2 h3)) ?_
    rintro ⟨F, T', W⟩ hf
    simp only [T_some]
    exact .ok l F T' W h1 h2 h3 hf
/-- What the arrays of right graphs are good for. -/
theorem BldA.use {er : Er} (h : BldA N A F T' W er) (hg : GChk N A .nil) : er = .nil ∧ ∃ L, Nrm A L ∧ GChk N L .nil ∧ Flat N L F T' W ∧ Chk F T' W .nil ∧ (F.length : Int) = N + 1 ∧ ∀ u x w, Arcw F T' W u x w ↔ (u, x, w) ∈ L := by
  cases h with
  | bad _ h1 h2 => exact absurd (h1.uniq hg) h2
  | ok L _ _ _ h1 h2 h3 h4 =>
    have hgl := h1.nrm h2 h3
    exact ⟨rfl, L, h2, hgl, h4, h4.chk h2.inc hgl (fun a ha => (h2.sub a ha).2.1), h4.lf, fun u x w => h4.arcw h2.inc hgl⟩
end Go.Vd

/-! (So4b) -/

set_option linter.unusedVariables false
set_option linter.unusedSectionVars false
set_option linter.unusedSimpArgs false
namespace Go.Vd
variable {N : Int} {A L : List A3} {F T' W : List Int}
inductive BckA (N : Int) (A : List A3) : List Int → List Int → List Int → Er → Prop
  | bad (er : Er) : GChk N A er → er ≠ .nil → BckA N A [] [] [] er
  | ok (L : List A3) (F T' W : List Int) : GChk N A .nil → Nrm (A.map swp3) L → L.length ≤ A.length → Flat N L F T' W → BckA N A F T' W .nil
theorem p_Bck : T (z_csr_Back N A) fun r => BckA N A r.1 r.2.1 r.2.2.1 r.2.2.2 := by
  unfold z_csr_Back
  refine T_bindr _ p_Rev ?_
  rintro ⟨n, l, er⟩ h
  dsimp only at *
  cases h with
  | bad _ h1 h2 => rw [if_neg h2]; simp only [T_some]; exact .bad er h1 h2
  | ok h1 =>
    rw [if_pos rfl]
    refine T_bindr _ p_Build ?_
    rintro ⟨F, T', W, er⟩ hb
    simp only [T_some]
    cases hb with
    | bad _ k1 k2 => exact absurd (k1.uniq h1.rev) k2
    | ok L _ _ _ k1 k2 k3 k4 => exact .ok L F T' W h1 k2 (by simpa using k3) k4
theorem BckA.use {er : Er} (h : BckA N A F T' W er) (hg : GChk N A .nil) : er = .nil ∧ ∃ L, Nrm (A.map swp3) L ∧ GChk N L .nil ∧ Flat N L F T' W ∧ Chk F T' W .nil ∧ (F.length : Int) = N + 1 ∧ ∀ u x w, Arcw F T' W u x w ↔ (u, x, w) ∈ L := by
  cases h with
  | bad _ h1 h2 => exact absurd (h1.uniq hg) h2
  | ok L _ _ _ h1 h2 h3 h4 =>
    have hgl := h1.rev.nrm h2 (by simpa using h3)
    exact ⟨rfl, L, h2, hgl, h4, h4.chk h2.inc hgl (fun a ha => (h2.sub a ha).2.1), h4.lf, fun u x w => h4.arcw h2.inc hgl⟩
end Go.Vd

/-! (PrCsrFixed) -/

set_option linter.unusedVariables false
set_option linter.unusedSimpArgs false
set_option maxRecDepth 10000
namespace Go.Vd
variable {N : Int} {A L : List A3} {F T' W F2 T2 W2 : List Int}
theorem f_uniq (h : Flat N L F T' W) (k : Flat N L F2 T2 W2) : F = F2 ∧ T' = T2 ∧ W = W2 := by
  have := h.lf; have := k.lf; have := h.lt; have := k.lt; have := h.lw; have := k.lw
  refine ⟨list_gtE (by omega) fun j j0 j1 => ?_, list_gtE (by omega) fun j j0 j1 => ?_, list_gtE (by omega) fun j j0 j1 => ?_⟩
  · rw [h.ft j j0 (by omega), k.ft j j0 (by omega)]
  · rw [(h.tw j j0 (by omega)).1, (k.tw j j0 (by omega)).1]
  · rw [(h.tw j j0 (by omega)).2, (k.tw j j0 (by omega)).2]
theorem check_eq {er : Er} (hl : F.length ≤ 17592186044160) (ht : T'.length ≤ 17592186044160) (h : Chk F T' W er) : z_csr_Check F T' W = some er := by
  obtain ⟨e, q, c⟩ := p_Check (W := W) hl ht
  rw [q, c.uniq h]
theorem row_eq {er : Er} {v : Int} {l : List A3} (hl : F.length ≤ 17592186044160) (ht : T'.length ≤ 17592186044160) (h : RowA F T' W v l er) : z_csr_Row F T' W v = some (l, er) := by
  obtain ⟨⟨m, e⟩, q, c⟩ := p_Row (W := W) (v := v) hl ht
  obtain ⟨rfl, rfl⟩ := c.uniq h
  rw [q]
theorem find_eq {er : Er} {v w x : Int} (hl : F.length ≤ 17592186044160) (ht : T'.length ≤ 17592186044160) (h : FndA F T' W v w x er) : z_csr_Find F T' W v w = some (x, er) := by
  obtain ⟨⟨m, e⟩, q, c⟩ := p_Find (W := W) (v := v) (w := w) hl ht
  obtain ⟨rfl, rfl⟩ := c.uniq h
  rw [q]

abbrev exA : List A3 := [(2, 0, 5), (0, 1, 4), (0, 2, 1)]
abbrev exX : List A3 := [(0, 2, 5), (1, 0, 4), (2, 0, 1)]
theorem g_ex : GChk 3 exA .nil := .of_arcs (by decide) (by decide) (by decide) fun a ha => by
  simp [exA] at ha
  rcases ha with rfl | rfl | rfl <;> decide
theorem n_ex : Nrm exX exX := by
  refine ⟨by simp [exX, ltk], fun a ha => ⟨ha, ?_, fun b hb k => ?_⟩, fun a ha _ => ⟨a, ha, rfl, rfl⟩⟩
  · simp [exX] at ha
    rcases ha with rfl | rfl | rfl <;> decide
  · simp [exX] at ha hb
    unfold key2 at k
    rcases ha with rfl | rfl | rfl <;> rcases hb with rfl | rfl | rfl <;> simp at k ⊢
theorem f_ex : Flat 3 exX [0, 1, 2, 3] [2, 0, 0] [5, 4, 1] := by
  refine ⟨rfl, rfl, rfl, fun v v0 v1 => ?_, fun i i0 i1 => ?_⟩
  · obtain rfl | rfl | rfl | rfl : v = 0 ∨ v = 1 ∨ v = 2 ∨ v = 3 := by omega
    all_goals decide
  · obtain rfl | rfl | rfl : i = 0 ∨ i = 1 ∨ i = 2 := by simp at i1; omega
    all_goals decide
theorem back_ex : z_csr_Back 3 exA = some ([0, 1, 2, 3], [2, 0, 0], [5, 4, 1], .nil) := by
  obtain ⟨⟨F, T', W, e⟩, q, c⟩ := p_Bck (N := 3) (A := exA)
  rw [q]
  cases c with
  | bad _ c n => exact absurd (c.uniq g_ex) n
  | ok L _ _ _ c k _ f =>
    obtain rfl : L = exX := k.uniq n_ex
    obtain ⟨rfl, rfl, rfl⟩ := f_uniq f f_ex
    rfl
theorem build_no : z_csr_Build 0 [] = some ([0], [], [], .nil) := by
  obtain ⟨⟨F, T', W, e⟩, q, c⟩ := p_Build (N := 0) (A := [])
  rw [q]
  have g0 : GChk 0 [] .nil := .of_arcs (by decide) (by decide) (by simp) fun a ha => by cases ha
  cases c with
  | bad _ c n => exact absurd (c.uniq g0) n
  | ok L _ _ _ c k kl f =>
    obtain rfl : L = [] := List.eq_nil_of_length_eq_zero (by simpa using kl)
    have f0 : Flat 0 [] [0] [] [] := ⟨rfl, rfl, rfl, fun v v0 v1 => by obtain rfl : v = 0 := by omega
                                                                       decide, fun i i0 i1 => by simp at i1; omega⟩
    obtain ⟨rfl, rfl, rfl⟩ := f_uniq f f0
    rfl
theorem chk_ex : Chk [0, 1, 2, 3] [2, 0, 0] [5, 4, 1] .nil := f_ex.chk n_ex.inc (g_ex.rev.nrm n_ex (Nat.le_refl _)) (fun a ha => (n_ex.sub a ha).2.1)
theorem k1 : Chk [] [] [] (.no 14) := .shape (by unfold Shape; simp)
theorem k2 : Chk [0, 2, 1, 1] [1] [1] (.at 3 1 (.no 14)) := by
  refine .mono 1 (by unfold Shape; decide) (by unfold Small; decide) (by decide) (by decide) (by decide) fun u u0 u1 => ?_
  obtain rfl : u = 0 := by omega
  decide
theorem k3 : Chk [0, 2, 2] [1, 1] [3, 4] (.at 4 1 (.no 14)) := by
  refine .arc' 0 1 14 (by decide) (by decide) (by unfold Shape; decide) (by unfold Small; decide) (fun u u0 u1 => ?_) (by unfold In; decide) fun u j hI hj => ?_
  · obtain rfl | rfl : u = 0 ∨ u = 1 := by simp at u1; omega
    all_goals decide
  · obtain ⟨a1, a2, a3, a4⟩ := hI
    obtain rfl | rfl : u = 0 ∨ u = 1 := by simp at a2; omega
    · have : gt ([0, 2, 2] : List Int) 0 = 0 := by decide
      obtain rfl : j = 0 := by omega
      decide
    · have : gt ([0, 2, 2] : List Int) 1 = 2 := by decide
      omega
theorem k4 : Chk [0, 1] [0] [1] (.at 4 0 (.no 14)) := by
  refine .arc' 0 0 14 (by decide) (by decide) (by unfold Shape; decide) (by unfold Small; decide) (fun u u0 u1 => ?_) (by unfold In; decide) fun u j hI hj => ?_
  · obtain rfl : u = 0 := by simp at u1; omega
    decide
  · obtain ⟨a1, a2, a3, a4⟩ := hI
    obtain rfl : u = 0 := by simp at a2; omega
    have : gt ([0, 1] : List Int) 0 = 0 := by decide
    omega
theorem k5 : Chk [0, 1, 1] [2] [1] (.at 4 0 (.no 7)) := by
  refine .arc' 0 0 7 (by decide) (by decide) (by unfold Shape; decide) (by unfold Small; decide) (fun u u0 u1 => ?_) (by unfold In; decide) fun u j hI hj => ?_
  · obtain rfl | rfl : u = 0 ∨ u = 1 := by simp at u1; omega
    all_goals decide
  · obtain ⟨a1, a2, a3, a4⟩ := hI
    obtain rfl | rfl : u = 0 ∨ u = 1 := by simp at a2; omega
    · have : gt ([0, 1, 1] : List Int) 0 = 0 := by decide
      omega
    · have : gt ([0, 1, 1] : List Int) 1 = 1 := by decide
      omega
theorem k6 : Chk [1, 1] [2] [1] (.no 14) := .shape (by unfold Shape; decide)
theorem k7 : Chk [1] [] [] (.no 14) := .shape (by unfold Shape; decide)
theorem gt_repz {m : Nat} {x : Int} : gt (List.replicate m (0 : Int)) x = 0 := by
  simp [gt, List.getD_eq_getElem?_getD, List.getElem?_replicate]
  split <;> rfl
theorem k8 {m : Nat} (h : m = 65538) : Chk (List.replicate m 0) [] [] (.no 9) := by
  refine .limit ?_ ?_
  · unfold Shape; rw [gt_repz, gt_repz, List.length_replicate]; simp; omega
  · unfold Small; rw [List.length_replicate]; omega
theorem k9 {m : Nat} (h : m = 65537) : Chk (List.replicate m 0) [] [] .nil := by
  refine .ok ?_ ?_ ?_ ?_
  · unfold Shape; rw [gt_repz, gt_repz, List.length_replicate]; simp; omega
  · unfold Small; rw [List.length_replicate]; simp; omega
  · intro u _ _; rw [gt_repz, gt_repz]; exact Int.le_refl _
  · intro u j hI
    have a3 := hI.2.2.1; have a4 := hI.2.2.2
    rw [gt_repz] at a3 a4; omega
theorem r_ex : RowA [0, 1, 2, 3] [2, 0, 0] [5, 4, 1] 0 (RowL [0, 1, 2, 3] [2, 0, 0] [5, 4, 1] 0) .nil := .ok chk_ex (by decide) (by decide)

theorem p_CsrFixed : z_viaductlaw05_CsrFixed = some true := by
  unfold z_viaductlaw05_CsrFixed
  have hl : List.replicate (65538 : Int).toNat (0 : Int) = List.replicate 65538 0 := rfl
  have ht : ((List.replicate 65538 (0 : Int)).take (List.replicate 65538 (0 : Int)).length).drop (1 : Int).toNat = List.replicate 65537 0 := by
    rw [List.take_length, show (1 : Int).toNat = 1 from rfl, List.drop_replicate]
  have hg : (0 : Int) ≤ 1 ∧ 1 ≤ ((List.replicate 65538 (0 : Int)).length : Int) := by rw [List.length_replicate]; omega
  rw [hl, ht]
  have c8 : z_csr_Check (List.replicate 65538 0) [] [] = some (.no 9) := check_eq (by rw [List.length_replicate]; omega) (by simp) (k8 rfl)
  have c9 : z_csr_Check (List.replicate 65537 0) [] [] = some .nil := check_eq (by rw [List.length_replicate]; omega) (by simp) (k9 rfl)
  generalize List.replicate 65538 (0 : Int) = b8 at c8 hg ⊢
  generalize List.replicate 65537 (0 : Int) = b9 at c9 ⊢
  have gT : ∀ x : Option Bool, G ((0 : Int) ≤ 1 ∧ 1 ≤ (b8.length : Int)) x = x := fun x => by unfold G; rw [if_pos hg]
  have c1 : z_csr_Check [] [] [] = some (.no 14) := check_eq (by simp) (by simp) k1
  have c2 : z_csr_Check [0, 2, 1, 1] [1] [1] = some (.at 3 1 (.no 14)) := check_eq (by simp) (by simp) k2
  have c3 : z_csr_Check [0, 2, 2] [1, 1] [3, 4] = some (.at 4 1 (.no 14)) := check_eq (by simp) (by simp) k3
  have c4 : z_csr_Check [0, 1] [0] [1] = some (.at 4 0 (.no 14)) := check_eq (by simp) (by simp) k4
  have c5 : z_csr_Check [0, 1, 1] [2] [1] = some (.at 4 0 (.no 7)) := check_eq (by simp) (by simp) k5
  have c6 : z_csr_Check [1, 1] [2] [1] = some (.no 14) := check_eq (by simp) (by simp) k6
  have ba : z_csr_Back 3 [(2, 0, 5), (0, 1, 4), (0, 2, 1)] = some ([0, 1, 2, 3], [2, 0, 0], [5, 4, 1], .nil) := back_ex
  have q1 : z_csr_Row [0, 1, 2, 3] [2, 0, 0] [5, 4, 1] 3 = some ([], .no 7) := row_eq (by simp) (by simp) (.node chk_ex (by simp))
  have q2 : z_csr_Find [0, 1, 2, 3] [2, 0, 0] [5, 4, 1] 0 0 = some (0, .no 16) := find_eq (by simp) (by simp) (.none r_ex (by decide) (by decide) (.no fun i i0 i1 => by
    have hlen : (RowL [0, 1, 2, 3] [2, 0, 0] [5, 4, 1] 0).length = 1 := by rw [RowL.len]; decide
    obtain rfl : i = 0 := by omega
    decide))
  have q3 : z_csr_Find [0, 1, 2, 3] [2, 0, 0] [5, 4, 1] (-1) 9 = some (0, .no 7) := find_eq (by simp) (by simp) (.row [] _ (.node chk_ex (by simp)) (by simp))
  have q4 : z_csr_Find [0, 1, 2, 3] [2, 0, 0] [5, 4, 1] 0 3 = some (0, .no 7) := find_eq (by simp) (by simp) (.node r_ex (by simp))
  have q5 : z_csr_Row [1] [] [] 0 = some ([], .no 14) := row_eq (by simp) (by simp) (.bad _ k7 (by simp))
  have same : ∀ {er : Er} {c : Int} {ps : List (Int × Int)}, er.good → er.pls.length ≤ 5 → c = er.code → ps = er.pls → z_viaductseen_Same er c ps = some true := by
    intro er c ps a b e1 e2; subst e1; subst e2; exact p_SameT a (by omega)
  have t14 : z_viaductseen_Same (.no 14) 14 [] = some true := same (by simp [Er.good]) (by simp [Er.pls]) rfl rfl
  have t9 : z_viaductseen_Same (.no 9) 9 [] = some true := same (by simp [Er.good]) (by simp [Er.pls]) rfl rfl
  have t7 : z_viaductseen_Same (.no 7) 7 [] = some true := same (by simp [Er.good]) (by simp [Er.pls]) rfl rfl
  have t16 : z_viaductseen_Same (.no 16) 16 [] = some true := same (by simp [Er.good]) (by simp [Er.pls]) rfl rfl
  have u1 : z_viaductseen_Same (.at 3 1 (.no 14)) 14 [(3, 1)] = some true := same (by simp [Er.good]) (by simp [Er.pls]) rfl rfl
  have u2 : z_viaductseen_Same (.at 4 1 (.no 14)) 14 [(4, 1)] = some true := same (by simp [Er.good]) (by simp [Er.pls]) rfl rfl
  have u3 : z_viaductseen_Same (.at 4 0 (.no 14)) 14 [(4, 0)] = some true := same (by simp [Er.good]) (by simp [Er.pls]) rfl rfl
  have u4 : z_viaductseen_Same (.at 4 0 (.no 7)) 7 [(4, 0)] = some true := same (by simp [Er.good]) (by simp [Er.pls]) rfl rfl
  have at1 : ∀ k i c, z_viaductref01_At k i c [] = some (c, [(k, i)]) := fun k i c => p_At (by simp)
  have s1 : z_viaductref05_Same [0, 1, 2, 3] [2, 0, 0] [5, 4, 1] [0, 1, 2, 3] [2, 0, 0] [5, 4, 1] = some true := by
    unfold z_viaductref05_Same; simp [p_SameInts]
  have s2 : z_viaductref05_Same [0] [] [] [0] [] [] = some true := by
    unfold z_viaductref05_Same; simp [p_SameInts]
  have of1 : ∀ F T' W, z_viaductlaw05_of F T' W = some () := fun _ _ _ => rfl
  simp only [ba, build_no, c1, c2, c3, c4, c5, c6, c8, c9, q1, q2, q3, q4, q5, t14, t9, t7, t16, u1, u2, u3, u4, at1, s1, s2, of1, gT, p_E, Option.bind_some, if_true, Bool.false_eq_true, if_false, Bool.not_true]
  unfold G
  rw [if_pos ⟨by decide, hg.2⟩]
  simp
end Go.Vd
