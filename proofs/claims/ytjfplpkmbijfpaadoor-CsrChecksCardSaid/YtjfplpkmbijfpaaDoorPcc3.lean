/- A check of arrays tells but one thing. Plain Lean: no program here. -/
import Derived.Test.YtjfplpkmbijfpaaDoorPcc2
import Derived.Test.YtjfplpkmbijfpaaDoorVpB
import Derived.Test.YtjfplpkmbijfpaaDoorSo0
import Derived.Test.YtjfplpkmbijfpaaDoorVdQ
import Derived.Test.YtjfplpkmbijfpaaDoorICc
set_option linter.unusedVariables false
set_option linter.unusedSimpArgs false
set_option linter.unusedSectionVars false
/-! (ChkU) -/

namespace Go.Vd
variable {F T' W l : List Int}

theorem Chk.uniq {er er' : Er} (h : Chk F T' W er) (k : Chk F T' W er') : er = er' := by
  cases h with
  | shape h1 =>
    cases k with
    | shape _ => rfl
    | limit k1 _ => exact absurd k1 h1
    | mono v k1 => exact absurd k1 h1
    | arc v i k1 => exact absurd k1 h1
    | ok k1 => exact absurd k1 h1
  | limit h1 h2 =>
    cases k with
    | shape k1 => exact absurd h1 k1
    | limit _ _ => rfl
    | mono v _ k2 => exact absurd k2 h2
    | arc v i _ k2 => exact absurd k2 h2
    | ok _ k2 => exact absurd k2 h2
  | mono v h1 h2 h3 h4 h5 h6 =>
    cases k with
    | shape k1 => exact absurd h1 k1
    | limit _ k2 => exact absurd h2 k2
    | mono v' _ _ k3 k4 k5 k6 =>
      have : v = v' := by
        rcases Int.lt_trichotomy v v' with q | q | q
        · have := k6 v h3 q; omega
        · exact q
        · have := h6 v' k3 q; omega
      rw [this]
    | arc v' i _ _ k3 => have := k3 v h3 h4; omega
    | ok _ _ k3 => have := k3 v h3 h4; omega
  | arc v i h1 h2 h3 h4 h5 h6 =>
    cases k with
    | shape k1 => exact absurd h1 k1
    | limit _ k2 => exact absurd h2 k2
    | mono v' _ _ k3 k4 k5 k6 => have := h3 v' k3 k4; omega
    | arc v' i' _ _ _ k4 k5 k6 =>
      have e : i = i' := by
        rcases Int.lt_trichotomy i i' with q | q | q
        · exact absurd (k6 v i h4 q) h5
        · exact q
        · exact absurd (h6 v' i' k4 q) k5
      subst e
      rw [In.uniq h3 h4 k4]
    | ok _ _ _ k4 => exact absurd (k4 v i h4) h5
  | ok h1 h2 h3 h4 =>
    cases k with
    | shape k1 => exact absurd h1 k1
    | limit _ k2 => exact absurd h2 k2
    | mono v' _ _ k3 k4 k5 k6 => have := h3 v' k3 k4; omega
    | arc v' i' _ _ _ k4 k5 k6 => exact absurd (h4 v' i' k4) k5
    | ok => rfl

end Go.Vd

/-! (Mo0) -/

namespace Go.Vd
theorem take_gtE {E : Type} [Inhabited E] {l : List E} {i : Int} (h0 : 0 ≤ i) (h1 : i < (l.length : Int)) : l.take (i + 1).toNat = l.take i.toNat ++ [gt l i] := by
  have hi : i.toNat < l.length := by omega
  rw [show (i + 1).toNat = i.toNat + 1 from by omega, List.take_add_one, List.getElem?_eq_getElem hi]
  have : gt l i = l[i.toNat] := by simp [gt, List.getD_eq_getElem?_getD, hi]
  rw [this]; rfl
theorem gt_setE {E : Type} [Inhabited E] {l : List E} {i j : Int} {v : E} (i0 : 0 ≤ i) (i1 : i < (l.length : Int)) (j0 : 0 ≤ j) : gt (l.set i.toNat v) j = if j = i then v else gt l j := by
  unfold gt
  rw [List.getD_eq_getElem?_getD, List.getD_eq_getElem?_getD, List.getElem?_set]
  by_cases h : j = i
  · subst h; rw [if_pos rfl, if_pos rfl, if_pos (by omega)]; rfl
  · rw [if_neg h, if_neg (by omega)]
theorem list_gtE {E : Type} [Inhabited E] {l m : List E} (hl : l.length = m.length) (h : ∀ j : Int, 0 ≤ j → j < (l.length : Int) → gt l j = gt m j) : l = m := by
  refine List.ext_getElem hl fun j h1 h2 => ?_
  have := h (j : Int) (by omega) (by omega)
  rwa [gt_nat h1, gt_nat h2] at this
end Go.Vd

/-! (PrRow) -/

set_option linter.unusedVariables false
set_option linter.unusedSimpArgs false
namespace Go.Vd
variable {F T' W : List Int}

/-- The arcs from a node. -/
def RowL (F T' W : List Int) (v : Int) : List (Int × Int × Int) := (List.range (gt F (v + 1) - gt F v).toNat).map fun k => (v, gt T' (gt F v + (k : Nat)), gt W (gt F v + (k : Nat)))
/-- The arcs of the nodes below n. -/
def GrL (F T' W : List Int) (n : Nat) : List (Int × Int × Int) := (List.range n).flatMap fun v => RowL F T' W ((v : Nat) : Int)
theorem GrL.succ {n : Nat} : GrL F T' W (n + 1) = GrL F T' W n ++ RowL F T' W n := by
  simp [GrL, List.range_succ]
theorem RowL.len {v : Int} : (RowL F T' W v).length = (gt F (v + 1) - gt F v).toNat := by simp [RowL]
theorem Chk.inr (hc : Chk F T' W .nil) {v : Int} (v0 : 0 ≤ v) (v1 : v < (F.length : Int) - 1) : 0 ≤ gt F v ∧ gt F v ≤ gt F (v + 1) ∧ gt F (v + 1) ≤ (T'.length : Int) ∧ (T'.length : Int) = W.length ∧ (T'.length : Int) ≤ 262144 ∧ (F.length : Int) ≤ 65537 := by
  obtain ⟨s1, s2, s3, s4⟩ := hc.shp
  obtain ⟨m1, m2⟩ := hc.small
  have a := hc.mon.le (u := 0) (w := v) (by omega) v0 (by omega)
  have b := hc.mon.le (u := v) (w := v + 1) v0 (by omega) (by omega)
  have c := hc.mon.le (u := v + 1) (w := (F.length : Int) - 1) (by omega) (by omega) (by omega)
  omega
theorem GrL.len (hc : Chk F T' W .nil) {n : Nat} (h : (n : Int) ≤ (F.length : Int) - 1) : ((GrL F T' W n).length : Int) = gt F n := by
  induction n with
  | zero => have := hc.shp.2.1; simp [GrL]; exact this.symm
  | succ n ih =>
    have := ih (by omega)
    have h2 := hc.inr (v := (n : Int)) (by omega) (by omega)
    rw [GrL.succ, List.length_append, RowL.len]
    rw [show ((n + 1 : Nat) : Int) = (n : Int) + 1 from by omega]
    omega

theorem row_step {v i : Int} {l : List (Int × Int × Int)} (h : gt F v ≤ i) (e : l = (List.range (i - gt F v).toNat).map fun k => (v, gt T' (gt F v + (k : Nat)), gt W (gt F v + (k : Nat)))) :
    l ++ [(v, gt T' i, gt W i)] = (List.range (i + 1 - gt F v).toNat).map fun k => (v, gt T' (gt F v + (k : Nat)), gt W (gt F v + (k : Nat))) := by
  rw [e, show (i + 1 - gt F v).toNat = (i - gt F v).toNat + 1 from by omega, List.range_succ, List.map_append]
  simp only [List.map_cons, List.map_nil]
  rw [show gt F v + (((i - gt F v).toNat : Nat) : Int) = i from by omega]

theorem p_rowC (hc : Chk F T' W .nil) {v : Int} (v0 : 0 ≤ v) (v1 : v < (F.length : Int) - 1) : z_csr_Csr_row F T' W v = some (RowL F T' W v) := by
  obtain ⟨b1, b2, b3, b4, b5, b6⟩ := hc.inr v0 v1
  refine T_eq.1 ?_
  unfold z_csr_Csr_row
  rw [T_G]
  refine ⟨⟨v0, by omega⟩, T_bindr (fun l => l = RowL F T' W v) ?_ (by rintro _ rfl; simp only [T_some])⟩
  refine T_loop (fun z => gt F v ≤ z.2 ∧ z.2 ≤ gt F (v + 1) ∧ z.1 = (List.range (z.2 - gt F v).toNat).map fun k => (v, gt T' (gt F v + (k : Nat)), gt W (gt F v + (k : Nat)))) (fun z => (gt F (v + 1) - z.2).toNat) ?_ ⟨by simp, b2, by simp⟩
  rintro ⟨l, i⟩ ⟨i0, i1, e⟩
  dsimp only at *
  have hl : l.length = (i - gt F v).toNat := by rw [e]; simp
  unfold z_csr_Csr_row_l0
  simp only [T_G, T_ite, T_some, Sum.elim_inl, Sum.elim_inr, List.length_cons, List.length_nil]
  refine ⟨by omega, by omega, fun h => ⟨by omega, by omega, by omega, by omega, ⟨by omega, by omega, row_step i0 e⟩, by omega⟩, fun h => ?_⟩
  rw [e, show i = gt F (v + 1) from by omega]; rfl

/-- What the graph of arrays is. -/
inductive GrA (F T' W : List Int) : Int → List (Int × Int × Int) → Er → Prop
  | bad (er : Er) : Chk F T' W er → er ≠ .nil → GrA F T' W 0 [] er
  | ok : Chk F T' W .nil → GrA F T' W ((F.length : Int) - 1) (GrL F T' W (F.length - 1)) .nil
theorem p_Graph (hl : F.length ≤ 17592186044160) (ht : T'.length ≤ 17592186044160) : T (z_csr_Graph F T' W) fun r => GrA F T' W r.1 r.2.1 r.2.2 := by
  unfold z_csr_Graph
  refine T_bindr _ (p_Check hl ht) fun er hc => ?_
  rw [T_ite]
  refine ⟨fun he => ?_, fun he => by simp only [T_some]; exact .bad er hc he⟩
  subst he
  have s1 := hc.shp.1
  have s3 := hc.shp.2.2.1
  have m2 := hc.small.2
  rw [p_nodes hl, Option.bind_some]
  refine T_bindr (fun l => l = GrL F T' W (F.length - 1)) ?_ (by rintro _ rfl; simp only [T_some]; exact .ok hc)
  refine T_loop (fun z => 0 ≤ z.1 ∧ z.1 ≤ (F.length : Int) - 1 ∧ z.2 = GrL F T' W z.1.toNat) (fun z => ((F.length : Int) - 1 - z.1).toNat) ?_ ⟨by simp, by simpa using s1, by simp [GrL]⟩
  rintro ⟨i, g⟩ ⟨i0, i1, e⟩
  dsimp only at *
  unfold z_csr_Graph_l0
  rw [T_ite]
  refine ⟨fun h => ?_, fun h => ?_⟩
  · obtain ⟨b1, b2, b3, b4, b5, b6⟩ := hc.inr i0 h
    have hg := GrL.len hc (n := i.toNat) (by omega)
    rw [show ((i.toNat : Nat) : Int) = i from by omega] at hg
    rw [p_rowC hc i0 h, Option.bind_some]
    subst e
    simp only [T_G, T_some, Sum.elim_inl, RowL.len]
    refine ⟨by omega, by omega, ⟨by omega, by omega, ?_⟩, by omega⟩
    rw [show (i + 1).toNat = i.toNat + 1 from by omega, GrL.succ, show ((i.toNat : Nat) : Int) = i from by omega]
  · simp only [T_some, Sum.elim_inr]
    rw [e]; congr 1; omega
theorem GrA.ok' {n : Int} {l : List (Int × Int × Int)} {er : Er} (h : GrA F T' W n l er) (hc : Chk F T' W .nil) : n = (F.length : Int) - 1 ∧ l = GrL F T' W (F.length - 1) ∧ er = .nil := by
  cases h with
  | bad _ c n => exact absurd (c.uniq hc) n
  | ok c => exact ⟨rfl, rfl, rfl⟩
end Go.Vd

/-! (Gb) -/

set_option linter.unusedVariables false
set_option linter.unusedSimpArgs false
namespace Go.Vd
abbrev A3 := Int × Int × Int
theorem eq3 {x y : A3} (h1 : x.1 = y.1) (h2 : x.2.1 = y.2.1) (h3 : x.2.2 = y.2.2) : x = y := by
  obtain ⟨a, b, c⟩ := x; obtain ⟨a', b', c'⟩ := y
  simp only at h1 h2 h3
  subst h1; subst h2; subst h3; rfl

theorem mem_gtE {E : Type} [Inhabited E] {l : List E} {x : E} (h : x ∈ l) : ∃ i : Int, 0 ≤ i ∧ i < (l.length : Int) ∧ x = gt l i := by
  obtain ⟨i, hi, rfl⟩ := List.getElem_of_mem h
  exact ⟨i, by omega, by omega, (gt_nat hi).symm⟩

end Go.Vd

/-! (PrRr) -/

set_option linter.unusedVariables false
set_option linter.unusedSimpArgs false
namespace Go.Vd
variable {F T' W : List Int}
theorem Chk.goodR {er : Er} (h : Chk F T' W er) : er.good ∧ er.pls.length ≤ 1 := by
  cases h with
  | shape _ => simp [Er.good, Er.pls]
  | limit _ _ => simp [Er.good, Er.pls]
  | mono _ _ _ _ _ _ _ => simp [Er.good, Er.pls]
  | arc _ _ _ _ _ _ h _ => exact ⟨⟨by simp, h⟩, by simp [Er.pls]⟩
  | ok _ _ _ _ => simp [Er.good, Er.pls]
theorem row_same : z_viaductref05_Row F T' W = z_csr_Csr_row F T' W := by
  funext v
  unfold z_viaductref05_Row z_csr_Csr_row
  have : z_viaductref05_Row_l0 F T' W = z_csr_Csr_row_l0 F T' W := by
    funext v l i
    unfold z_viaductref05_Row_l0 z_csr_Csr_row_l0
    rfl
  rw [this]
theorem p_rowR (hc : Chk F T' W .nil) {v : Int} (v0 : 0 ≤ v) (v1 : v < (F.length : Int) - 1) : z_viaductref05_Row F T' W v = some (RowL F T' W v) := by
  rw [row_same]; exact p_rowC hc v0 v1
theorem p_graphR (hc : Chk F T' W .nil) : z_viaductref05_Graph F T' W = some ((F.length : Int) - 1, GrL F T' W (F.length - 1)) := by
  have s1 := hc.shp.1
  have s3 := hc.shp.2.2.1
  have m1 : (F.length : Int) - 1 ≤ 65536 := hc.small.1
  refine T_eq.1 ?_
  unfold z_viaductref05_Graph
  rw [T_G]
  refine ⟨by omega, ?_⟩
  refine T_bindr (fun l => l = GrL F T' W (F.length - 1)) ?_ (by rintro _ rfl; simp only [T_some])
  refine T_loop (fun z => 0 ≤ z.2 ∧ z.2 ≤ (F.length : Int) - 1 ∧ z.1 = GrL F T' W z.2.toNat) (fun z => ((F.length : Int) - 1 - z.2).toNat) ?_ ⟨by simp, by simpa using s1, by simp [GrL]⟩
  rintro ⟨g, i⟩ ⟨i0, i1, e⟩
  dsimp only at *
  unfold z_viaductref05_Graph_l0
  rw [T_ite]
  refine ⟨fun h => ?_, fun h => ?_⟩
  · obtain ⟨b1, b2, b3, b4, b5, b6⟩ := hc.inr i0 h
    have hg := GrL.len hc (n := i.toNat) (by omega)
    rw [show ((i.toNat : Nat) : Int) = i from by omega] at hg
    rw [p_rowR hc i0 h, Option.bind_some]
    subst e
    simp only [T_G, T_some, Sum.elim_inl, RowL.len]
    refine ⟨by omega, by omega, ⟨by omega, by omega, ?_⟩, by omega⟩
    rw [show (i + 1).toNat = i.toNat + 1 from by omega, GrL.succ, show ((i.toNat : Nat) : Int) = i from by omega]
  · simp only [T_some, Sum.elim_inr]
    rw [e]; congr 1; omega
theorem p_gDocGraph (hl : F.length ≤ 17592186044160) : T (z_viaductref05_DocGraph F T' W) fun r => ∃ er, GrA F T' W r.1 r.2.1 er ∧ r.2.2.1 = er.code ∧ r.2.2.2 = er.pls := by
  unfold z_viaductref05_DocGraph
  refine T_bindr _ (p_DocCheck hl) ?_
  rintro _ ⟨er, hc, rfl⟩
  dsimp only
  rw [p_Bad, Option.bind_some, T_ite]
  refine ⟨fun h => ?_, fun h => ?_⟩
  · simp only [T_some]
    exact ⟨er, .bad er hc (hc.bad.1 (by simpa using h)), rfl, rfl⟩
  · have he : er = .nil := Classical.byContradiction fun k => h (decide_eq_true (hc.bad.2 k))
    subst he
    rw [p_graphR hc, Option.bind_some]
    simp only [T_some]
    exact ⟨.nil, .ok hc, rfl, rfl⟩
theorem GrA.uniq {n m : Int} {l k : List (Int × Int × Int)} {er er' : Er} (h : GrA F T' W n l er) (h' : GrA F T' W m k er') : n = m ∧ l = k ∧ er = er' := by
  cases h with
  | bad _ c n1 =>
    cases h' with
    | bad _ c2 _ => exact ⟨rfl, rfl, c.uniq c2⟩
    | ok c2 => exact absurd (c.uniq c2) n1
  | ok c =>
    cases h' with
    | bad _ c2 n2 => exact absurd (c2.uniq c) n2
    | ok c2 => exact ⟨rfl, rfl, rfl⟩
theorem GrA.good {n : Int} {l : List (Int × Int × Int)} {er : Er} (h : GrA F T' W n l er) : er.good ∧ er.pls.length ≤ 1 ∧ l.length ≤ 262144 := by
  cases h with
  | bad _ c _ => exact ⟨c.goodR.1, c.goodR.2, by simp⟩
  | ok c =>
    have s1 := c.shp.1
    have s3 := c.shp.2.2.1
    have m2 : (T'.length : Int) ≤ 262144 := c.small.2
    have := GrL.len c (n := F.length - 1) (by omega)
    rw [show ((F.length - 1 : Nat) : Int) = (F.length : Int) - 1 from by omega] at this
    exact ⟨trivial, by simp [Er.pls], by omega⟩

/-- What is answered for a node's row. -/
inductive RowA (F T' W : List Int) (v : Int) : List (Int × Int × Int) → Er → Prop
  | bad (er : Er) : Chk F T' W er → er ≠ .nil → RowA F T' W v [] er
  | node : Chk F T' W .nil → ¬ (0 ≤ v ∧ v < (F.length : Int) - 1) → RowA F T' W v [] (.no 7)
  | ok : Chk F T' W .nil → 0 ≤ v → v < (F.length : Int) - 1 → RowA F T' W v (RowL F T' W v) .nil
theorem RowA.uniq {v : Int} {l k : List (Int × Int × Int)} {er er' : Er} (h : RowA F T' W v l er) (h' : RowA F T' W v k er') : l = k ∧ er = er' := by
  cases h with
  | bad _ c n1 =>
    cases h' with
    | bad _ c2 _ => exact ⟨rfl, c.uniq c2⟩
    | node c2 _ => exact absurd (c.uniq c2) n1
    | ok c2 _ _ => exact absurd (c.uniq c2) n1
  | node c n =>
    cases h' with
    | bad _ c2 n2 => exact absurd (c2.uniq c) n2
    | node c2 _ => exact ⟨rfl, rfl⟩
    | ok c2 a b => exact absurd ⟨a, b⟩ n
  | ok c a b =>
    cases h' with
    | bad _ c2 n2 => exact absurd (c2.uniq c) n2
    | node c2 n => exact absurd ⟨a, b⟩ n
    | ok c2 _ _ => exact ⟨rfl, rfl⟩
theorem RowA.good {v : Int} {l : List (Int × Int × Int)} {er : Er} (h : RowA F T' W v l er) : er.good ∧ er.pls.length ≤ 1 ∧ l.length ≤ 262144 := by
  cases h with
  | bad _ c _ => exact ⟨c.goodR.1, c.goodR.2, by simp⟩
  | node c _ => exact ⟨by simp [Er.good], by simp [Er.pls], by simp⟩
  | ok c a b =>
    have := c.inr a b
    exact ⟨trivial, by simp [Er.pls], by rw [RowL.len]; omega⟩
theorem RowA.bad' {v : Int} {l : List (Int × Int × Int)} {er : Er} (h : RowA F T' W v l er) : (er.code ≠ 0 ∨ er.pls ≠ []) ↔ er ≠ .nil := by
  cases h with
  | bad _ c _ => exact c.bad
  | node c _ => simp [Er.code]
  | ok c a b => simp [Er.code, Er.pls]

theorem p_Row (hl : F.length ≤ 17592186044160) (ht : T'.length ≤ 17592186044160) {v : Int} : T (z_csr_Row F T' W v) fun r => RowA F T' W v r.1 r.2 := by
  unfold z_csr_Row
  refine T_bindr _ (p_Check hl ht) fun er hc => ?_
  rw [T_ite]
  refine ⟨fun he => ?_, fun he => by simp only [T_some]; exact .bad er hc he⟩
  subst he
  refine T_bindr (fun b => b = true ↔ ¬ (0 ≤ v ∧ v < (F.length : Int) - 1)) ?_ fun b hb => ?_
  · rw [p_nodes hl]
    simp only [T_ite, T_some, Option.bind_some, decide_eq_true_eq, true_iff]
    exact ⟨fun h => by omega, fun h => by omega⟩
  rw [T_ite]
  refine ⟨fun h => by simp only [T_some]; exact .node hc (hb.1 h), fun h => ?_⟩
  have hn : 0 ≤ v ∧ v < (F.length : Int) - 1 := Classical.byContradiction fun k => h (hb.2 k)
  rw [p_rowC hc hn.1 hn.2, Option.bind_some]
  simp only [T_some]
  exact .ok hc hn.1 hn.2
theorem p_gDocRow (hl : F.length ≤ 17592186044160) {v : Int} : T (z_viaductref05_DocRow F T' W v) fun r => ∃ er, RowA F T' W v r.1 er ∧ r.2.1 = er.code ∧ r.2.2 = er.pls := by
  unfold z_viaductref05_DocRow
  refine T_bindr _ (p_DocCheck hl) ?_
  rintro _ ⟨er, hc, rfl⟩
  dsimp only
  rw [p_Bad, Option.bind_some, p_Node hl, Option.bind_some]
  by_cases he : er = .nil
  · subst he
    rw [if_neg (by simp [Er.code, Er.pls]), Option.bind_some]
    by_cases hn : 0 ≤ v ∧ v < (F.length : Int) - 1
    · rw [decide_eq_true hn, if_neg (by decide), Option.bind_some, p_Bad, Option.bind_some, if_neg (by simp [Er.code, Er.pls]), p_rowR hc hn.1 hn.2, Option.bind_some]
      simp only [T_some]
      exact ⟨.nil, .ok hc hn.1 hn.2, rfl, rfl⟩
    · rw [decide_eq_false hn, if_pos (by decide), p_E, Option.bind_some, Option.bind_some, p_Bad, Option.bind_some, if_pos (by simp)]
      simp only [T_some]
      exact ⟨.no 7, .node hc hn, rfl, rfl⟩
  · have hb := decide_eq_true (hc.bad.2 he)
    rw [if_pos hb, Option.bind_some, if_neg (by decide), Option.bind_some, p_Bad, Option.bind_some, if_pos hb]
    simp only [T_some]
    exact ⟨er, .bad er hc he, rfl, rfl⟩
end Go.Vd

/-! (PrFi) -/

set_option linter.unusedVariables false
set_option linter.unusedSimpArgs false
namespace Go.Vd
variable {F T' W : List Int}
theorem RowL.gt' {v j : Int} (j0 : 0 ≤ j) (j1 : j < ((RowL F T' W v).length : Int)) : gt (RowL F T' W v) j = (v, gt T' (gt F v + j), gt W (gt F v + j)) := by
  have hj : (j.toNat : Int) = j := by omega
  have hl : j.toNat < (RowL F T' W v).length := by omega
  have : gt (RowL F T' W v) ((j.toNat : Nat) : Int) = (RowL F T' W v)[j.toNat] := gt_nat hl
  rw [hj] at this
  rw [this]
  simp [RowL, hj]
theorem rise_all {f : Int → Int} {a b : Int} (h : ∀ k, a < k → k < b → f (k - 1) < f k) : ∀ (d : Nat) (i : Int), a ≤ i → i + d + 1 < b → f i < f (i + d + 1) := by
  intro d
  induction d with
  | zero =>
    intro i i0 i1
    have := h (i + 1) (by omega) (by omega)
    rw [show i + 1 - 1 = i from by omega] at this
    rw [show i + ((0 : Nat) : Int) + 1 = i + 1 from by omega]; exact this
  | succ d ih =>
    intro i i0 i1
    have a1 := ih i i0 (by omega)
    have b1 := h (i + ((d + 1 : Nat) : Int) + 1) (by omega) (by omega)
    rw [show i + ((d + 1 : Nat) : Int) + 1 - 1 = i + d + 1 from by omega] at b1
    omega
/-- The nodes to which a list's arcs lead rise. -/
def RiseT (l : List A3) : Prop := ∀ i j : Int, 0 ≤ i → i < j → j < (l.length : Int) → (gt l i).2.1 < (gt l j).2.1
theorem RowL.rise (hc : Chk F T' W .nil) {v : Int} (v0 : 0 ≤ v) (v1 : v < (F.length : Int) - 1) : RiseT (RowL F T' W v) := by
  intro i j i0 ij j1
  have hb := hc.inr v0 v1
  have hlen := RowL.len (F := F) (T' := T') (W := W) (v := v)
  rw [RowL.gt' i0 (by omega), RowL.gt' (by omega) j1]
  show gt T' (gt F v + i) < gt T' (gt F v + j)
  have := rise_all (f := fun k => gt T' k) (a := gt F v) (b := gt F (v + 1)) (fun k k0 k1 => hc.rise ⟨v0, v1, by omega, by omega⟩ k0) (j - i - 1).toNat (gt F v + i) (by omega) (by omega)
  rw [show gt F v + i + (((j - i - 1).toNat : Nat) : Int) + 1 = gt F v + j from by omega] at this
  exact this
theorem RowL.node (hc : Chk F T' W .nil) {v j : Int} (v0 : 0 ≤ v) (v1 : v < (F.length : Int) - 1) (j0 : 0 ≤ j) (j1 : j < ((RowL F T' W v).length : Int)) : 0 ≤ (gt (RowL F T' W v) j).2.1 ∧ (gt (RowL F T' W v) j).2.1 < (F.length : Int) - 1 := by
  have hb := hc.inr v0 v1
  have hlen := RowL.len (F := F) (T' := T') (W := W) (v := v)
  rw [RowL.gt' j0 j1]
  show 0 ≤ gt T' (gt F v + j) ∧ gt T' (gt F v + j) < (F.length : Int) - 1
  have := hc.arcs v (gt F v + j) ⟨v0, v1, by omega, by omega⟩
  unfold arcNo at this
  split at this
  · simp at this
  · omega

/-- What a list of arcs tells of a node. -/
inductive Hit (l : List A3) (w : Int) : Int → Bool → Prop
  | yes (i : Int) : 0 ≤ i → i < (l.length : Int) → (gt l i).2.1 = w → Hit l w (gt l i).2.2 true
  | no : (∀ i, 0 ≤ i → i < (l.length : Int) → (gt l i).2.1 ≠ w) → Hit l w 0 false
theorem Hit.uniq {l : List A3} {w x y : Int} {a b : Bool} (hr : RiseT l) (h : Hit l w x a) (k : Hit l w y b) : x = y ∧ a = b := by
  cases h with
  | yes i i0 i1 e =>
    cases k with
    | yes j j0 j1 e2 =>
      have : i = j := by
        rcases Int.lt_trichotomy i j with h | h | h
        · have := hr i j i0 h j1; omega
        · exact h
        · have := hr j i j0 h i1; omega
      subst this; exact ⟨rfl, rfl⟩
    | no n => exact absurd e (n i i0 i1)
  | no n =>
    cases k with
    | yes j j0 j1 e2 => exact absurd e2 (n j j0 j1)
    | no _ => exact ⟨rfl, rfl⟩

theorem p_bs {l : List A3} {w n : Int} (hr : RiseT l) (hn : ∀ i, 0 ≤ i → i < (l.length : Int) → 0 ≤ (gt l i).2.1 ∧ (gt l i).2.1 < n) (n1 : n ≤ 65536) (w0 : 0 ≤ w) (w1 : w < n) (hl : l.length ≤ 262144) :
    T (z_slices_BinarySearchFunc l w) fun r => if r.2 = true then 0 ≤ r.1 ∧ r.1 < (l.length : Int) ∧ Hit l w (gt l r.1).2.2 true else Hit l w 0 false := by
  have f1 : ∀ i, 0 ≤ i → i < (l.length : Int) → z_csr_Find_1 ((gt l i).1) ((gt l i).2.1) ((gt l i).2.2) w = some ((gt l i).2.1 - w) := fun i i0 i1 => by
    have := hn i i0 i1
    unfold z_csr_Find_1 G; rw [if_pos (by omega)]
  unfold z_slices_BinarySearchFunc
  refine T_bindr (fun o => 0 ≤ o ∧ o ≤ (l.length : Int) ∧ (∀ k, 0 ≤ k → k < o → (gt l k).2.1 < w) ∧ ∀ k, o ≤ k → k < (l.length : Int) → w ≤ (gt l k).2.1) ?_ ?_
  · refine T_loop (fun z => 0 ≤ z.2 ∧ z.2 ≤ z.1 ∧ z.1 ≤ (l.length : Int) ∧ (∀ k, 0 ≤ k → k < z.2 → (gt l k).2.1 < w) ∧ ∀ k, z.1 ≤ k → k < (l.length : Int) → w ≤ (gt l k).2.1) (fun z => (z.1 - z.2).toNat) ?_ ⟨by simp, by simp, by simp, fun k k0 k1 => by dsimp only at k1; omega, fun k k0 k1 => by dsimp only at k0; omega⟩
    rintro ⟨j, i⟩ ⟨i0, ij, j1, h1, h2⟩
    dsimp only at *
    unfold z_slices_BinarySearchFunc_l0
    rw [T_ite]
    refine ⟨fun hlt => ?_, fun hge => ?_⟩
    · have m0 : 0 ≤ (i + j) / 2 := by omega
      have m1 : (i + j) / 2 < (l.length : Int) := by omega
      rw [T_G, T_G, T_G, T_G, f1 _ m0 m1, Option.bind_some, T_ite]
      refine ⟨by omega, by omega, by omega, ⟨m0, m1⟩, fun h => ?_, fun h => ?_⟩
      · simp only [T_G, T_some, Sum.elim_inl]
        refine ⟨by omega, ⟨by omega, by omega, j1, fun k k0 k1 => ?_, h2⟩, by omega⟩
        by_cases e : k = (i + j) / 2
        · rw [e]; omega
        · have := hr k ((i + j) / 2) k0 (by omega) m1; omega
      · simp only [T_some, Sum.elim_inl]
        refine ⟨⟨i0, by omega, by omega, h1, fun k k0 k1 => ?_⟩, by omega⟩
        by_cases e : k = (i + j) / 2
        · rw [e]; omega
        · have := hr ((i + j) / 2) k m0 (by omega) k1; omega
    · simp only [T_some, Sum.elim_inr]
      exact ⟨i0, by omega, h1, fun k k0 k1 => h2 k (by omega) k1⟩
  · rintro o ⟨o0, o1, h1, h2⟩
    rw [T_ite]
    refine ⟨fun hlt => ?_, fun hge => ?_⟩
    · rw [T_G, f1 o o0 hlt, Option.bind_some]
      simp only [T_some]
      refine ⟨o0, ?_⟩
      by_cases e : (gt l o).2.1 - w = 0
      · rw [decide_eq_true e, if_pos rfl]
        exact ⟨o0, hlt, .yes o o0 hlt (by omega)⟩
      · rw [decide_eq_false e, if_neg (by decide)]
        refine .no fun k k0 k1 hk => ?_
        by_cases q : k < o
        · have := h1 k k0 q; omega
        · by_cases q2 : k = o
          · rw [q2] at hk; omega
          · have := hr o k o0 (by omega) k1
            have := h2 o (by omega) hlt
            omega
    · simp only [T_some]
      rw [if_neg (by decide)]
      exact .no fun k k0 k1 hk => by have := h1 k k0 (by omega); omega

/-- What is answered for an arc that is looked for. -/
inductive FndA (F T' W : List Int) (v w : Int) : Int → Er → Prop
  | row (l : List A3) (er : Er) : RowA F T' W v l er → er ≠ .nil → FndA F T' W v w 0 er
  | node : RowA F T' W v (RowL F T' W v) .nil → ¬ (0 ≤ w ∧ w < (F.length : Int) - 1) → FndA F T' W v w 0 (.no 7)
  | hit (x : Int) : RowA F T' W v (RowL F T' W v) .nil → 0 ≤ w → w < (F.length : Int) - 1 → Hit (RowL F T' W v) w x true → FndA F T' W v w x .nil
  | none : RowA F T' W v (RowL F T' W v) .nil → 0 ≤ w → w < (F.length : Int) - 1 → Hit (RowL F T' W v) w 0 false → FndA F T' W v w 0 (.no 16)
theorem RowA.nil' {v : Int} {l : List A3} (h : RowA F T' W v l .nil) : l = RowL F T' W v ∧ Chk F T' W .nil ∧ 0 ≤ v ∧ v < (F.length : Int) - 1 := by
  cases h with
  | bad _ _ n => exact absurd rfl n
  | ok c a b => exact ⟨rfl, c, a, b⟩
theorem FndA.uniq {v w x y : Int} {er er' : Er} (h : FndA F T' W v w x er) (k : FndA F T' W v w y er') : x = y ∧ er = er' := by
  cases h with
  | row l _ r n =>
    cases k with
    | row l' _ r' n' => exact ⟨rfl, (r.uniq r').2⟩
    | node r' _ => exact absurd (r.uniq r').2 n
    | hit _ r' _ _ _ => exact absurd (r.uniq r').2 n
    | none r' _ _ _ => exact absurd (r.uniq r').2 n
  | node r n =>
    cases k with
    | row l' _ r' n' => exact absurd (r'.uniq r).2 n'
    | node r' _ => exact ⟨rfl, rfl⟩
    | hit _ r' a b _ => exact absurd ⟨a, b⟩ n
    | none r' a b _ => exact absurd ⟨a, b⟩ n
  | hit _ r a b t =>
    obtain ⟨_, c, v0, v1⟩ := r.nil'
    cases k with
    | row l' _ r' n' => exact absurd (r'.uniq r).2 n'
    | node r' n => exact absurd ⟨a, b⟩ n
    | hit _ r' _ _ t' => exact ⟨(t.uniq (RowL.rise c v0 v1) t').1, rfl⟩
    | none r' _ _ t' => exact absurd (t.uniq (RowL.rise c v0 v1) t').2 (by decide)
  | none r a b t =>
    obtain ⟨_, c, v0, v1⟩ := r.nil'
    cases k with
    | row l' _ r' n' => exact absurd (r'.uniq r).2 n'
    | node r' n => exact absurd ⟨a, b⟩ n
    | hit _ r' _ _ t' => exact absurd (t.uniq (RowL.rise c v0 v1) t').2 (by decide)
    | none r' _ _ t' => exact ⟨rfl, rfl⟩
theorem FndA.good {v w x : Int} {er : Er} (h : FndA F T' W v w x er) : er.good ∧ er.pls.length ≤ 1 := by
  cases h with
  | row l _ r n => exact ⟨r.good.1, r.good.2.1⟩
  | node r n => exact ⟨by simp [Er.good], by simp [Er.pls]⟩
  | hit _ r a b t => exact ⟨trivial, by simp [Er.pls]⟩
  | none r a b t => exact ⟨by simp [Er.good], by simp [Er.pls]⟩

theorem p_Find (hl : F.length ≤ 17592186044160) (ht : T'.length ≤ 17592186044160) {v w : Int} : T (z_csr_Find F T' W v w) fun r => FndA F T' W v w r.1 r.2 := by
  unfold z_csr_Find
  refine T_bindr _ (p_Row hl ht) ?_
  rintro ⟨l, er⟩ h
  dsimp only at *
  rw [T_ite]
  refine ⟨fun he => ?_, fun he => by simp only [T_some]; exact .row l er h he⟩
  subst he
  obtain ⟨rfl, c, v0, v1⟩ := h.nil'
  have hg := h.good
  have hsm : (F.length : Int) - 1 ≤ 65536 := c.small.1
  refine T_bindr (fun b => b = true ↔ ¬ (0 ≤ w ∧ w < (F.length : Int) - 1)) ?_ fun b hb => ?_
  · rw [p_nodes hl]
    simp only [T_ite, T_some, Option.bind_some, decide_eq_true_eq, true_iff]
    exact ⟨fun h => by omega, fun h => by omega⟩
  rw [T_ite]
  refine ⟨fun k => by simp only [T_some]; exact .node h (hb.1 k), fun k => ?_⟩
  have hn : 0 ≤ w ∧ w < (F.length : Int) - 1 := Classical.byContradiction fun q => k (hb.2 q)
  refine T_bindr _ (p_bs (RowL.rise c v0 v1) (fun i i0 i1 => RowL.node c v0 v1 i0 i1) hsm hn.1 hn.2 hg.2.2) ?_
  rintro ⟨o, f⟩ hf
  dsimp only at *
  cases f with
  | false =>
    rw [if_neg (by decide)] at hf
    rw [if_pos (by decide)]
    simp only [T_some]
    exact .none h hn.1 hn.2 hf
  | true =>
    rw [if_pos rfl] at hf
    obtain ⟨o0, o1, hf⟩ := hf
    rw [if_neg (by decide), T_G, T_some]
    exact ⟨⟨o0, o1⟩, .hit _ h hn.1 hn.2 hf⟩
theorem p_gDocFind (hl : F.length ≤ 17592186044160) {v w : Int} : T (z_viaductref05_DocFind F T' W v w) fun r => ∃ er, FndA F T' W v w r.1 er ∧ r.2.1 = er.code ∧ r.2.2 = er.pls := by
  unfold z_viaductref05_DocFind
  refine T_bindr _ (p_gDocRow hl) ?_
  rintro ⟨l, c, ps⟩ ⟨er, h, e1, e2⟩
  dsimp only at *
  subst e1; subst e2
  rw [p_Bad, Option.bind_some, p_Node hl, Option.bind_some]
  by_cases he : er = .nil
  · subst he
    obtain ⟨rfl, c, v0, v1⟩ := h.nil'
    have hg := h.good
    rw [if_neg (by simp [Er.code, Er.pls]), Option.bind_some]
    by_cases hn : 0 ≤ w ∧ w < (F.length : Int) - 1
    · rw [decide_eq_true hn, if_neg (by decide), Option.bind_some, p_Bad, Option.bind_some, if_neg (by simp [Er.code, Er.pls])]
      refine T_binds (fun _ => ∀ i, 0 ≤ i → i < ((RowL F T' W v).length : Int) → (gt (RowL F T' W v) i).2.1 ≠ w) ?_ fun _ hno => ?_
      · refine T_loop (fun i => 0 ≤ i ∧ i ≤ ((RowL F T' W v).length : Int) ∧ ∀ k, 0 ≤ k → k < i → (gt (RowL F T' W v) k).2.1 ≠ w) (fun i => (((RowL F T' W v).length : Int) - i).toNat) ?_ ⟨by simp, by simp, fun k k0 k1 => by omega⟩
        rintro i ⟨i0, i1, hi⟩
        unfold z_viaductref05_DocFind_l0
        dsimp only
        simp only [T_ite, T_G, T_map, T_some, Sum.elim_inl, Sum.elim_inr]
        refine ⟨fun hlt => ⟨i0, fun e => ?_, fun e => ⟨by omega, ⟨by omega, by omega, fun k k0 k1 => ?_⟩, by omega⟩⟩, fun hge k k0 k1 => hi k k0 (by omega)⟩
        · exact ⟨.nil, .hit _ h hn.1 hn.2 (.yes i i0 hlt e), rfl, rfl⟩
        · by_cases q : k = i
          · rw [q]; exact e
          · exact hi k k0 (by omega)
      · rw [p_E, Option.bind_some]
        simp only [T_some]
        exact ⟨.no 16, .none h hn.1 hn.2 (.no hno), rfl, rfl⟩
    · rw [decide_eq_false hn, if_pos (by decide), p_E, Option.bind_some, Option.bind_some, p_Bad, Option.bind_some, if_pos (by simp)]
      simp only [T_some]
      exact ⟨.no 7, .node h hn, rfl, rfl⟩
  · have hb := decide_eq_true (h.bad'.2 he)
    rw [if_pos hb, Option.bind_some, if_neg (by decide), Option.bind_some, p_Bad, Option.bind_some, if_pos hb]
    simp only [T_some]
    exact ⟨er, .row l er h he, rfl, rfl⟩
end Go.Vd

/-! (PrSa) -/

set_option linter.unusedVariables false
set_option linter.unusedSimpArgs false
namespace Go.Vd
theorem same_nextE {E : Type} [Inhabited E] {l m : List E} {i : Int} (h : ∀ j : Int, 0 ≤ j → j < i → gt l j = gt m j) (k : gt l i = gt m i) : ∀ j : Int, 0 ≤ j → j < i + 1 → gt l j = gt m j := by
  intro j h0 h1
  by_cases e : j = i
  · rw [e]; exact k
  · exact h j h0 (by omega)
theorem same_neE {E : Type} [DecidableEq E] {l m : List E} (h : ¬ (l.length : Int) = (m.length : Int)) : decide (l = m) = false := by
  apply decide_eq_false; rintro rfl; exact h rfl
theorem same_atE {E : Type} [DecidableEq E] [Inhabited E] {l m : List E} {i : Int} (h : ¬ gt l i = gt m i) : decide (l = m) = false := by
  apply decide_eq_false; rintro rfl; exact h rfl
theorem same_allE {E : Type} [DecidableEq E] [Inhabited E] {l m : List E} {i : Int} (h : ∀ j : Int, 0 ≤ j → j < i → gt l j = gt m j) (hl : (l.length : Int) = m.length) (hi : (l.length : Int) ≤ i) : decide (l = m) = true :=
  decide_eq_true (list_gtE (by omega) fun j h0 h1 => h j h0 (by omega))
theorem p_gSameArcs {a b : List A3} (h : a.length ≤ 1152921504606846976) : z_viaductref03_SameArcs a b = some (decide (a = b)) := by
  refine T_eq.1 ?_
  unfold z_viaductref03_SameArcs
  simp only [T_ite, T_bind, T_some]
  refine ⟨fun hl => ?_, fun hl => (same_neE hl).symm⟩
  refine T_loop (fun i => 0 ≤ i ∧ i ≤ (a.length : Int) ∧ ∀ j : Int, 0 ≤ j → j < i → gt a j = gt b j) (fun i => ((a.length : Int) - i).toNat) ?_ ⟨by omega, by omega, fun j _ _ => by omega⟩
  rintro i ⟨h0, h1, h2⟩
  simp only [z_viaductref03_SameArcs_l0, T_ite, T_G, T_some, T_map, Sum.elim_inl, Sum.elim_inr]
  refine ⟨fun hi => ⟨h0, by omega, fun he => ⟨by omega, ⟨by omega, by omega, same_nextE h2 (eq3 he.1 he.2.1 he.2.2)⟩, by omega⟩, fun he => (same_atE fun k => he (by rw [k]; exact ⟨rfl, rfl, rfl⟩)).symm⟩, fun hi => (same_allE h2 hl (by omega)).symm⟩

theorem p_gSame {n m : Int} {a b : List A3} (h : a.length ≤ 1152921504606846976) : z_viaductref03_Same n a m b = some (decide (n = m ∧ a = b)) := by
  unfold z_viaductref03_Same
  by_cases e : n = m
  · rw [if_pos e, p_gSameArcs h]; simp [e]
  · rw [if_neg e]; simp [e]
end Go.Vd

/-! (PrCsrChecks) -/

set_option linter.unusedVariables false
set_option linter.unusedSimpArgs false
namespace Go.Vd
variable {F T' W : List Int}
theorem p_to (h1 : F.length ≤ 17592186043904) (h2 : T'.length ≤ 17592186043904) (h3 : W.length ≤ 17592186043904) : z_viaductlaw05_to F T' W = some (F, T', W) := by
  simp [z_viaductlaw05_to, z_viaductref05_Twin, p_TwinInts h1, p_TwinInts h2, p_TwinInts h3]
theorem p_CsrChecks {v w : Int} (h1 : F.length ≤ 17592186043904) (h2 : T'.length ≤ 17592186043904) (h3 : W.length ≤ 17592186043904) : z_viaductlaw05_CsrChecks F T' W v w = some true := by
  refine T_eq.1 ?_
  unfold z_viaductlaw05_CsrChecks
  rw [p_to h1 h2 h3]
  simp only [Option.bind_some]
  refine T_bindr _ (p_Check (by omega) (by omega)) fun er hc => ?_
  refine T_bindr _ (p_DocCheck (by omega)) ?_
  rintro _ ⟨er', hc', rfl⟩
  obtain rfl := hc.uniq hc'
  have hg := hc.goodR
  dsimp only
  rw [p_SameT hg.1 (by omega), Option.bind_some, if_neg (by decide)]
  refine T_bindr _ (p_Graph (by omega) (by omega)) ?_
  rintro ⟨n, l, er2⟩ q1
  refine T_bindr _ (p_gDocGraph (by omega)) ?_
  rintro ⟨m, k, c, ps⟩ ⟨er3, q2, e1, e2⟩
  dsimp only at *
  obtain ⟨rfl, rfl, rfl⟩ := q1.uniq q2
  subst e1; subst e2
  have hg := q1.good
  rw [p_gSame (by omega), Option.bind_some, decide_eq_true (⟨rfl, rfl⟩ : n = n ∧ l = l), if_pos rfl, p_SameT hg.1 (by omega)]
  simp only [Option.bind_some, Bool.not_true, Bool.false_eq_true, if_false]
  refine T_bindr _ (p_Row (by omega) (by omega)) ?_
  rintro ⟨l, er2⟩ q1
  refine T_bindr _ (p_gDocRow (by omega)) ?_
  rintro ⟨k, c, ps⟩ ⟨er3, q2, e1, e2⟩
  dsimp only at *
  obtain ⟨rfl, rfl⟩ := q1.uniq q2
  subst e1; subst e2
  have hg := q1.good
  rw [p_gSameArcs (by omega), Option.bind_some, decide_eq_true rfl, if_pos rfl, p_SameT hg.1 (by omega)]
  simp only [Option.bind_some, Bool.not_true, Bool.false_eq_true, if_false]
  refine T_bindr _ (p_Find (by omega) (by omega)) ?_
  rintro ⟨x, er2⟩ q1
  refine T_bindr _ (p_gDocFind (by omega)) ?_
  rintro ⟨y, c, ps⟩ ⟨er3, q2, e1, e2⟩
  dsimp only at *
  obtain ⟨rfl, rfl⟩ := q1.uniq q2
  subst e1; subst e2
  have hg := q1.good
  rw [if_pos rfl, p_SameT hg.1 (by omega)]
  simp
end Go.Vd
