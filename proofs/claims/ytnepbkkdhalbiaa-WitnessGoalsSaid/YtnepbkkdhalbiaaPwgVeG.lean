/- A slice of structs of a bool and two slices; pieces may be out. -/
import Derived.Test.YtnepbkkdhalbiaaPwgVeM
set_option linter.unusedVariables false
set_option linter.unusedSimpArgs false
namespace Go.Vd
set_option linter.unusedSectionVars false
variable [Pins]
section
variable {P : Program} {H H' : AH} {F : Type} {enc : F → List Value} {sz : Nat} {s : Value} {W fp g : Fp} {xs : List (Bool × List F × List F)} {hol : List (Nat × Bool)}
def sdG (k : Bool) (x : Bool × List F × List F) : List F := match k with | false => x.2.1 | true => x.2.2
def sdP (k : Bool) (x : Bool × List F × List F) (y : List F) : Bool × List F × List F := match k with | false => (x.1, y, x.2.2) | true => (x.1, x.2.1, y)
def sdO (k : Bool) : Nat := match k with | false => 1 | true => 2
def sdH (k : Bool) (h1 h2 : Value) : Value := match k with | false => h1 | true => h2
structure Nd {F : Type} (enc : F → List Value) (sz : Nat) (H : AH) (s : Value) (xs : List (Bool × List F × List F)) (fp : Fp) (hol : List (Nat × Bool)) : Prop where
 lt : Lt H fp
 is : ∃ (css : List (List Value)) (f0 : Fp) (G : Nat → Bool → Fp), Ow id 3 H s css f0 ∧ (∀ t ∈ f0, t ∈ fp) ∧ css.length = xs.length ∧
  (∀ (i : Nat) (x : Bool × List F × List F) (cs : List Value), xs[i]? = some x → css[i]? = some cs → ∃ h1 h2, cs = [.bool x.1, h1, h2] ∧ h1.oneCell' = true ∧ h2.oneCell' = true ∧
   ∀ k, (i, k) ∉ hol → Ow enc sz H (sdH k h1 h2) (sdG k x) (G i k)) ∧
  (∀ i k, i < xs.length → (i, k) ∉ hol → (∀ t ∈ G i k, t ∈ fp) ∧ Dj f0 (G i k) ∧ ∀ j l, j < xs.length → (j, l) ∉ hol → (j, l) ≠ (i, k) → Dj (G i k) (G j l))
theorem Nd.fr (h : Nd enc sz H s xs fp hol) (k : FrS W H H') (hd : Dj W fp) : Nd enc sz H' s xs fp hol := by
 obtain ⟨hl, css, f0, G, a, b, c, d, e⟩ := h
 refine ⟨hl.fr k, css, f0, G, a.fr k (hd.sub b), b, c, fun i x cs h1 h2 => ?_, e⟩
 obtain ⟨u1, u2, e1, e2, e3, e4⟩ := d i x cs h1 h2
 exact ⟨u1, u2, e1, e2, e3, fun q hq => (e4 q hq).fr k (hd.sub (e i q (List.getElem?_eq_some_iff.1 h1).1 hq).1)⟩
theorem Nd.ext (h : Nd enc sz H s xs fp hol) (k : Ext H H') : Nd enc sz H' s xs fp hol := h.fr (k.frS []) Dj.nil_l
theorem Nd.nil : Nd enc sz H (.slice none 0 0) [] [] [] :=
 ⟨.nil, [], [], fun _ _ => [], .nil (by decide), (fun _ h => (by cases h)), rfl, (fun i x cs h => (by simp at h)), fun i k hi => (by simp at hi)⟩
theorem Nd.form (h : Nd enc sz H s xs fp hol) : ∃ a n c, s = .slice a n c := by obtain ⟨_, css, f0, G, a, _⟩ := h; exact a.form
theorem Nd.one1 (h : Nd enc sz H s xs fp hol) : s.oneCell' = true := by obtain ⟨_, css, f0, G, a, _⟩ := h; exact a.one1
theorem Nd.lenb {t : TypeId} (h : Nd enc sz H s xs fp hol) (hu : isSl P t = true) : aLen P t s H = some (.int .i64 xs.length) := by
 obtain ⟨_, css, f0, G, a, _, b, _⟩ := h
 rw [← b]; exact a.sq.lenb hu
theorem Nd.idxb {t : TypeId} {k : IntKind} {i : Int} (h : Nd enc sz H s xs fp hol) (ht : slOne P t = some 3) (h0 : 0 ≤ i) (h1 : i < (xs.length : Int)) : aIndexAddr P t s (.int k i) = some (elp s 3 i.toNat 0) := by
 obtain ⟨_, css, f0, G, a, _, b, _⟩ := h
 rw [← b] at h1
 exact a.sq.idxb ht h0 h1
theorem Nd.fldq {t : TypeId} {i : Int} {off f d : Nat} (h : Nd enc sz H s xs fp hol) (h0 : 0 ≤ i) (h1 : i < (xs.length : Int)) (hf : fldOf P t f = some d) : aFieldAddr P t (elp s 3 i.toNat off) f = some (elp s 3 i.toNat (off + d)) := by
 obtain ⟨_, css, f0, G, a, _, b, _⟩ := h
 rw [← b] at h1
 exact a.sq.fldq h0 h1 hf
theorem Nd.at (h : Nd enc sz H s xs fp hol) {i : Int} (h0 : 0 ≤ i) (h1 : i < (xs.length : Int)) :
  ∃ h1 h2, (∀ (P : Program) (t : TypeId) (off : Nat) (v : Value), ldOf P t [.bool (gt xs i).1, h1, h2] off = some v → aLoad P t (elp s 3 i.toNat off) H = some v) ∧
   (∀ k, (i.toNat, k) ∉ hol → KdS enc sz H (sdH k h1 h2) (sdG k (gt xs i)) fp s 3 i.toNat (sdO k)) := by
 obtain ⟨hl, css, f0, G, a, b, c, d, e⟩ := h
 have hi : i.toNat < xs.length := by omega
 have hlt : i.toNat < css.length := by omega
 have hc : css[i.toNat]? = some css[i.toNat] := List.getElem?_eq_getElem hlt
 obtain ⟨u1, u2, e1, e2, e3, e4⟩ := d i.toNat _ _ (gt_get h0 h1) hc
 refine ⟨u1, u2, fun P t off v hv => ?_, fun k hk => ⟨(e4 k hk).sq.up (e i.toNat k hi hk).1 hl, ?_⟩⟩
 ·have h1' : i < (css.length : Int) := by omega
  refine a.sq.ld h0 h1' ?_
  have : gt css i = css[i.toNat] := Option.some.inj ((gt_get h0 h1').symm.trans hc)
  rw [this, e1]; exact hv
 ·have hv : css[i.toNat][sdO k]? = some (sdH k u1 u2) := by rw [e1]; cases k <;> rfl
  obtain ⟨bb, o, n, cc, kd, row, z1, z2, z3, z4⟩ := a.kid hc hv (by cases k <;> decide)
  exact ⟨bb, o, n, cc, kd, row, z1, z2, b _ z3, z4⟩
theorem Nd.borrow (k : Bool) {i : Int} {hd : Value} {ys : List F} (h : Nd enc sz H s xs fp hol) (h0 : 0 ≤ i) (h1 : i < (xs.length : Int)) (hn : (i.toNat, k) ∉ hol) (hk : KdS enc sz H hd ys fp s 3 i.toNat (sdO k)) (hys : ys = sdG k (gt xs i)) :
  ∃ fr g, Nd enc sz H s xs fr ((i.toNat, k) :: hol) ∧ Ow enc sz H hd ys g ∧ Dj fr g ∧ (∀ t ∈ fr, t ∈ fp) ∧ (∀ t ∈ g, t ∈ fp) := by
 obtain ⟨hl, css, f0, G, a, b, c, d, e⟩ := h
 have hi : i.toNat < xs.length := by omega
 have hlt : i.toNat < css.length := by omega
 have hc : css[i.toNat]? = some css[i.toNat] := List.getElem?_eq_getElem hlt
 obtain ⟨u1, u2, e1, e2, e3, e4⟩ := d i.toNat _ _ (gt_get h0 h1) hc
 obtain ⟨q1, q2, q3⟩ := e i.toNat k hi hn
 have hh : hd = sdH k u1 u2 := by
  have := Kid.same a hc (by cases k <;> decide) hk.kid
  rw [e1] at this
  cases k <;> exact (Option.some.inj this).symm
 have ho := e4 k hn
 rw [← hh, ← hys] at ho
 refine ⟨fp.filter fun t => t ∉ G i.toNat k, G i.toNat k, ⟨hl.sub fun t ht => (List.mem_filter.1 ht).1, css, f0, G, a, ?_, c, fun j x cs hj hcs => ?_, fun j l hj hjl => ?_⟩, ho, ?_, fun t ht => (List.mem_filter.1 ht).1, q1⟩
 ·exact fun t ht => List.mem_filter.2 ⟨b t ht, by simpa using fun hm => q2 t ht hm⟩
 ·obtain ⟨v1, v2, f1, f2, f3, f4⟩ := d j x cs hj hcs
  exact ⟨v1, v2, f1, f2, f3, fun l hl => f4 l fun hm => hl (List.mem_cons_of_mem _ hm)⟩
 ·have hne : (j, l) ≠ (i.toNat, k) := fun e => hjl (by rw [e]; exact List.mem_cons_self ..)
  have hjl' : (j, l) ∉ hol := fun hm => hjl (List.mem_cons_of_mem _ hm)
  obtain ⟨p1, p2, p3⟩ := e j l hj hjl'
  have hd2 := p3 i.toNat k hi hn (Ne.symm hne)
  refine ⟨fun t ht => List.mem_filter.2 ⟨p1 t ht, by simpa using fun hm => hd2 t ht hm⟩, p2, fun j' l' hj' hl' hne' => p3 j' l' hj' (fun hm => hl' (List.mem_cons_of_mem _ hm)) hne'⟩
 ·exact fun t ht hm => by have := (List.mem_filter.1 ht).2; simp at this; exact this hm
theorem Nd.close {t : TypeId} (k : Bool) {i : Int} {hd : Value} {y : List F} (hw : WF H) (h : Nd enc sz H s xs fp ((i.toNat, k) :: hol)) (ho : Ow enc sz H hd y g) (hdj : Dj fp g) (h0 : 0 ≤ i) (h1 : i < (xs.length : Int)) (hx : hd.cells.toList = [hd]) (hs : (P.info? t).map (·.size) = some 1) (ho1 : allOne [hd] = true) :
  ∃ H' fp', aStore P t (elp s 3 i.toNat (sdO k)) hd H = some H' ∧ FrS fp H H' ∧ Nd enc sz H' s (xs.set i.toNat (sdP k (gt xs i) y)) fp' hol ∧ Inn (fp ++ g) H fp' := by
 obtain ⟨hl, css, f0, G, a, b, c, d, e⟩ := h
 have hi : i.toNat < xs.length := by omega
 have hic : i.toNat < css.length := by omega
 have hc : css[i.toNat]? = some css[i.toNat] := List.getElem?_eq_getElem hic
 have h1c : i < (css.length : Int) := by omega
 have hgc : gt css i = css[i.toNat] := Option.some.inj ((gt_get h0 h1c).symm.trans hc)
 have hgx := gt_get h0 h1
 obtain ⟨u1, u2, e1, e2, e3, e4⟩ := d i.toNat _ _ hgx hc
 obtain ⟨H', p1, p2, p3⟩ := a.store (P := P) (t := t) (off := sdO k) hw h0 h1c hd [hd] hx hs ho1 (splice css[i.toNat] (sdO k) [hd]) (by cases k <;> simp [sdO]) (by rw [hgc]; rfl)
 have hf0g : Dj f0 g := hdj.subl b
 have hone : hd.oneCell' = true := by unfold allOne at ho1; simpa using ho1
 have hout : ∀ j l, (j, l) ≠ (i.toNat, k) → (j, l) ∉ hol → (j, l) ∉ (i.toNat, k) :: hol := fun j l h1 h2 h3 => (List.mem_cons.1 h3).elim h1 h2
 refine ⟨H', fp ++ g, p1, p2.mono b, ⟨(hl.fr p2).app (ho.lt.fr p2), css.set i.toNat (splice css[i.toNat] (sdO k) [hd]), f0, fun j l => if (j, l) = (i.toNat, k) then g else G j l, p3, fun t ht => List.mem_append_left _ (b t ht), by simp [c], ?_, ?_⟩, Inn.self⟩
 ·intro j x cs hj hcs
  by_cases hji : j = i.toNat
  ·subst hji
   rw [List.getElem?_set_self hi] at hj
   rw [List.getElem?_set_self hic] at hcs
   cases hj; cases hcs
   refine ⟨sdH k hd u1, sdH k u2 hd, ?_, by cases k <;> assumption, by cases k <;> assumption, fun l hlh => ?_⟩
   ·rw [e1]; cases k <;> rfl
   ·by_cases hlk : l = k
    ·subst hlk
     try dsimp only
     rw [if_pos rfl]
     have := ho.fr p2 hf0g
     cases l <;> exact this
    ·have hne : ((i.toNat, l) : Nat × Bool) ≠ (i.toNat, k) := fun e => hlk (Prod.mk.inj e).2
     try dsimp only
     rw [if_neg hne]
     have hq := e4 l (hout _ _ hne hlh)
     have hq2 := hq.fr p2 (e i.toNat l hi (hout _ _ hne hlh)).2.1
     cases k <;> cases l <;> first | exact absurd rfl hlk | exact hq2
  ·rw [List.getElem?_set_ne (fun e => hji e.symm)] at hj hcs
   obtain ⟨v1, v2, f1, f2, f3, f4⟩ := d j x cs hj hcs
   refine ⟨v1, v2, f1, f2, f3, fun l hlh => ?_⟩
   have hne : ((j, l) : Nat × Bool) ≠ (i.toNat, k) := fun e => hji (Prod.mk.inj e).1
   try dsimp only
   rw [if_neg hne]
   exact (f4 l (hout _ _ hne hlh)).fr p2 (e j l (List.getElem?_eq_some_iff.1 hj).1 (hout _ _ hne hlh)).2.1
 ·intro j l hj hjl
  rw [List.length_set] at hj
  by_cases hji : ((j, l) : Nat × Bool) = (i.toNat, k)
  ·try dsimp only
   rw [if_pos hji]
   refine ⟨fun t ht => List.mem_append_right _ ht, hf0g, fun j' l' hj' hl' hne => ?_⟩
   rw [List.length_set] at hj'
   have hne' : ((j', l') : Nat × Bool) ≠ (i.toNat, k) := fun e => hne (e.trans hji.symm)
   try dsimp only
   rw [if_neg hne']
   exact (hdj.symm).sub (e j' l' hj' (hout _ _ hne' hl')).1
  ·try dsimp only
   rw [if_neg hji]
   obtain ⟨q1, q2, q3⟩ := e j l hj (hout _ _ hji hjl)
   refine ⟨fun t ht => List.mem_append_left _ (q1 t ht), q2, fun j' l' hj' hl' hne => ?_⟩
   rw [List.length_set] at hj'
   by_cases hne' : ((j', l') : Nat × Bool) = (i.toNat, k)
   ·try dsimp only
    rw [if_pos hne']; exact hdj.subl q1
   ·try dsimp only
    rw [if_neg hne']; exact q3 j' l' hj' (hout _ _ hne' hl') hne
theorem Nd.clearAt {t : TypeId} {i : Int} {v : Value} {b0 : Bool} {hol' : List (Nat × Bool)} (hw : WF H) (h : Nd enc sz H s xs fp hol) (hp : 0 < sz) (h0 : 0 ≤ i) (h1 : i < (xs.length : Int)) (hx : v.cells.toList = [.bool b0, .slice none 0 0, .slice none 0 0]) (hs : (P.info? t).map (·.size) = some 3)
  (hh : ∀ p ∈ hol, p.1 = i.toNat ∨ p ∈ hol') :
  ∃ H', aStore P t (elp s 3 i.toNat 0) v H = some H' ∧ FrS fp H H' ∧ Nd enc sz H' s (xs.set i.toNat (b0, [], [])) fp hol' := by
 obtain ⟨hl, css, f0, G, a, b, c, d, e⟩ := h
 have hi : i.toNat < xs.length := by omega
 have hic : i.toNat < css.length := by omega
 have hc : css[i.toNat]? = some css[i.toNat] := List.getElem?_eq_getElem hic
 have h1c : i < (css.length : Int) := by omega
 have hgc : gt css i = css[i.toNat] := Option.some.inj ((gt_get h0 h1c).symm.trans hc)
 obtain ⟨u1, u2, e1, e2, e3, e4⟩ := d i.toNat _ _ (gt_get h0 h1) hc
 obtain ⟨H', p1, p2, p3⟩ := a.store (P := P) (t := t) (off := 0) hw h0 h1c v [.bool b0, .slice none 0 0, .slice none 0 0] hx hs rfl [.bool b0, .slice none 0 0, .slice none 0 0] (by simp) (by rw [hgc, e1]; rfl)
 have hout : ∀ j l, j ≠ i.toNat → (j, l) ∉ hol' → (j, l) ∉ hol := fun j l h1 h2 h3 => (hh _ h3).elim h1 h2
 refine ⟨H', p1, p2.mono b, ⟨hl.fr p2, css.set i.toNat [.bool b0, .slice none 0 0, .slice none 0 0], f0, fun j l => if j = i.toNat then [] else G j l, p3, b, by simp [c], ?_, ?_⟩⟩
 ·intro j x cs hj hcs
  by_cases hji : j = i.toNat
  ·subst hji
   rw [List.getElem?_set_self hi] at hj
   rw [List.getElem?_set_self hic] at hcs
   cases hj; cases hcs
   refine ⟨_, _, rfl, rfl, rfl, fun l _ => ?_⟩
   try dsimp only
   rw [if_pos rfl]
   cases l <;> exact .nil hp
  ·rw [List.getElem?_set_ne (fun e => hji e.symm)] at hj hcs
   obtain ⟨v1, v2, f1, f2, f3, f4⟩ := d j x cs hj hcs
   refine ⟨v1, v2, f1, f2, f3, fun l hlh => ?_⟩
   try dsimp only
   rw [if_neg hji]
   exact (f4 l (hout j l hji hlh)).fr p2 (e j l (List.getElem?_eq_some_iff.1 hj).1 (hout j l hji hlh)).2.1
 ·intro j l hj hjl
  rw [List.length_set] at hj
  by_cases hji : j = i.toNat
  ·try dsimp only
   rw [if_pos hji]
   exact ⟨fun t ht => (by cases ht), Dj.nil_r, fun _ _ _ _ _ => Dj.nil_l⟩
  ·try dsimp only
   rw [if_neg hji]
   obtain ⟨q1, q2, q3⟩ := e j l hj (hout j l hji hjl)
   refine ⟨q1, q2, fun j' l' hj' hl' hne => ?_⟩
   rw [List.length_set] at hj'
   by_cases hne' : j' = i.toNat
   ·try dsimp only
    rw [if_pos hne']; exact Dj.nil_r
   ·try dsimp only
    rw [if_neg hne']; exact q3 j' l' hj' (hout j' l' hne' hl') hne
theorem Nd.open2 {i : Int} (h : Nd enc sz H s xs fp []) (h0 : 0 ≤ i) (h1 : i < (xs.length : Int)) :
  ∃ u1 u2 fr g1 g2, (∀ (P : Program) (t : TypeId) (v : Value), ldOf P t [.bool (gt xs i).1, u1, u2] 0 = some v → aLoad P t (elp s 3 i.toNat 0) H = some v) ∧
   Nd enc sz H s xs fr [(i.toNat, true), (i.toNat, false)] ∧ Ow enc sz H u1 (gt xs i).2.1 g1 ∧ Ow enc sz H u2 (gt xs i).2.2 g2 ∧ Dj fr g1 ∧ Dj fr g2 ∧ Dj g1 g2 ∧ (∀ t ∈ fr, t ∈ fp) ∧ (∀ t ∈ g1, t ∈ fp) ∧ (∀ t ∈ g2, t ∈ fp) := by
 obtain ⟨u1, u2, a1, a2⟩ := h.at h0 h1
 obtain ⟨fr, g, b1, b2, b3, b4, b5⟩ := h.borrow false h0 h1 (by simp) (a2 false (by simp)) rfl
 obtain ⟨v1, v2, c1, c2⟩ := b1.at h0 h1
 have hv : v2 = u2 := by
  have k1 := (a2 true (by simp)).kid
  have k2 := (c2 true (by simp)).kid
  obtain ⟨x1, x2, x3, x4, x5, x6, x7, x8, x9, y1, y2⟩ := k1
  obtain ⟨z1, z2, z3, z4, z5, z6, z7, z8, z9, w1, w2⟩ := k2
  rw [x7] at z7
  cases z7
  rw [y1] at w1
  cases w1
  rw [y2] at w2
  exact (Option.some.inj w2).symm
 obtain ⟨fr2, g2, d1, d2, d3, d4, d5⟩ := b1.borrow true h0 h1 (by simp) (c2 true (by simp)) rfl
 have d2' : Ow enc sz H u2 (gt xs i).2.2 g2 := by rw [← hv]; exact d2
 exact ⟨u1, u2, fr2, g, g2, fun P t v hh => a1 P t 0 v hh, d1, b2, d2', b3.subl d4, d3, fun t h1 h2 => b3 t (d5 t h2) h1, fun t ht => b4 t (d4 t ht), b5, fun t ht => b4 t (d5 t ht)⟩
theorem Nd.zeros {n : Nat} (hp : 0 < sz) (h : Ow id 3 H s (List.replicate n [.bool false, .slice none 0 0, .slice none 0 0]) fp) : Nd enc sz H s (List.replicate n (false, [], [])) fp [] := by
 refine ⟨h.lt, _, fp, fun _ _ => [], h, fun _ h => h, by simp, fun i x cs hx hc => ?_, fun i k _ _ => ⟨fun t h => (by cases h), Dj.nil_r, fun _ _ _ _ _ => Dj.nil_l⟩⟩
 have e1 := List.eq_of_mem_replicate (List.mem_of_getElem? hx)
 have e2 := List.eq_of_mem_replicate (List.mem_of_getElem? hc)
 subst e1; subst e2
 exact ⟨_, _, rfl, rfl, rfl, fun k _ => by cases k <;> exact .nil hp⟩
end
end Go.Vd
