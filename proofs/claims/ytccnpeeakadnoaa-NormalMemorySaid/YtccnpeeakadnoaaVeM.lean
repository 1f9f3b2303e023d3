/- Several elements at once into a slice of slices; an append to a slice that lies in a slice. -/
import Derived.Test.YtccnpeeakadnoaaVeN
import Derived.Test.YtccnpeeakadnoaaVeK
namespace Go.Vd
set_option linter.unusedSectionVars false
variable [Pins]
section
variable {P : Program} {H H' : AH} {E : Type} {C : CR E} {s : Value} {xs zs : List E} {W fp g : Fp}

/-- Elements that are new: each one's own, apart from each other. -/
structure News (C : CR E) (H : AH) (zs : List E) (css : List (List Value)) (g : Fp) : Prop where
  len : css.length = zs.length
  lt : Lt H g
  is : ∃ G : Nat → Fp, ∀ (i : Nat) (x : E) (cs : List Value), zs[i]? = some x → css[i]? = some cs → C.rel H x cs (G i) ∧ (∀ t ∈ G i, t ∈ g) ∧ ∀ j, j < zs.length → j ≠ i → Dj (G i) (G j)
theorem News.nil : News C H [] [] [] := ⟨rfl, .nil, fun _ => [], fun i x cs h => by simp at h⟩
theorem News.cons {x : E} {cs : List Value} {css : List (List Value)} {f : Fp} (hx : C.rel H x cs f) (h : News C H zs css g) (hd : Dj f g) : News C H (x :: zs) (cs :: css) (f ++ g) := by
  obtain ⟨a, b, G, c⟩ := h
  refine ⟨by simp [a], (C.lt hx).app b, fun i => match i with | 0 => f | i + 1 => G i, fun i y ds hy hds => ?_⟩
  cases i with
  | zero =>
    simp only [List.getElem?_cons_zero, Option.some.injEq] at hy hds
    subst hy; subst hds
    refine ⟨hx, fun t ht => List.mem_append_left _ ht, fun j hj hne => ?_⟩
    cases j with
    | zero => exact absurd rfl hne
    | succ j =>
      have hj' : j < zs.length := by simpa using hj
      exact hd.sub ((c j zs[j] (css[j]'(by omega)) (List.getElem?_eq_getElem hj') (List.getElem?_eq_getElem (by omega))).2.1)
  | succ i =>
    simp only [List.getElem?_cons_succ] at hy hds
    obtain ⟨q1, q2, q3⟩ := c i y ds hy hds
    refine ⟨q1, fun t ht => List.mem_append_right _ (q2 t ht), fun j hj hne => ?_⟩
    cases j with
    | zero => exact (hd.sub q2).symm
    | succ j => exact q3 j (by simpa using hj) (fun e => hne (by rw [e]))
theorem News.ls {css : List (List Value)} (h : News C H zs css g) : ∀ x ∈ css, x.length = C.sz := by
  obtain ⟨a, b, G, c⟩ := h
  intro x hx
  obtain ⟨i, hi⟩ := List.mem_iff_getElem?.1 hx
  have hlt := (List.getElem?_eq_some_iff.1 hi).1
  exact C.len (c i zs[i] x (List.getElem?_eq_getElem (by omega)) hi).1
theorem News.os {css : List (List Value)} (h : News C H zs css g) : ∀ x ∈ css, allOne (id x) = true := by
  obtain ⟨a, b, G, c⟩ := h
  intro x hx
  obtain ⟨i, hi⟩ := List.mem_iff_getElem?.1 hx
  have hlt := (List.getElem?_eq_some_iff.1 hi).1
  exact C.one (c i zs[i] x (List.getElem?_eq_getElem (by omega)) hi).1

/-- **An append of several elements.** -/
theorem Nst.appendN {b : Nat} {cs : List Value} {css : List (List Value)} (m : Nat) {at_ : Array TypeId} {t0 t1 : TypeId} (n : Nat) (hw : WF H) (h : Nst C H s xs fp) (hr : Row H b cs) (hx : News C H zs css g) (hcs : cs = css.flatMap id) (hn : css.length = n) (hd : Dj fp g)
    (a0 : at_[0]? = some t0) (a1 : at_[1]? = some t1) (hT' : slSz P t0 = some (C.sz, m)) (hT1' : isSl P t1 = true) (hm : m ≠ 0) (hcap : ((xs.length + n) + (xs.length + n) / 4 + 512) * m ≤ 2 ^ 48) :
    ∃ s' H' fp', aAppend P at_ s (.slice (some ⟨b, 0, none⟩) n n) H = some (s', H') ∧ FrS fp H H' ∧ Nst C H' s' (xs ++ zs) fp' ∧ Inn (fp ++ g) H fp' := by
  obtain ⟨hl, ds, f0, F, a, hb, c, d⟩ := h
  have hy : Sq id C.sz H (.slice (some ⟨b, 0, none⟩) n n) css [b] := hr.sqn C.pos css hx.ls hcs n hn
  obtain ⟨s', H', f0', e1, e2, e3, e4⟩ := a.append (P := P) m hw hy hx.os a0 a1 hT' hT1' hm (by rw [c, hn]; exact hcap)
  have hgl := hx.lt
  have hdg : Dj f0 g := hd.subl hb
  obtain ⟨k1, k2, G, k3⟩ := hx
  refine ⟨s', H', f0' ++ (fp ++ g), e1, e2.mono hb, ⟨?_, ds ++ css, f0', fun i => if i < xs.length then F i else G (i - xs.length), e3, fun t ht => List.mem_append_left _ ht, by simp [c, k1], ?_⟩, ?_⟩
  · exact e3.lt.app ((hl.fr e2).app (hgl.fr e2))
  · intro i y es hi hes
    dsimp only
    by_cases hlt : i < xs.length
    · rw [List.getElem?_append_left hlt] at hi
      rw [List.getElem?_append_left (by omega)] at hes
      obtain ⟨q1, q2, q3, q4⟩ := d i y es hi hes
      rw [if_pos hlt]
      refine ⟨C.fr q1 e2 q3, fun t ht => List.mem_append_right _ (List.mem_append_left _ (q2 t ht)), e4.dj q3 (C.lt q1), fun j hj hne => ?_⟩
      by_cases hj2 : j < xs.length
      · rw [if_pos hj2]; exact q4 j hj2 hne
      · rw [if_neg hj2]
        rw [List.length_append] at hj
        have hj3 : j - xs.length < zs.length := by omega
        have := (k3 (j - xs.length) zs[j - xs.length] (css[j - xs.length]'(by omega)) (List.getElem?_eq_getElem hj3) (List.getElem?_eq_getElem (by omega))).2.1
        exact (hd.subl q2).sub this
    · rw [List.getElem?_append_right (by omega)] at hi
      rw [List.getElem?_append_right (by omega), c] at hes
      obtain ⟨q1, q2, q3⟩ := k3 _ y es hi hes
      rw [if_neg hlt]
      refine ⟨C.fr q1 e2 (hdg.sub q2), fun t ht => List.mem_append_right _ (List.mem_append_right _ (q2 t ht)), e4.dj (hdg.sub q2) (C.lt q1), fun j hj hne => ?_⟩
      rw [List.length_append] at hj
      by_cases hj2 : j < xs.length
      · rw [if_pos hj2]
        have := (d j xs[j] (ds[j]'(by omega)) (List.getElem?_eq_getElem hj2) (List.getElem?_eq_getElem (by omega))).2.1
        exact ((hd.subl this).sub q2).symm
      · rw [if_neg hj2]; exact q3 _ (by omega) (by omega)
  · refine Inn.app ?_ (fun t ht => .inl ht)
    exact fun t ht => (e4 t ht).imp (fun h => List.mem_append_left _ (hb t h)) id

/-- A row of new elements is a slice of one's own. -/
theorem Row.nst {b : Nat} {cs : List Value} {css : List (List Value)} (n : Nat) (hr : Row H b cs) (hx : News C H zs css g) (hcs : cs = css.flatMap id) (hn : css.length = n) (hd : Dj [b] g) : Nst C H (.slice (some ⟨b, 0, none⟩) n n) zs ([b] ++ g) := by
  have hls := hx.ls; have hos := hx.os
  obtain ⟨k1, k2, G, k3⟩ := hx
  subst hcs; subst hn
  refine ⟨hr.ltF.app k2, css, [b], G, ⟨hr.ltF, C.pos, .inr ⟨b, List.mem_singleton.2 rfl, C.pos, hls, hos, hr.lt, .inr ⟨b, css.length, .own, _, rfl, hr.lt, hr.row, .inl ⟨rfl, rfl⟩, Nat.le_refl _, (flat_len (enc := id) hls).symm, fun i x hx j hj => flat_get (enc := id) hls hx hj⟩⟩⟩, fun t ht => List.mem_append_left _ ht, k1, fun i x cs hi hc => ?_⟩
  obtain ⟨q1, q2, q3⟩ := k3 i x cs hi hc
  exact ⟨q1, fun t ht => List.mem_append_right _ (q2 t ht), hd.sub q2, q3⟩

/-- **An append to a slice that lies in a slice: it lies there as it was.** -/
theorem Nst.appendKid [Inhabited E] {E' : Type} [Inhabited E'] {enc : E' → List Value} {sz' off : Nat} {get : E → List E'} {put : E → List E' → E} (L : Lens C enc sz' off get put) (hput : ∀ x, put x (get x) = x) {i : Int} {hd t : Value} {ys us : List E'} {fq : Fp} (m : Nat) {at_ : Array TypeId} {t0 t1 : TypeId} (hw : WF H) (h : Nst C H s xs fp) (h0 : 0 ≤ i) (h1 : i < (xs.length : Int))
    (hk : KdS enc sz' H hd ys fp s C.sz i.toNat off) (hys : ys = get (gt xs i)) (hy : Sq enc sz' H t us fq) (ho : ∀ y ∈ us, allOne (enc y) = true)
    (a0 : at_[0]? = some t0) (a1 : at_[1]? = some t1) (hT' : slSz P t0 = some (sz', m)) (hT1' : isSl P t1 = true) (hm : m ≠ 0) (hcap : ((ys.length + us.length) + (ys.length + us.length) / 4 + 512) * m ≤ 2 ^ 48) :
    ∃ s' f' H1 H2, aAppendK true P at_ hd t H = some (s', H1) ∧ aAppendK false P at_ hd t H = some (s', H2) ∧ Inn fp H f' ∧ ∀ H', (H' = H1 ∨ H' = H2) → FrS fp H H' ∧ Ow enc sz' H' s' (ys ++ us) f' ∧ Nst C H' s xs fp ∧ KdS enc sz' H' hd ys fp s C.sz i.toNat off := by
  obtain ⟨hlt, css, f0, F, a, hb, c, d⟩ := h
  have hi : i.toNat < xs.length := by omega
  have hic : i.toNat < css.length := by omega
  have hc : css[i.toNat]? = some css[i.toNat] := List.getElem?_eq_getElem hic
  obtain ⟨q1, q2, q3, q4⟩ := d i.toNat _ _ (gt_get h0 h1) hc
  obtain ⟨g, r1, r2, r3⟩ := L.2 H _ _ _ hd q1 (Kid.same a hc L.1 hk.kid)
  rw [← hys] at r2
  obtain ⟨s', f', H1, H2, z1, z2, e4, z3⟩ := r2.append2 (P := P) m hw hy ho a0 a1 hT' hT1' hm hcap
  refine ⟨s', f', H1, H2, z1, z2, fun t ht => (e4 t ht).imp (fun h => q2 t (r1 t h)) id, fun H' hH => ?_⟩
  obtain ⟨e2, e3, e5⟩ := z3 H' hH
  have hcd := Kid.same a hc L.1 hk.kid
  have ha' := a.fr e2 (q3.symm.subl r1)
  refine ⟨e2.mono fun t ht => q2 t (r1 t ht), e3, ⟨hlt.fr e2, css, f0, F, ha', hb, c, ?_⟩, ⟨e5.sq.up (fun t ht => q2 t (r1 t ht)) (hlt.fr e2), ?kid⟩⟩
  case kid =>
    obtain ⟨bb, o, n, cc, k, row, z1, z2, z3, z4⟩ := ha'.kid hc hcd L.1
    exact ⟨bb, o, n, cc, k, row, z1, z2, hb _ z3, z4⟩
  intro k z es hz hes
  by_cases hki : k = i.toNat
  · subst hki
    rw [hc] at hes; cases hes
    rw [gt_get h0 h1] at hz; cases hz
    refine ⟨?_, q2, q3, q4⟩
    have := r3 H' ys e2 e5
    rw [hys, hput] at this
    exact this
  · obtain ⟨p1, p2, p3, p4⟩ := d k z es hz hes
    have hkl : k < xs.length := (List.getElem?_eq_some_iff.1 hz).1
    exact ⟨C.fr p1 e2 ((q4 k hkl hki).subl r1), p2, p3, p4⟩
end
end Go.Vd
