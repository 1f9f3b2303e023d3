/- An append on the abstract heap is an append of the machine. -/
import Derived.Test.YtmndpcokgbfgkaaGreatDoorPhcVdC
namespace Go.Vd
set_option linter.unusedSectionVars false
variable [Pins]
theorem AH.kill_or (H : AH) (φ k x : Nat) : (H.kill φ k).get x = H.get x ∨ (H.kill φ k).get x = some .dead := by
 rcases H.kill_cases φ k x with e | ⟨e, _⟩
 ·exact .inl e
 ·exact .inr e
theorem AH.kill_keep (H : AH) (φ k : Nat) : (H.kill φ k).get k = H.get k := by
 rcases H.kill_cases φ k k with e | ⟨_, e, _⟩
 ·exact e
 ·exact absurd rfl e
theorem AH.kill_none (H : AH) (φ k x : Nat) (h : H.get x = none) : (H.kill φ k).get x = none := by
 rcases H.kill_cases φ k x with e | ⟨_, _, _, _, e⟩
 ·rw [e]; exact h
 ·rw [h] at e; cases e
theorem AH.kill_ro (H : AH) (φ k x : Nat) (cs : List Value) (h : H.get x = some (.row .ro cs)) : (H.kill φ k).get x = some (.row .ro cs) := by
 rcases H.kill_cases φ k x with e | ⟨_, _, _, _, e⟩
 ·rw [e]; exact h
 ·rw [h] at e; cases e
theorem Share.weak {o o' q q' : AObj} (h : Share o o') (e : q = o ∨ q = .dead) (e' : q' = o' ∨ q' = .dead) : Share q q' := by
 rcases e with rfl | rfl
 ·rcases e' with rfl | rfl
  ·exact h
  ·exact Share.symm trivial
 ·trivial
theorem Rel.kill {μ : Mu} {H : AH} {w : World} (h : Rel μ H w) (φ k : Nat) : Rel μ (H.kill φ k) w := by
 refine ⟨h.lt, fun b p e => ?_, fun b b' p p' o o' e e' hne hb g g' => ?_, fun b hb => H.kill_none φ k b (h.fresh b hb), h.pin.ro rfl fun b cs e => H.kill_ro φ k b cs e⟩
 ·obtain ⟨o, h1, h2⟩ := h.ok b p e
  rcases H.kill_or φ k b with e | e
  ·exact ⟨o, e.trans h1, h2⟩
  ·exact ⟨.dead, e, trivial⟩
 ·obtain ⟨o0, h1, _⟩ := h.ok b p e
  obtain ⟨o0', h1', _⟩ := h.ok b' p' e'
  refine Share.weak (h.apart b b' p p' o0 o0' e e' hne hb h1 h1') ?_ ?_
  ·rcases H.kill_or φ k b with x | x
   ·rw [x, h1] at g; cases g; exact .inl rfl
   ·rw [x] at g; cases g; exact .inr rfl
  ·rcases H.kill_or φ k b' with x | x
   ·rw [x, h1'] at g'; cases g'; exact .inl rfl
   ·rw [x] at g'; cases g'; exact .inr rfl
theorem Rel.grow {μ : Mu} {H : AH} {w : World} (h : Rel μ H w) {b o len cap n sz φ : Nat} {p : Pl} {cs old vs vs' : List Value} (hb : μ b = some p) (hg : H.get b = some (.row (.loose φ sz) cs))
  (hc : cs.length = o + cap * sz) (hsz : 0 < sz) (ho : H.cells b o (len * sz) = some old) (hvn : vs.length = n * sz) (hcap : cap < len + n) (hroom : len + n ≤ cap + p.exs) (hv : LRel μ vs vs') (h1 : ∀ v ∈ vs, v.oneCell' = true) (P : Program) :
  ∃ w', (storeCells ⟨p.blk, p.off + o + len * sz, none⟩ vs').run P w = .ok () w' ∧
   Rel (μ.set H.next ⟨p.blk, p.off + o, cap + p.exs - (len + n), sz⟩) ((H.kill φ (if len = cap then b else H.next)).push (.row (.loose φ sz) (old ++ vs))) w' ∧
   Keep μ (μ.set H.next ⟨p.blk, p.off + o, cap + p.exs - (len + n), sz⟩) H ((H.kill φ (if len = cap then b else H.next)).push (.row (.loose φ sz) (old ++ vs))) w w' := by
 obtain ⟨ob, e1, e2⟩ := h.ok b p hb
 rw [hg] at e1; cases e1
 obtain ⟨⟨c, ty, fr, g1, g2, g3, g4⟩, g5, g6⟩ := e2
 have hfr := g3 (by simp)
 subst hfr
 have hpsz : p.sz = sz := g5
 rw [hpsz, hc] at g2
 have hold : old = (cs.drop o).take (len * sz) ∧ o + len * sz ≤ cs.length := by
  unfold AH.cells at ho
  rw [hg] at ho
  dsimp only at ho
  by_cases hle : o + len * sz ≤ cs.length
  ·rw [if_pos hle] at ho; cases ho; exact ⟨rfl, hle⟩
  ·rw [if_neg hle] at ho; cases ho
 obtain ⟨hold, hle⟩ := hold
 have hlc : len ≤ cap := by
  rw [hc] at hle
  exact Nat.le_of_mul_le_mul_right (by omega) hsz
 have hol : old.length = len * sz := by rw [hold]; simp; omega
 have m1 : (len + n) * sz ≤ (cap + p.exs) * sz := Nat.mul_le_mul_right _ hroom
 have m2 : (len + n) * sz = len * sz + n * sz := Nat.add_mul _ _ _
 have m3 : (cap + p.exs) * sz = cap * sz + p.exs * sz := Nat.add_mul _ _ _
 have m4 : (cap + p.exs - (len + n)) * sz = (cap + p.exs) * sz - (len + n) * sz := Nat.sub_mul _ _ _
 have one' : ∀ v ∈ vs', v.oneCell' = true := by
  intro v hm
  obtain ⟨i, hi⟩ := List.mem_iff_getElem?.1 hm
  have hlt := (List.getElem?_eq_some_iff.1 hi).1
  have hlt2 : i < vs.length := by rw [hv.1]; exact hlt
  have := hv.2 i vs[i] v (by simp [hlt2]) hi
  rw [this.one]; exact h1 _ (List.getElem_mem hlt2)
 have hvl := hv.1
 obtain ⟨c', r, s, gc⟩ := run_storeCells P p.blk (p.off + o + len * sz) ty vs' 0 w c g1 (by omega) one'
 have hlt : p.blk < w.heap.size := (h.lt b p hb).2
 have hnn := h.next_none
 have hle' := Mu.set_le hnn (p := ⟨p.blk, p.off + o, cap + p.exs - (len + n), sz⟩)
 have hbn : b ≠ H.next := fun e => by rw [e, hnn] at hb; cases hb
 generalize hk : (if len = cap then b else H.next) = k at *
 have hkn : ∀ x, x ≠ H.next → ((H.kill φ k).push (.row (.loose φ sz) (old ++ vs))).get x = (H.kill φ k).get x := fun x hx => by
  show (if x = H.next then _ else _) = _
  rw [if_neg hx]
 have hks : ((H.kill φ k).push (.row (.loose φ sz) (old ++ vs))).get H.next = some (.row (.loose φ sz) (old ++ vs)) := AH.push_get (H.kill φ k) _
 have other : ∀ x q, μ x = some q → x ≠ b → q.blk = p.blk → (H.kill φ k).get x = some .dead := by
  intro x q hx hxb hblk
  obtain ⟨ox, o1, _⟩ := h.ok x q hx
  have hs : Share (.row (.loose φ sz) cs) ox := h.apart b x p q _ _ hb hx (Ne.symm hxb) hblk.symm hg o1
  have hxk : x ≠ k := by
   rw [← hk]; split
   ·exact hxb
   ·intro e; rw [e, hnn] at hx; cases hx
  cases ox with
  | dead =>
   rcases H.kill_or φ k x with e | e
   ·rw [e]; exact o1
   ·exact e
  | map _ _ => simp [Share] at hs
  | row k' cs' =>
   cases k' with
   | ro => simp [Share] at hs
   | own => simp [Share] at hs
   | loose ψ sz' =>
    have : φ = ψ := hs
    subst this
    exact H.kill_loose φ k x sz' cs' o1 hxk
 refine ⟨_, r, ⟨fun x q hx => ?_, fun x q hx => ?_, fun x y q q' ox oy hx hy hne hq gx gy => ?_, fun x hx => ?_, h.pin.keep ?k⟩, ?k⟩
 ·rw [setBlk_size]
  by_cases hxn : x = H.next
  ·subst hxn; rw [Mu.set_self] at hx; cases hx; exact ⟨Nat.lt_succ_self _, hlt⟩
  ·have hx' : μ x = some q := by simpa [Mu.set, hxn] using hx
   exact ⟨Nat.lt_succ_of_lt (h.lt x q hx').1, (h.lt x q hx').2⟩
 ·by_cases hxn : x = H.next
  ·subst hxn; rw [Mu.set_self] at hx; cases hx
   refine ⟨_, hks, ⟨⟨c', ty, (0, 0), by rw [setBlk_get hlt, if_pos rfl], ?_, fun _ => rfl, fun i v hi => ?_⟩, rfl, fun v hm => ?_⟩⟩
   ·dsimp only; rw [s, List.length_append, hol, hvn, m4]; omega
   ·dsimp only
    rw [gc]
    by_cases hi1 : i < len * sz
    ·rw [if_pos (by omega)]
     rw [List.getElem?_append_left (by omega)] at hi
     rw [hold, List.getElem?_take, if_pos hi1, List.getElem?_drop] at hi
     obtain ⟨v', a, rr⟩ := g4 (o + i) v hi
     exact ⟨v', by rw [Nat.add_assoc]; exact a, rr.mono hle'⟩
    ·rw [if_neg (by omega)]
     rw [List.getElem?_append_right (by omega), hol] at hi
     have hlt2 := (List.getElem?_eq_some_iff.1 hi).1
     rw [if_pos (by omega)]
     obtain ⟨v', a, rr⟩ := All2.get hv hi
     exact ⟨v', by rw [show p.off + o + i - (p.off + o + len * sz + 0) = i - len * sz from by omega]; exact a, rr.mono hle'⟩
   ·rcases List.mem_append.1 hm with hm | hm
    ·rw [hold] at hm
     exact g6 v (List.mem_of_mem_drop (List.mem_of_mem_take hm))
    ·exact h1 v hm
  ·have hx' : μ x = some q := by simpa [Mu.set, hxn] using hx
   rw [hkn x hxn]
   obtain ⟨ox, o1, o2⟩ := h.ok x q hx'
   by_cases hblk : q.blk = p.blk
   ·by_cases hxb : x = b
    ·subst hxb
     rw [hb] at hx'; cases hx'
     rw [hg] at o1; cases o1
     by_cases hlcap : len = cap
     ·rw [if_pos hlcap] at hk
      rw [← hk, H.kill_keep]
      refine ⟨_, hg, ⟨⟨c', ty, (0, 0), by rw [setBlk_get hlt, if_pos rfl], by rw [s, hpsz, hc]; exact g2, fun _ => rfl, fun i v hi => ?_⟩, g5, g6⟩⟩
      have := (List.getElem?_eq_some_iff.1 hi).1
      obtain ⟨v', a, rr⟩ := g4 i v hi
      subst hlcap
      exact ⟨v', by rw [gc, if_pos (by omega)]; exact a, rr.mono hle'⟩
     ·rw [if_neg hlcap] at hk
      exact ⟨.dead, H.kill_loose φ k x sz cs hg (by rw [← hk]; exact hbn), trivial⟩
    ·exact ⟨.dead, other x q hx' hxb hblk, trivial⟩
   ·rcases H.kill_or φ k x with e | e
    ·exact ⟨ox, e.trans o1, o2.congr hle' (by rw [setBlk_get hlt, if_neg hblk])⟩
    ·exact ⟨.dead, e, trivial⟩
 ·by_cases hxn : x = H.next
  ·by_cases hyn : y = H.next
   ·exact absurd (hxn.trans hyn.symm) hne
   ·subst hxn; rw [Mu.set_self] at hx; cases hx
    have hy' : μ y = some q' := by simpa [Mu.set, hyn] using hy
    rw [hks] at gx; cases gx
    rw [hkn y hyn] at gy
    dsimp only at hq
    by_cases hyb : y = b
    ·subst hyb
     rcases H.kill_or φ k y with e | e
     ·rw [e, hg] at gy; cases gy; exact rfl
     ·rw [e] at gy; cases gy; exact Share.symm trivial
    ·rw [other y q' hy' hyb hq.symm] at gy; cases gy; exact Share.symm trivial
  ·have hx' : μ x = some q := by simpa [Mu.set, hxn] using hx
   rw [hkn x hxn] at gx
   by_cases hyn : y = H.next
   ·subst hyn; rw [Mu.set_self] at hy; cases hy
    rw [hks] at gy; cases gy
    dsimp only at hq
    by_cases hxb : x = b
    ·subst hxb
     rcases H.kill_or φ k x with e | e
     ·rw [e, hg] at gx; cases gx; exact rfl
     ·rw [e] at gx; cases gx; trivial
    ·rw [other x q hx' hxb hq] at gx; cases gx; trivial
   ·have hy' : μ y = some q' := by simpa [Mu.set, hyn] using hy
    rw [hkn y hyn] at gy
    exact (h.kill φ k).apart x y q q' ox oy hx' hy' hne hq gx gy
 ·have hx1 : H.next + 1 ≤ x := hx
  rw [hkn x (by omega)]
  exact H.kill_none φ k x (h.fresh x (by omega))
 ·refine ⟨hle', Nat.le_succ _, rfl, rfl, rfl, Nat.le_refl _, by rw [setBlk_size]; exact Nat.le_refl _, fun j hj hro' => ?_, fun x hx hxn => ⟨?_, ?_⟩, fun x cs' hx => ?_, fun x q hx hx0 => ?_⟩
  ·rw [setBlk_get hlt]
   by_cases hjp : j = p.blk
   ·obtain ⟨cs', e⟩ := hro' b p hb hjp.symm
    rw [hg] at e; cases e
   ·rw [if_neg hjp]
  ·unfold Mu.set; rw [if_neg (by omega)]; exact hxn
  ·rw [hkn x (by omega)]; exact H.kill_or φ k x
  ·rw [hkn x ?_]
   ·exact H.kill_ro φ k x cs' hx
   ·intro e; rw [e, h.fresh _ (Nat.le_refl _)] at hx; cases hx
  ·by_cases hxn : x = H.next
   ·subst hxn; rw [Mu.set_self] at hx; cases hx
    exact .inr ⟨b, p, hb, rfl, fun cs' e => by rw [hg] at e; cases e⟩
   ·have hx' : μ x = some q := by simpa [Mu.set, hxn] using hx
    rw [hx'] at hx0; cases hx0
theorem Keep.trans {μ1 μ2 μ3 : Mu} {H1 H2 H3 : AH} {w1 w2 w3 : World} (h : Keep μ1 μ2 H1 H2 w1 w2) (k : Keep μ2 μ3 H2 H3 w2 w3) : Keep μ1 μ3 H1 H3 w1 w3 := by
 refine ⟨h.le.trans k.le, Nat.le_trans h.next k.next, k.os.trans h.os, k.tape.trans h.tape, k.output.trans h.output, Nat.le_trans h.drw k.drw, Nat.le_trans h.size k.size, fun j hj hro => ?_, fun b hb hn => ?_, fun b cs hb => k.roKept b cs (h.roKept b cs hb), fun b p h3 h1 => ?_⟩
 ·refine (k.block j (Nat.lt_of_lt_of_le hj h.size) fun b p hb hp => ?_).trans (h.block j hj hro)
  cases e : μ1 b with
  | some q =>
   have := h.le b q e
   rw [hb] at this; cases this
   obtain ⟨cs, hc⟩ := hro b p e hp
   exact ⟨cs, h.roKept b cs hc⟩
  | none =>
   rcases h.newBlk b p hb e with hge | ⟨b0, p0, e0, e1, e2⟩
   ·omega
   ·obtain ⟨cs, hc⟩ := hro b0 p0 e0 (e1.trans hp)
    exact absurd hc (e2 cs)
 ·obtain ⟨a1, a2⟩ := h.away b hb hn
  obtain ⟨c1, c2⟩ := k.away b (Nat.lt_of_lt_of_le hb h.next) a1
  refine ⟨c1, ?_⟩
  rcases c2 with c2 | c2
  ·rcases a2 with a2 | a2
   ·exact .inl (c2.trans a2)
   ·exact .inr (c2.trans a2)
  ·exact .inr c2
 ·cases e : μ2 b with
  | none =>
   rcases k.newBlk b p h3 e with hge | ⟨b0, p0, e0, e1, e2⟩
   ·exact .inl (Nat.le_trans h.size hge)
   ·cases e' : μ1 b0 with
    | some q =>
     have := h.le b0 q e'
     rw [e0] at this; cases this
     exact .inr ⟨b0, p0, e', e1, fun cs hc => e2 cs (h.roKept b0 cs hc)⟩
    | none =>
     rcases h.newBlk b0 p0 e0 e' with hge | ⟨b1, p1, x0, x1, x2⟩
     ·exact .inl (by omega)
     ·exact .inr ⟨b1, p1, x0, x1.trans e1, x2⟩
  | some q =>
   have := k.le b q e
   rw [h3] at this; cases this
   exact h.newBlk b p e h1
end Go.Vd
