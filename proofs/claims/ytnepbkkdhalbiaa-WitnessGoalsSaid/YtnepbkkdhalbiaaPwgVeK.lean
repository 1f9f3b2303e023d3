/- A slice that was appended to is there still. -/
import Derived.Test.YtnepbkkdhalbiaaPwgVeB
set_option linter.unusedVariables false
set_option linter.unusedSimpArgs false
namespace Go.Vd
set_option linter.unusedSectionVars false
variable [Pins]
section
variable {P : Program} {H H' : AH} {E : Type} {enc : E → List Value} {sz : Nat} {s s' t : Value} {xs : List E} {fp : Fp} {φ : Nat}
end
section
variable {P : Program} {H H' : AH} {E : Type} {enc : E → List Value} {sz : Nat} {s s' t : Value} {xs ys : List E} {fp : Fp} {φ : Nat}
theorem Own.appendK (hw : WF H) (h : Own enc sz H s xs φ) {bytes : Nat} (hb : bytes ≠ 0) (hcap : ((xs.length + ys.length) + (xs.length + ys.length) / 4 + 512) * bytes ≤ 2 ^ 48) (hl : ∀ y ∈ ys, (enc y).length = sz) (h1 : ∀ y ∈ ys, allOne (enc y) = true) :
  ∃ s' ψ, (∀ m, ∃ H', AH.appendK m H sz bytes s ys.length (ys.flatMap enc) = some (s', H') ∧ Fr φ H H' ∧ Own enc sz H' s' (xs ++ ys) ψ) ∧ (ψ = φ ∨ ψ = H.next) := by
 have hsz := h.pos
 have hvl : (ys.flatMap enc).length = ys.length * sz := flat_len hl
 have hmem : ∀ x ∈ xs ++ ys, (enc x).length = sz := fun x hx => (List.mem_append.1 hx).elim (h.len x) (hl x)
 have hmem1 : ∀ x ∈ xs ++ ys, allOne (enc x) = true := fun x hx => (List.mem_append.1 hx).elim (h.one x) (h1 x)
 have hcond : ¬ (sz = 0 ∨ (ys.flatMap enc).length ≠ ys.length * sz) := by omega
 have hby : ¬ (bytes = 0 ∨ ((xs.length + ys.length) + (xs.length + ys.length) / 4 + 512) * bytes > 2 ^ 48) := by omega
 rcases h.is with ⟨rfl, rfl⟩ | ⟨b, c, k, cs, rfl, hb2, hg, hk, hc1, hc2, hcell⟩
 ·by_cases hy : ys.length = 0
  ·have : ys = [] := List.eq_nil_of_length_eq_zero hy
   subst this
   refine ⟨.slice none 0 0, φ, fun m => ⟨H, ?_, (Ext.refl hw).toFr φ, by simpa using h⟩, .inl rfl⟩
   unfold AH.appendK
   rw [if_neg hcond]
   simp
  ·refine ⟨.slice (some ⟨H.next, 0, none⟩) ys.length ys.length, H.next, fun m => ⟨H.push (.row (.loose H.next sz) (ys.flatMap enc)), ?_, (push_ext hw _ (fun ψ z cs e => by cases e; exact Nat.le_refl _)).toFr φ,
    ⟨hsz, by simpa using hl, by simpa using h1, Nat.lt_succ_self _, .inr ⟨H.next, ys.length, _, _, by simp, Nat.lt_succ_self _, AH.push_get _ _, .inr rfl, by simp, hvl.symm, fun i x hx j hj => flat_get hl (by simpa using hx) hj⟩⟩⟩, .inr rfl⟩
   unfold AH.appendK
   rw [if_neg hcond]
   simp only [List.length_nil, Nat.zero_add] at hby ⊢
   rw [if_neg (by omega), if_neg hby]
   simp
 ·have hm1 : xs.length * sz ≤ c * sz := Nat.mul_le_mul_right _ hc1
  have hlen : (cs.take (xs.length * sz) ++ ys.flatMap enc).length = (xs.length + ys.length) * sz := by
   rw [List.length_append, List.length_take, Nat.min_eq_left (by omega), hvl, Nat.add_mul]
  have hsp : ∀ (ws : List Value), ws.length = (ys.length) * sz → ∀ i x, (xs ++ ys)[i]? = some x → ∀ j, j < sz → (cs.take (xs.length * sz) ++ ys.flatMap enc ++ ws)[i * sz + j]? = (enc x)[j]? := by
   intro ws _ i x hx j hj
   rw [List.append_assoc, List.getElem?_append, List.length_take, Nat.min_eq_left (by omega)]
   rw [List.getElem?_append] at hx
   by_cases hi : i < xs.length
   ·rw [if_pos hi] at hx
    have hmi : (i + 1) * sz ≤ xs.length * sz := Nat.mul_le_mul_right _ hi
    have hms : (i + 1) * sz = i * sz + sz := Nat.succ_mul _ _
    rw [if_pos (by omega), List.getElem?_take, if_pos (by omega)]
    exact hcell i x hx j hj
   ·rw [if_neg hi] at hx
    have hlt := (List.getElem?_eq_some_iff.1 hx).1
    have hmi : xs.length * sz ≤ i * sz := Nat.mul_le_mul_right _ (by omega)
    have hms : (i - xs.length) * sz = i * sz - xs.length * sz := Nat.sub_mul _ _ _
    have hmu : (i - xs.length + 1) * sz ≤ ys.length * sz := Nat.mul_le_mul_right _ hlt
    have hmv : (i - xs.length + 1) * sz = (i - xs.length) * sz + sz := Nat.succ_mul _ _
    rw [if_neg (by omega), List.getElem?_append_left (by omega)]
    rw [show i * sz + j - xs.length * sz = (i - xs.length) * sz + j from by omega]
    exact flat_get hl hx hj
  by_cases hroom : xs.length + ys.length ≤ c
  ·by_cases hy : ys.length = 0
   ·have : ys = [] := List.eq_nil_of_length_eq_zero hy
    subst this
    refine ⟨.slice (some ⟨b, 0, none⟩) xs.length c, φ, fun m => ⟨H, ?_, (Ext.refl hw).toFr φ, by simpa using h⟩, .inl rfl⟩
    unfold AH.appendK
    rw [if_neg hcond]
    dsimp only
    rw [if_pos hroom]
    simp
   ·have hmr : (xs.length + ys.length) * sz ≤ c * sz := Nat.mul_le_mul_right _ hroom
    have hma : (xs.length + ys.length) * sz = xs.length * sz + ys.length * sz := Nat.add_mul _ _ _
    obtain ⟨H', p1, p2, p3, p4⟩ := own_puts (o := xs.length * sz) (vs := ys.flatMap enc) (φ := φ) (sz := sz) hw hb2 hg hk (by omega)
    refine ⟨.slice (some ⟨b, 0, none⟩) (xs.length + ys.length) c, φ, fun m => ⟨H', ?_, p2, ⟨hsz, hmem, hmem1, by rw [p3]; exact h.lt, .inr ⟨b, c, k, _, by simp, by rw [p3]; exact hb2, p4, hk, by simpa using hroom, ?_, ?_⟩⟩⟩, .inl rfl⟩
    ·unfold AH.appendK
     rw [if_neg hcond]
     dsimp only
     rw [if_pos hroom, if_neg hy, Nat.zero_add, p1]
     rfl
    ·rw [splice_length (by omega)]; exact hc2
    ·intro i x hx j hj
     unfold splice
     have hi := (List.getElem?_eq_some_iff.1 hx).1
     have hmi : (i + 1) * sz ≤ (xs.length + ys.length) * sz := Nat.mul_le_mul_right _ (by rw [List.length_append] at hi; exact hi)
     have hms : (i + 1) * sz = i * sz + sz := Nat.succ_mul _ _
     rw [List.getElem?_append_left (by rw [hlen]; omega)]
     have := hsp (List.replicate (ys.length * sz) undef) (by simp) i x hx j hj
     rw [List.getElem?_append_left (by rw [hlen]; omega)] at this
     exact this
  ·have hcells : H.cells b 0 (xs.length * sz) = some (cs.take (xs.length * sz)) := by
    unfold AH.cells
    rw [hg]
    dsimp only
    rw [if_pos (by omega)]
    simp
   have hnew : ∀ (k' : Kd) (H1 : AH), H1.next = H.next → (k' = .loose φ sz ∨ k' = .loose H.next sz) → ∀ i x, (xs ++ ys)[i]? = some x → ∀ j, j < sz → (cs.take (xs.length * sz) ++ ys.flatMap enc)[i * sz + j]? = (enc x)[j]? := by
    intro k' H1 _ _ i x hx j hj
    have := hsp (List.replicate (ys.length * sz) undef) (by simp) i x hx j hj
    have hi := (List.getElem?_eq_some_iff.1 hx).1
    have hmi : (i + 1) * sz ≤ (xs.length + ys.length) * sz := Nat.mul_le_mul_right _ (by rw [List.length_append] at hi; exact hi)
    have hms : (i + 1) * sz = i * sz + sz := Nat.succ_mul _ _
    have hma : (xs.length + ys.length) * sz = xs.length * sz + ys.length * sz := Nat.add_mul _ _ _
    rw [List.getElem?_append_left (by rw [hlen]; omega)] at this
    exact this
   rcases hk with ⟨rfl, rfl⟩ | rfl
   ·refine ⟨.slice (some ⟨H.next, 0, none⟩) (xs.length + ys.length) (xs.length + ys.length), H.next, fun m => ⟨H.push (.row (.loose H.next sz) (cs.take (xs.length * sz) ++ ys.flatMap enc)), ?_,
     (push_ext hw _ (fun ψ z cs e => by cases e; exact Nat.le_refl _)).toFr _, ⟨hsz, hmem, hmem1, Nat.lt_succ_self _, .inr ⟨H.next, xs.length + ys.length, _, _, by simp, Nat.lt_succ_self _, AH.push_get _ _, .inr rfl, by simp, hlen.symm, hnew (.loose H.next sz) H rfl (.inr rfl)⟩⟩⟩, .inr rfl⟩
    unfold AH.appendK
    rw [if_neg hcond]
    dsimp only
    rw [if_neg hroom, if_neg hby, hcells, hg]
   ·have hlt := h.lt
    have ht : tokOf H b = φ := by simp [tokOf, hg]
    have hJ : ∀ m, ∃ J, 0 + xs.length * sz + J.length = cs.length ∧ H.wear m φ sz b (0 + xs.length * sz) cs (ys.flatMap enc) = H.worn φ sz b (0 + xs.length * sz) cs J := fun m => by
     cases m with
     | true => exact ⟨_, ovl_length _ (by omega), rfl⟩
     | false => exact ⟨cs.drop (0 + xs.length * sz), by rw [List.length_drop]; omega, (AH.worn_id hg).symm⟩
    have hkf : ∀ J, Fr φ H (H.worn φ sz b (0 + xs.length * sz) cs J) := fun J => upd_fr (kill_fr hw φ b) hw hb2 ht (by simp [tokOf, AH.upd]) (by rw [← ht]; exact hw.tok b)
    have hpf : ∀ J, Fr φ H ((H.worn φ sz b (0 + xs.length * sz) cs J).push (.row (.loose φ sz) (cs.take (xs.length * sz) ++ ys.flatMap enc))) := fun J =>
     (hkf J).trans ((push_ext (hkf J).wf _ (fun ψ z cs e => by cases e; exact Nat.le_of_lt hlt)).toFr φ) hw
    refine ⟨.slice (some ⟨H.next, 0, none⟩) (xs.length + ys.length) (xs.length + ys.length), φ, fun m => ?_, .inl rfl⟩
    obtain ⟨J, _, hJe⟩ := hJ m
    refine ⟨_, ?_, hpf J, ⟨hsz, hmem, hmem1, Nat.lt_succ_of_lt hlt, .inr ⟨H.next, xs.length + ys.length, .loose φ sz, cs.take (xs.length * sz) ++ ys.flatMap enc, by simp, Nat.lt_succ_self _, AH.push_get (H.worn φ sz b (0 + xs.length * sz) cs J) _, .inr rfl, by simp, hlen.symm, hnew (.loose φ sz) H rfl (.inl rfl)⟩⟩⟩
    unfold AH.appendK
    rw [if_neg hcond]
    dsimp only
    rw [if_neg hroom, if_neg hby, hcells, hg]
    dsimp only
    rw [if_pos ⟨rfl, by omega⟩, ← hJe]
end
end Go.Vd
