/- A slice that was appended to is there still. -/
import Derived.Test.YtodoafhphhbaaaaPomVeB
set_option linter.unusedVariables false
set_option linter.unusedSimpArgs false
namespace Go.Vd
set_option linter.unusedSectionVars false
variable [Pins]
section
variable {P : Program} {H H' : AH} {E : Type} {enc : E → List Value} {sz : Nat} {s s' t : Value} {xs : List E} {fp : Fp} {φ : Nat}

theorem Own.append_old (h : Own enc sz H s xs φ) {b0 : Bool} {m n : Nat} {vs : List Value} (he : AH.appendK b0 H sz m s n vs = some (s', H')) : Own enc sz H' s xs φ := by
  unfold AH.appendK at he
  split at he
  · cases he
  rcases h.is with ⟨rfl, rfl⟩ | ⟨b, c, k, cs, rfl, hb, hg, hk, hc1, hc2, hcell⟩
  · dsimp only at he
    split at he
    · split at he
      · cases he; exact h
      · cases he
    · split at he
      · cases he
      · rw [if_pos ⟨rfl, rfl⟩] at he
        cases he
        exact ⟨h.pos, h.len, h.one, Nat.lt_succ_of_lt h.lt, .inl ⟨rfl, rfl⟩⟩
  · dsimp only at he
    have hm1 : xs.length * sz ≤ cs.length := by rw [← hc2]; exact Nat.mul_le_mul_right _ hc1
    have hin : ∀ i x, xs[i]? = some x → ∀ j, j < sz → i * sz + j < 0 + xs.length * sz := fun i x hx j hj => by
      have hi := (List.getElem?_eq_some_iff.1 hx).1
      have hmi : (i + 1) * sz ≤ xs.length * sz := Nat.mul_le_mul_right _ hi
      have hms : (i + 1) * sz = i * sz + sz := Nat.succ_mul _ _
      omega
    split at he
    · split at he
      · cases he; exact h
      · cases hp : H.puts b (0 + xs.length * sz) vs with
        | none => rw [hp] at he; cases he
        | some H1 =>
          rw [hp] at he; cases he
          obtain ⟨k', cs', g, hl, hro, hn, hgb, _⟩ := AH.puts_cases hp
          rw [hg] at g; cases g
          refine ⟨h.pos, h.len, h.one, by rw [hn]; exact h.lt, .inr ⟨b, c, k, _, rfl, by rw [hn]; exact hb, hgb, hk, hc1, by rw [splice_length hl]; exact hc2, fun i x hx j hj => ?_⟩⟩
          rw [splice_get hl, if_pos (hin i x hx j hj)]
          exact hcell i x hx j hj
    · split at he
      · cases he
      · cases hcl : H.cells b 0 (xs.length * sz) with
        | none => rw [hcl] at he; cases he
        | some old =>
          rw [hcl, hg] at he
          rcases hk with ⟨rfl, rfl⟩ | rfl
          · dsimp only at he
            cases he
            exact ⟨h.pos, h.len, h.one, Nat.lt_succ_of_lt h.lt, .inr ⟨φ, c, _, cs, rfl, Nat.lt_succ_of_lt hb, (AH.push_old H _ φ hb).trans hg, .inl ⟨rfl, rfl⟩, hc1, hc2, hcell⟩⟩
          · dsimp only at he
            split at he
            · cases he
              obtain ⟨J, hJ, hJe⟩ : ∃ J, 0 + xs.length * sz + J.length = cs.length ∧ H.wear b0 φ sz b (0 + xs.length * sz) cs vs = H.worn φ sz b (0 + xs.length * sz) cs J := by
                cases b0 with
                | true => exact ⟨_, ovl_length _ (by omega), rfl⟩
                | false => exact ⟨cs.drop (0 + xs.length * sz), by rw [List.length_drop]; omega, (AH.worn_id hg).symm⟩
              rw [hJe]
              refine ⟨h.pos, h.len, h.one, Nat.lt_succ_of_lt h.lt, .inr ⟨b, c, _, smear cs (0 + xs.length * sz) J, rfl, Nat.lt_succ_of_lt hb, (AH.push_old (H.worn φ sz b (0 + xs.length * sz) cs J) _ b hb).trans (AH.worn_self _ _ _ _ _ _ _), .inr rfl, hc1, by rw [smear_length hJ]; exact hc2, fun i x hx j hj => ?_⟩⟩
              rw [smear_get hJ, if_pos (hin i x hx j hj)]
              exact hcell i x hx j hj
            · cases he

theorem AH.appendK_next {b0 : Bool} {m n : Nat} {vs : List Value} (he : AH.appendK b0 H sz m s n vs = some (s', H')) : H.next ≤ H'.next := by
  unfold AH.appendK at he
  split at he
  · cases he
  split at he
  · split at he
    · split at he
      · split at he
        · cases he; exact Nat.le_refl _
        · cases he
      · split at he
        · cases he; exact Nat.le_refl _
        · rename_i b o _
          cases hp : H.puts b (o + _ * sz) vs with
          | none => rw [hp] at he; cases he
          | some H1 =>
            rw [hp] at he; cases he
            obtain ⟨_, _, _, _, _, hn, _⟩ := AH.puts_cases hp
            rw [hn]; exact Nat.le_refl _
      · split at he
        · cases he; exact Nat.le_refl _
        · cases he
    · split at he
      · cases he
      · split at he
        · split at he
          · cases he; exact Nat.le_succ _
          · cases he
        · split at he
          · split at he
            · cases he; cases b0 <;> exact Nat.le_succ _
            · cases he
          · cases he; exact Nat.le_succ _
          · cases he
        · split at he
          · cases he; exact Nat.le_succ _
          · cases he
  · cases he
end
section
variable {P : Program} {H H' : AH} {E : Type} {enc : E → List Value} {sz : Nat} {s s' t : Value} {xs ys : List E} {fp : Fp} {φ : Nat}

/-- **An append to a slice of one's own, with two answers.** -/
theorem Own.appendK (hw : WF H) (h : Own enc sz H s xs φ) {bytes : Nat} (hb : bytes ≠ 0) (hcap : ((xs.length + ys.length) + (xs.length + ys.length) / 4 + 512) * bytes ≤ 2 ^ 48) (hl : ∀ y ∈ ys, (enc y).length = sz) (h1 : ∀ y ∈ ys, allOne (enc y) = true) :
    ∃ s' ψ, (∀ m, ∃ H', AH.appendK m H sz bytes s ys.length (ys.flatMap enc) = some (s', H') ∧ Fr φ H H' ∧ Own enc sz H' s' (xs ++ ys) ψ) ∧ (ψ = φ ∨ ψ = H.next) := by
  have hsz := h.pos
  have hvl : (ys.flatMap enc).length = ys.length * sz := flat_len hl
  have hmem : ∀ x ∈ xs ++ ys, (enc x).length = sz := fun x hx => (List.mem_append.1 hx).elim (h.len x) (hl x)
  have hmem1 : ∀ x ∈ xs ++ ys, allOne (enc x) = true := fun x hx => (List.mem_append.1 hx).elim (h.one x) (h1 x)
  have hcond : ¬ (sz = 0 ∨ (ys.flatMap enc).length ≠ ys.length * sz) := by omega
  have hby : ¬ (bytes = 0 ∨ ((xs.length + ys.length) + (xs.length + ys.length) / 4 + 512) * bytes > 2 ^ 48) := by omega
  rcases h.is with ⟨rfl, rfl⟩ | ⟨b, c, k, cs, rfl, hb2, hg, hk, hc1, hc2, hcell⟩
  · by_cases hy : ys.length = 0
    · have : ys = [] := List.eq_nil_of_length_eq_zero hy
      subst this
      refine ⟨.slice none 0 0, φ, fun m => ⟨H, ?_, (Ext.refl hw).toFr φ, by simpa using h⟩, .inl rfl⟩
      unfold AH.appendK
      rw [if_neg hcond]
      simp
    · refine ⟨.slice (some ⟨H.next, 0, none⟩) ys.length ys.length, H.next, fun m => ⟨H.push (.row (.loose H.next sz) (ys.flatMap enc)), ?_, (push_ext hw _ (fun ψ z cs e => by cases e; exact Nat.le_refl _)).toFr φ,
        ⟨hsz, by simpa using hl, by simpa using h1, Nat.lt_succ_self _, .inr ⟨H.next, ys.length, _, _, by simp, Nat.lt_succ_self _, AH.push_get _ _, .inr rfl, by simp, hvl.symm, fun i x hx j hj => flat_get hl (by simpa using hx) hj⟩⟩⟩, .inr rfl⟩
      unfold AH.appendK
      rw [if_neg hcond]
      simp only [List.length_nil, Nat.zero_add] at hby ⊢
      rw [if_neg (by omega), if_neg hby]
      simp
  · have hm1 : xs.length * sz ≤ c * sz := Nat.mul_le_mul_right _ hc1
    have hlen : (cs.take (xs.length * sz) ++ ys.flatMap enc).length = (xs.length + ys.length) * sz := by
      rw [List.length_append, List.length_take, Nat.min_eq_left (by omega), hvl, Nat.add_mul]
    have hsp : ∀ (ws : List Value), ws.length = (ys.length) * sz → ∀ i x, (xs ++ ys)[i]? = some x → ∀ j, j < sz → (cs.take (xs.length * sz) ++ ys.flatMap enc ++ ws)[i * sz + j]? = (enc x)[j]? := by
      intro ws _ i x hx j hj
      rw [List.append_assoc, List.getElem?_append, List.length_take, Nat.min_eq_left (by omega)]
      rw [List.getElem?_append] at hx
      by_cases hi : i < xs.length
      · rw [if_pos hi] at hx
        have hmi : (i + 1) * sz ≤ xs.length * sz := Nat.mul_le_mul_right _ hi
        have hms : (i + 1) * sz = i * sz + sz := Nat.succ_mul _ _
        rw [if_pos (by omega), List.getElem?_take, if_pos (by omega)]
        exact hcell i x hx j hj
      · rw [if_neg hi] at hx
        have hlt := (List.getElem?_eq_some_iff.1 hx).1
        have hmi : xs.length * sz ≤ i * sz := Nat.mul_le_mul_right _ (by omega)
        have hms : (i - xs.length) * sz = i * sz - xs.length * sz := Nat.sub_mul _ _ _
        have hmu : (i - xs.length + 1) * sz ≤ ys.length * sz := Nat.mul_le_mul_right _ hlt
        have hmv : (i - xs.length + 1) * sz = (i - xs.length) * sz + sz := Nat.succ_mul _ _
        rw [if_neg (by omega), List.getElem?_append_left (by omega)]
        rw [show i * sz + j - xs.length * sz = (i - xs.length) * sz + j from by omega]
        exact flat_get hl hx hj
    by_cases hroom : xs.length + ys.length ≤ c
    · by_cases hy : ys.length = 0
      · have : ys = [] := List.eq_nil_of_length_eq_zero hy
        subst this
        refine ⟨.slice (some ⟨b, 0, none⟩) xs.length c, φ, fun m => ⟨H, ?_, (Ext.refl hw).toFr φ, by simpa using h⟩, .inl rfl⟩
        unfold AH.appendK
        rw [if_neg hcond]
        dsimp only
        rw [if_pos hroom]
        simp
      · have hmr : (xs.length + ys.length) * sz ≤ c * sz := Nat.mul_le_mul_right _ hroom
        have hma : (xs.length + ys.length) * sz = xs.length * sz + ys.length * sz := Nat.add_mul _ _ _
        obtain ⟨H', p1, p2, p3, p4⟩ := own_puts (o := xs.length * sz) (vs := ys.flatMap enc) (φ := φ) (sz := sz) hw hb2 hg hk (by omega)
        refine ⟨.slice (some ⟨b, 0, none⟩) (xs.length + ys.length) c, φ, fun m => ⟨H', ?_, p2, ⟨hsz, hmem, hmem1, by rw [p3]; exact h.lt, .inr ⟨b, c, k, _, by simp, by rw [p3]; exact hb2, p4, hk, by simpa using hroom, ?_, ?_⟩⟩⟩, .inl rfl⟩
        · unfold AH.appendK
          rw [if_neg hcond]
          dsimp only
          rw [if_pos hroom, if_neg hy, Nat.zero_add, p1]
          rfl
        · rw [splice_length (by omega)]; exact hc2
        · intro i x hx j hj
          unfold splice
          have hi := (List.getElem?_eq_some_iff.1 hx).1
          have hmi : (i + 1) * sz ≤ (xs.length + ys.length) * sz := Nat.mul_le_mul_right _ (by rw [List.length_append] at hi; exact hi)
          have hms : (i + 1) * sz = i * sz + sz := Nat.succ_mul _ _
          rw [List.getElem?_append_left (by rw [hlen]; omega)]
          have := hsp (List.replicate (ys.length * sz) undef) (by simp) i x hx j hj
          rw [List.getElem?_append_left (by rw [hlen]; omega)] at this
          exact this
    · have hcells : H.cells b 0 (xs.length * sz) = some (cs.take (xs.length * sz)) := by
        unfold AH.cells
        rw [hg]
        dsimp only
        rw [if_pos (by omega)]
        simp
      have hnew : ∀ (k' : Kd) (H1 : AH), H1.next = H.next → (k' = .loose φ sz ∨ k' = .loose H.next sz) → ∀ i x, (xs ++ ys)[i]? = some x → ∀ j, j < sz → (cs.take (xs.length * sz) ++ ys.flatMap enc)[i * sz + j]? = (enc x)[j]? := by
        intro k' H1 _ _ i x hx j hj
        have := hsp (List.replicate (ys.length * sz) undef) (by simp) i x hx j hj
        have hi := (List.getElem?_eq_some_iff.1 hx).1
        have hmi : (i + 1) * sz ≤ (xs.length + ys.length) * sz := Nat.mul_le_mul_right _ (by rw [List.length_append] at hi; exact hi)
        have hms : (i + 1) * sz = i * sz + sz := Nat.succ_mul _ _
        have hma : (xs.length + ys.length) * sz = xs.length * sz + ys.length * sz := Nat.add_mul _ _ _
        rw [List.getElem?_append_left (by rw [hlen]; omega)] at this
        exact this
      rcases hk with ⟨rfl, rfl⟩ | rfl
      · refine ⟨.slice (some ⟨H.next, 0, none⟩) (xs.length + ys.length) (xs.length + ys.length), H.next, fun m => ⟨H.push (.row (.loose H.next sz) (cs.take (xs.length * sz) ++ ys.flatMap enc)), ?_,
          (push_ext hw _ (fun ψ z cs e => by cases e; exact Nat.le_refl _)).toFr _, ⟨hsz, hmem, hmem1, Nat.lt_succ_self _, .inr ⟨H.next, xs.length + ys.length, _, _, by simp, Nat.lt_succ_self _, AH.push_get _ _, .inr rfl, by simp, hlen.symm, hnew (.loose H.next sz) H rfl (.inr rfl)⟩⟩⟩, .inr rfl⟩
        unfold AH.appendK
        rw [if_neg hcond]
        dsimp only
        rw [if_neg hroom, if_neg hby, hcells, hg]
      · have hlt := h.lt
        have ht : tokOf H b = φ := by simp [tokOf, hg]
        have hJ : ∀ m, ∃ J, 0 + xs.length * sz + J.length = cs.length ∧ H.wear m φ sz b (0 + xs.length * sz) cs (ys.flatMap enc) = H.worn φ sz b (0 + xs.length * sz) cs J := fun m => by
          cases m with
          | true => exact ⟨_, ovl_length _ (by omega), rfl⟩
          | false => exact ⟨cs.drop (0 + xs.length * sz), by rw [List.length_drop]; omega, (AH.worn_id hg).symm⟩
        have hkf : ∀ J, Fr φ H (H.worn φ sz b (0 + xs.length * sz) cs J) := fun J => upd_fr (kill_fr hw φ b) hw hb2 ht (by simp [tokOf, AH.upd]) (by rw [← ht]; exact hw.tok b)
        have hpf : ∀ J, Fr φ H ((H.worn φ sz b (0 + xs.length * sz) cs J).push (.row (.loose φ sz) (cs.take (xs.length * sz) ++ ys.flatMap enc))) := fun J =>
          (hkf J).trans ((push_ext (hkf J).wf _ (fun ψ z cs e => by cases e; exact Nat.le_of_lt hlt)).toFr φ) hw
        refine ⟨.slice (some ⟨H.next, 0, none⟩) (xs.length + ys.length) (xs.length + ys.length), φ, fun m => ?_, .inl rfl⟩
        obtain ⟨J, _, hJe⟩ := hJ m
        refine ⟨_, ?_, hpf J, ⟨hsz, hmem, hmem1, Nat.lt_succ_of_lt hlt, .inr ⟨H.next, xs.length + ys.length, .loose φ sz, cs.take (xs.length * sz) ++ ys.flatMap enc, by simp, Nat.lt_succ_self _, AH.push_get (H.worn φ sz b (0 + xs.length * sz) cs J) _, .inr rfl, by simp, hlen.symm, hnew (.loose φ sz) H rfl (.inl rfl)⟩⟩⟩
        unfold AH.appendK
        rw [if_neg hcond]
        dsimp only
        rw [if_neg hroom, if_neg hby, hcells, hg]
        dsimp only
        rw [if_pos ⟨rfl, by omega⟩, ← hJe]


/-- **An append, of which two answers are known: what was appended to is there still.** -/
theorem Ow.append2 {fq : Fp} (m : Nat) {at_ : Array TypeId} {t0 t1 : TypeId} (hw : WF H) (h : Ow enc sz H s xs fp) (hy : Sq enc sz H t ys fq) (h1 : ∀ y ∈ ys, allOne (enc y) = true)
    (a0 : at_[0]? = some t0) (a1 : at_[1]? = some t1) (hT' : slSz P t0 = some (sz, m)) (hT1' : isSl P t1 = true) (hm : m ≠ 0) (hcap : ((xs.length + ys.length) + (xs.length + ys.length) / 4 + 512) * m ≤ 2 ^ 48) :
    ∃ s' fp' H1 H2, aAppendK true P at_ s t H = some (s', H1) ∧ aAppendK false P at_ s t H = some (s', H2) ∧ Inn fp H fp' ∧ ∀ H', (H' = H1 ∨ H' = H2) → FrS fp H H' ∧ Ow enc sz H' s' (xs ++ ys) fp' ∧ Ow enc sz H' s xs fp := by
  obtain ⟨z, hT⟩ := slSz_spec hT'
  obtain ⟨e1, hT1⟩ := isSl_spec hT1'
  obtain ⟨e, i, h2, h3, h4, h5, h6⟩ := slT_spec hT
  have hK : ∀ b, aAppendK b P at_ s t H = AH.appendK b H sz m s ys.length (ys.flatMap enc) := by
    intro b
    rcases hy.src with ⟨rfl, rfl⟩ | hy'
    · unfold aAppendK voidS
      rw [a0, a1]
      simp only [Option.bind_some, h4, hT1, h5, h6]
      rfl
    · rcases hy'.is with ⟨rfl, rfl⟩ | ⟨bb, o, c, k, cs, rfl, _⟩
      · unfold aAppendK
        rw [a0, a1]
        simp only [Option.bind_some, h4, hT1, h5, h6]
        rfl
      · have hc := hy'.cells.2
        unfold aAppendK
        rw [a0, a1]
        simp only [Option.bind_some, h4, hT1, h5, hc, allOne_flat h1, if_true, h6]
  have hl : ∀ y ∈ ys, (enc y).length = sz := by
    rcases hy.src with ⟨rfl, rfl⟩ | hy'
    · intro y hy; cases hy
    · exact hy'.len
  rcases h.is with ⟨hs0, hx0⟩ | ⟨φ, hφ, ho⟩
  · obtain ⟨s', H', fp', g1, g2, g3, g4⟩ := h.happend hw (ys := ys) hm hcap hl h1
    have hE : ∀ b, AH.appendK b H sz m s ys.length (ys.flatMap enc) = H.append sz m s ys.length (ys.flatMap enc) := by
      intro b
      rcases hs0 with rfl | rfl <;> rfl
    have hn := AH.appendK_next ((hE true).trans g1)
    refine ⟨s', fp', H', H', by rw [hK, hE]; exact g1, by rw [hK, hE]; exact g1, g4, fun H3 e => ?_⟩
    obtain rfl : H3 = H' := e.elim id id
    exact ⟨g2, g3, fun t ht => Nat.lt_of_lt_of_le (h.lt t ht) hn, h.pos, .inl ⟨hs0, hx0⟩⟩
  · obtain ⟨s', ψ, f, hψ⟩ := ho.appendK hw (ys := ys) hm hcap hl h1
    obtain ⟨H1, p1, p2, p3⟩ := f true
    obtain ⟨H2, q1, q2, q3⟩ := f false
    refine ⟨s', [ψ], H1, H2, by rw [hK]; exact p1, by rw [hK]; exact q1, .one (hψ.imp (fun e => by rw [e]; exact hφ) id), fun H3 e => ?_⟩
    have old : ∀ b H4, AH.appendK b H sz m s ys.length (ys.flatMap enc) = some (s', H4) → Ow enc sz H4 s xs fp := fun b H4 e4 =>
      ⟨fun t ht => Nat.lt_of_lt_of_le (h.lt t ht) (AH.appendK_next e4), h.pos, .inr ⟨φ, hφ, ho.append_old e4⟩⟩
    rcases e with rfl | rfl
    · exact ⟨p2.frS hφ, ⟨fun t ht => by rw [List.mem_singleton.1 ht]; exact p3.lt, h.pos, .inr ⟨ψ, List.mem_singleton.2 rfl, p3⟩⟩, old true _ p1⟩
    · exact ⟨q2.frS hφ, ⟨fun t ht => by rw [List.mem_singleton.1 ht]; exact q3.lt, h.pos, .inr ⟨ψ, List.mem_singleton.2 rfl, q3⟩⟩, old false _ q1⟩
end
end Go.Vd
