/- What the functions come to, as plain functions (printed by a program of ours). -/
import Derived.Test.YtjfplpkmbijfpaaDoorVpA
import Derived.Test.YtjfplpkmbijfpaaDoorSo0
set_option maxRecDepth 100000
set_option linter.unusedVariables false
namespace Go.Vd
def enc_i64_i64 (x : Int × Int) : List Value := [.int .i64 x.1, .int .i64 x.2]
def enc_i64_i64_i64 (x : Int × Int × Int) : List Value := [.int .i64 x.1, .int .i64 x.2.1, .int .i64 x.2.2]


noncomputable def z_viaductlaw05_great (N_ : Int) (Arcs : List (Int × Int × Int)) : Option (Bool) :=
  if (Arcs.length : Int) > 3000 then (some (decide ((Arcs.length : Int) ≤ 262144))) else (some false)

noncomputable def z_gtext_within (x : Int) (n_ : Int) : Option (Bool) :=
  if x ≥ 0 then (some (decide (x < n_))) else (some false)

noncomputable def z_gtext_arc (From : Int) (To : Int) (Weight : Int) (n_ : Int) : Option (Er) :=
  ((((z_gtext_within From n_).bind fun y22 => if y22 = true then (((z_gtext_within To n_).bind fun y30 => some (!y30))) else (some true)) : Option (Bool)).bind fun o15 => if o15 = true then (some (Er.no 7)) else (if Weight < 0 then (some (Er.no 8)) else (if Weight > 2147483647 then (some (Er.no 8)) else (some Er.nil))))

noncomputable def z_fault_At (kind : Int) (at_ : Int) (err : Er) : Option (Er) :=
  if err = Er.nil then (some Er.nil) else (some (Er.at kind at_ err))

noncomputable def z_gtext_Check_l0 (N_ : Int) (Arcs : List (Int × Int × Int)) (i0 : Int) : Option ((Int) ⊕ ((Er) ⊕ (Unit))) :=
  if i0 < (Arcs.length : Int) then (G (0 ≤ i0) (((z_gtext_arc ((gt Arcs i0).1) ((gt Arcs i0).2.1) ((gt Arcs i0).2.2) N_).bind fun y76 => if y76 = Er.nil then (G ((i0 + 1) ≤ 9223372036854775807) (some (Sum.inl (i0 + 1)))) else (((z_fault_At 4 i0 y76).bind fun y95 => (some y95).map fun v => Sum.inr (Sum.inl v)))))) else (some (Sum.inr (Sum.inr ())))
noncomputable def z_gtext_Check (N_ : Int) (Arcs : List (Int × Int × Int)) : Option (Er) :=
  ((if N_ < 0 then (some true) else (if N_ > 65536 then (some true) else (some (decide ((Arcs.length : Int) > 262144)))) : Option (Bool)).bind fun o15 => if o15 = true then (some (Er.no 9)) else (((loopO (fun zz_ => z_gtext_Check_l0 N_ Arcs zz_) 0).bind (Sum.elim some fun o36 => some Er.nil))))

noncomputable def z_cmp_isNaN (x : Int) : Option (Bool) :=
  some (!decide (x = x))

noncomputable def z_cmp_Compare (x : Int) (y : Int) : Option (Int) :=
  ((z_cmp_isNaN x).bind fun y3 => ((z_cmp_isNaN y).bind fun y9 => if y3 = true then (if y9 = true then (some 0) else (some (-1))) else (if y9 = true then (some 1) else (if x < y then (some (-1)) else (if x > y then (some 1) else (some 0))))))

noncomputable def z_cmp_Or_l0 (vals : List (Int)) (i0 : Int) : Option ((Int) ⊕ ((Int) ⊕ (Unit))) :=
  if i0 < (vals.length : Int) then (G (0 ≤ i0) (if (gt vals i0) = 0 then (G ((i0 + 1) ≤ 9223372036854775807) (some (Sum.inl (i0 + 1)))) else ((some (gt vals i0)).map fun v => Sum.inr (Sum.inl v)))) else (some (Sum.inr (Sum.inr ())))
noncomputable def z_cmp_Or (vals : List (Int)) : Option (Int) :=
  ((loopO (fun zz_ => z_cmp_Or_l0 vals zz_) 0).bind (Sum.elim some fun o5 => some 0))

noncomputable def z_normal_order (From : Int) (To : Int) (Weight : Int) (From_ : Int) (To_ : Int) (Weight_ : Int) : Option (Int) :=
  ((z_cmp_Compare From From_).bind fun y16 => ((z_cmp_Compare To To_).bind fun y21 => ((z_cmp_Compare Weight Weight_).bind fun y26 => ((z_cmp_Or [y16, y21, y26]).bind fun y41 => some y41))))

noncomputable def z_normal_Of_1 (From : Int) (To : Int) (Weight : Int) (From_ : Int) (To_ : Int) (Weight_ : Int) : Option (Bool) :=
  if From = From_ then (some (decide (To = To_))) else (some false)

noncomputable def z_slices_CompactFunc_l0 (k3 : Int) (s0 : List (Int × Int × Int)) (k1 : Int) (k22 : Int) : Option ((List (Int × Int × Int) × Int × Int) ⊕ (List (Int × Int × Int) × Int)) :=
  if k22 < ((s0.drop k3.toNat).length : Int) then (G (0 ≤ k22) (G (-9223372036854775808 ≤ (k22 - 1) ∧ (k22 - 1) ≤ 9223372036854775807) (G (0 ≤ (k22 - 1) ∧ (k22 - 1) < ((s0.drop k3.toNat).length : Int)) (((z_normal_Of_1 ((gt (s0.drop k3.toNat) k22).1) ((gt (s0.drop k3.toNat) k22).2.1) ((gt (s0.drop k3.toNat) k22).2.2) ((gt (s0.drop k3.toNat) (k22 - 1)).1) ((gt (s0.drop k3.toNat) (k22 - 1)).2.1) ((gt (s0.drop k3.toNat) (k22 - 1)).2.2)).bind fun y109 => if (!y109) = true then (G (0 ≤ k1 ∧ k1 < (s0.length : Int)) (G ((k1 + 1) ≤ 9223372036854775807) (G ((k22 + 1) ≤ 9223372036854775807) (some (Sum.inl ((s0.set k1.toNat ((gt (s0.drop k3.toNat) k22).1, (gt (s0.drop k3.toNat) k22).2.1, (gt (s0.drop k3.toNat) k22).2.2)), (k1 + 1), (k22 + 1))))))) else (G ((k22 + 1) ≤ 9223372036854775807) (some (Sum.inl (s0, k1, (k22 + 1)))))))))) else (some (Sum.inr (s0, k1)))
noncomputable def z_slices_CompactFunc_l1 (s : List (Int × Int × Int)) (k3 : Int) : Option ((Int) ⊕ ((List (Int × Int × Int) × List (Int × Int × Int)) ⊕ (Unit))) :=
  if k3 < (s.length : Int) then (G (0 ≤ k3) (G (-9223372036854775808 ≤ (k3 - 1) ∧ (k3 - 1) ≤ 9223372036854775807) (G (0 ≤ (k3 - 1) ∧ (k3 - 1) < (s.length : Int)) (((z_normal_Of_1 ((gt s k3).1) ((gt s k3).2.1) ((gt s k3).2.2) ((gt s (k3 - 1)).1) ((gt s (k3 - 1)).2.1) ((gt s (k3 - 1)).2.2)).bind fun y47 => if y47 = true then (G (0 ≤ k3 ∧ k3 ≤ (s.length : Int)) (((loopO (fun zz_ => z_slices_CompactFunc_l0 k3 zz_.1 zz_.2.1 zz_.2.2) (s, k3, 1)).bind fun o66 => G (0 ≤ o66.2 ∧ o66.2 ≤ (o66.1.length : Int)) (G ((0 : Int) < (o66.1.length : Int)) (G (0 ≤ o66.2 ∧ o66.2 ≤ ((o66.1.take o66.2.toNat ++ List.replicate (o66.1.length - o66.2.toNat) (0, 0, 0)).length : Int)) ((some (((o66.1.take o66.2.toNat ++ List.replicate (o66.1.length - o66.2.toNat) (0, 0, 0)).take o66.2.toNat), (o66.1.take o66.2.toNat ++ List.replicate (o66.1.length - o66.2.toNat) (0, 0, 0)))).map fun v => Sum.inr (Sum.inl v))))))) else (G ((k3 + 1) ≤ 9223372036854775807) (some (Sum.inl (k3 + 1))))))))) else (some (Sum.inr (Sum.inr ())))
noncomputable def z_slices_CompactFunc (s : List (Int × Int × Int)) : Option (List (Int × Int × Int) × List (Int × Int × Int)) :=
  if (s.length : Int) < 2 then (some (s, s)) else (((loopO (fun zz_ => z_slices_CompactFunc_l1 s zz_) 1).bind (Sum.elim some fun o15 => some (s, s))))

noncomputable def z_normal_Of_l0 (Arcs : List (Int × Int × Int)) (i0 : Int) (c1 : List (Int × Int × Int)) : Option ((Int × List (Int × Int × Int)) ⊕ (List (Int × Int × Int))) :=
  if i0 < (Arcs.length : Int) then (G (0 ≤ i0) (if ((gt Arcs i0).1) = ((gt Arcs i0).2.1) then (G ((i0 + 1) ≤ 9223372036854775807) (some (Sum.inl ((i0 + 1), c1)))) else (G (c1.length + 1 ≤ 5864062014549) (G ((i0 + 1) ≤ 9223372036854775807) (some (Sum.inl ((i0 + 1), (c1 ++ [((gt Arcs i0).1, (gt Arcs i0).2.1, (gt Arcs i0).2.2)])))))))) else (some (Sum.inr c1))
noncomputable def z_normal_Of (N_ : Int) (Arcs : List (Int × Int × Int)) : Option (Int × List (Int × Int × Int) × Er) :=
  ((z_gtext_Check N_ Arcs).bind fun y29 => if y29 = Er.nil then (((loopO (fun zz_ => z_normal_Of_l0 Arcs zz_.1 zz_.2) (0, [])).bind fun o60 => G (o60.length ≤ 1000000000000) (((sortO (fun (a_ b_ : Int × Int × Int) => z_normal_order a_.1 a_.2.1 a_.2.2 b_.1 b_.2.1 b_.2.2) o60).bind fun y162 => ((z_slices_CompactFunc y162).bind fun y170 => some (N_, y170.1, Er.nil)))))) else (some (0, [], y29)))

noncomputable def z_csr_flat_l0 (Arcs : List (Int × Int × Int)) (i0 : Int) (c1 : List (Int)) (c2 : List (Int)) (c3 : List (Int)) : Option ((Int × List (Int) × List (Int) × List (Int)) ⊕ (List (Int) × List (Int) × List (Int))) :=
  if i0 < (Arcs.length : Int) then (G (0 ≤ i0) (G (-9223372036854775808 ≤ (((gt Arcs i0).1) + 1) ∧ (((gt Arcs i0).1) + 1) ≤ 9223372036854775807) (G (0 ≤ (((gt Arcs i0).1) + 1) ∧ (((gt Arcs i0).1) + 1) < (c1.length : Int)) (G (-9223372036854775808 ≤ ((gt c1 (((gt Arcs i0).1) + 1)) + 1) ∧ ((gt c1 (((gt Arcs i0).1) + 1)) + 1) ≤ 9223372036854775807) (G (c2.length + 1 ≤ 17592186044160) (G (c3.length + 1 ≤ 17592186044160) (G ((i0 + 1) ≤ 9223372036854775807) (some (Sum.inl ((i0 + 1), (c1.set (((gt Arcs i0).1) + 1).toNat ((gt c1 (((gt Arcs i0).1) + 1)) + 1)), (c2 ++ [(gt Arcs i0).2.1]), (c3 ++ [(gt Arcs i0).2.2]))))))))))) else (some (Sum.inr (c1, c2, c3)))
noncomputable def z_csr_flat_l1 (N_ : Int) (c4 : List (Int)) (i5 : Int) : Option ((List (Int) × Int) ⊕ (List (Int))) :=
  if i5 < N_ then (G (-9223372036854775808 ≤ (i5 + 1) ∧ (i5 + 1) ≤ 9223372036854775807) (G (0 ≤ (i5 + 1) ∧ (i5 + 1) < (c4.length : Int)) (G (0 ≤ i5 ∧ i5 < (c4.length : Int)) (G (-9223372036854775808 ≤ ((gt c4 (i5 + 1)) + (gt c4 i5)) ∧ ((gt c4 (i5 + 1)) + (gt c4 i5)) ≤ 9223372036854775807) (G ((i5 + 1) ≤ 9223372036854775807) (some (Sum.inl ((c4.set (i5 + 1).toNat ((gt c4 (i5 + 1)) + (gt c4 i5))), (i5 + 1))))))))) else (some (Sum.inr c4))
noncomputable def z_csr_flat (N_ : Int) (Arcs : List (Int × Int × Int)) : Option (List (Int) × List (Int) × List (Int)) :=
  G (-9223372036854775808 ≤ (N_ + 1) ∧ (N_ + 1) ≤ 9223372036854775807) (G (0 ≤ (N_ + 1) ∧ 8 * (N_ + 1) ≤ 281474976710656) (((loopO (fun zz_ => z_csr_flat_l0 Arcs zz_.1 zz_.2.1 zz_.2.2.1 zz_.2.2.2) (0, (List.replicate (N_ + 1).toNat (0 : Int)), [], [])).bind fun o63 => ((loopO (fun zz_ => z_csr_flat_l1 N_ zz_.1 zz_.2) (o63.1, 0)).bind fun o227 => some (o227, o63.2.1, o63.2.2)))))

noncomputable def z_csr_Build (N_ : Int) (Arcs : List (Int × Int × Int)) : Option (List (Int) × List (Int) × List (Int) × Er) :=
  ((z_normal_Of N_ Arcs).bind fun y43 => if y43.2.2 = Er.nil then (((z_csr_flat y43.1 y43.2.1).bind fun y82 => some (y82.1, y82.2.1, y82.2.2, Er.nil))) else (some ([], [], [], y43.2.2)))

noncomputable def z_viaductref01_E (n_ : Int) : Option (Int) :=
  some n_

noncomputable def z_viaductref01_At (kind : Int) (at_ : Int) (Code : Int) (Places : List (Int × Int)) : Option (Int × List (Int × Int)) :=
  G ([(kind, at_)].length + Places.length ≤ 8796093021952) (some (Code, ([(kind, at_)] ++ Places)))

noncomputable def z_viaductref03_DocCheck_l0 (N_ : Int) (Arcs : List (Int × Int × Int)) (i0 : Int) : Option ((Int) ⊕ ((Int × List (Int × Int)) ⊕ (Unit))) :=
  if i0 < (Arcs.length : Int) then (G (0 ≤ i0) (((if ((gt Arcs i0).1) < 0 then (some true) else (if ((gt Arcs i0).1) ≥ N_ then (some true) else (if ((gt Arcs i0).2.1) < 0 then (some true) else (some (decide (((gt Arcs i0).2.1) ≥ N_))))) : Option (Bool)).bind fun o94 => if o94 = true then (((z_viaductref01_E 7).bind fun y114 => ((z_viaductref01_At 4 i0 y114 []).bind fun y119 => (some (y119.1, y119.2)).map fun v => Sum.inr (Sum.inl v)))) else (((if ((gt Arcs i0).2.2) < 0 then (some true) else (some (decide (((gt Arcs i0).2.2) > 2147483647))) : Option (Bool)).bind fun o144 => if o144 = true then (((z_viaductref01_E 8).bind fun y157 => ((z_viaductref01_At 4 i0 y157 []).bind fun y162 => (some (y162.1, y162.2)).map fun v => Sum.inr (Sum.inl v)))) else (G ((i0 + 1) ≤ 9223372036854775807) (some (Sum.inl (i0 + 1))))))))) else (some (Sum.inr (Sum.inr ())))
noncomputable def z_viaductref03_DocCheck (N_ : Int) (Arcs : List (Int × Int × Int)) : Option (Int × List (Int × Int)) :=
  ((if N_ < 0 then (some true) else (if N_ > 65536 then (some true) else (some (decide ((Arcs.length : Int) > 262144)))) : Option (Bool)).bind fun o21 => if o21 = true then (((z_viaductref01_E 9).bind fun y39 => some (y39, []))) else (((loopO (fun zz_ => z_viaductref03_DocCheck_l0 N_ Arcs zz_) 0).bind (Sum.elim some fun o54 => some (0, [])))))

noncomputable def z_viaductref01_Err_Bad (Code : Int) (Places : List (Int × Int)) : Option (Bool) :=
  if Code = 0 then (some (decide ((Places.length : Int) > 0))) else (some true)

noncomputable def z_viaductref04_less (From : Int) (To : Int) (Weight : Int) (From_ : Int) (To_ : Int) (Weight_ : Int) : Option (Bool) :=
  if From < From_ then (some true) else (if From = From_ then (some (decide (To < To_))) else (some false))

noncomputable def z_viaductref04_Put_l0 (l : List (Int × Int × Int)) (From : Int) (To : Int) (Weight : Int) (i0 : Int) : Option ((Int) ⊕ (Int)) :=
  if i0 < (l.length : Int) then (G (0 ≤ i0) (((z_viaductref04_less ((gt l i0).1) ((gt l i0).2.1) ((gt l i0).2.2) From To Weight).bind fun y41 => if y41 = true then (G ((i0 + 1) ≤ 9223372036854775807) (some (Sum.inl (i0 + 1)))) else (some (Sum.inr i0))))) else (some (Sum.inr i0))
noncomputable def z_viaductref04_Put (l : List (Int × Int × Int)) (From : Int) (To : Int) (Weight : Int) : Option (List (Int × Int × Int)) :=
  ((loopO (fun zz_ => z_viaductref04_Put_l0 l From To Weight zz_) 0).bind fun o15 => G (0 ≤ o15 ∧ o15 ≤ (l.length : Int)) (G (0 + ((l.take o15.toNat).drop 0).length ≤ 5864062014549) (((if o15 < (l.length : Int) then (G (0 ≤ o15) (if ((gt l o15).1) = From then (some (decide (((gt l o15).2.1) = To))) else (some false))) else (some false) : Option (Bool)).bind fun o79 => if o79 = true then (G (0 ≤ o15 ∧ o15 < (l.length : Int)) (G (([] ++ ((l.take o15.toNat).drop 0)).length + 1 ≤ 5864062014549) (G ((o15 + 1) ≤ 9223372036854775807) (G (0 ≤ (o15 + 1) ∧ (o15 + 1) ≤ (l.length : Int)) (G ((([] ++ ((l.take o15.toNat).drop 0)) ++ [(From, To, (min Weight ((gt l o15).2.2)))]).length + ((l.take l.length).drop (o15 + 1).toNat).length ≤ 5864062014549) (some ((([] ++ ((l.take o15.toNat).drop 0)) ++ [(From, To, (min Weight ((gt l o15).2.2)))]) ++ ((l.take l.length).drop (o15 + 1).toNat)))))))) else (G (([] ++ ((l.take o15.toNat).drop 0)).length + 1 ≤ 5864062014549) (G ((([] ++ ((l.take o15.toNat).drop 0)) ++ [(From, To, Weight)]).length + ((l.take l.length).drop o15.toNat).length ≤ 5864062014549) (some ((([] ++ ((l.take o15.toNat).drop 0)) ++ [(From, To, Weight)]) ++ ((l.take l.length).drop o15.toNat)))))))))

noncomputable def z_viaductref04_Of_l0 (Arcs : List (Int × Int × Int)) (i0 : Int) (c1 : List (Int × Int × Int)) : Option ((Int × List (Int × Int × Int)) ⊕ (List (Int × Int × Int))) :=
  if i0 < (Arcs.length : Int) then (G (0 ≤ i0) (if ((gt Arcs i0).1) = ((gt Arcs i0).2.1) then (G ((i0 + 1) ≤ 9223372036854775807) (some (Sum.inl ((i0 + 1), c1)))) else (((z_viaductref04_Put c1 ((gt Arcs i0).1) ((gt Arcs i0).2.1) ((gt Arcs i0).2.2)).bind fun y94 => G ((i0 + 1) ≤ 9223372036854775807) (some (Sum.inl ((i0 + 1), y94))))))) else (some (Sum.inr c1))
noncomputable def z_viaductref04_Of (N_ : Int) (Arcs : List (Int × Int × Int)) : Option (Int × List (Int × Int × Int)) :=
  ((loopO (fun zz_ => z_viaductref04_Of_l0 Arcs zz_.1 zz_.2) (0, [])).bind fun o35 => some (N_, o35))

noncomputable def z_viaductref04_DocOf (N_ : Int) (Arcs : List (Int × Int × Int)) : Option (Int × List (Int × Int × Int) × Int × List (Int × Int)) :=
  ((z_viaductref03_DocCheck N_ Arcs).bind fun y35 => ((z_viaductref01_Err_Bad y35.1 y35.2).bind fun y61 => if y61 = true then (some (0, [], y35.1, y35.2)) else (((z_viaductref04_Of N_ Arcs).bind fun y88 => some (y88.1, y88.2, 0, [])))))

noncomputable def z_viaductref05_Build_l0 (Arcs : List (Int × Int × Int)) (v7 : Int) (c0 : List (Int)) (c1 : List (Int)) (i2 : Int) : Option ((List (Int) × List (Int) × Int) ⊕ (List (Int) × List (Int) × Int)) :=
  ((if i2 < (Arcs.length : Int) then (G (0 ≤ i2) (some (decide (((gt Arcs i2).1) = v7)))) else (some false) : Option (Bool)).bind fun o184 => if o184 = true then (G (0 ≤ i2 ∧ i2 < (Arcs.length : Int)) (G (c0.length + 1 ≤ 17592186044160) (G (c1.length + 1 ≤ 17592186044160) (G ((i2 + 1) ≤ 9223372036854775807) (some (Sum.inl ((c0 ++ [(gt Arcs i2).2.1]), (c1 ++ [(gt Arcs i2).2.2]), (i2 + 1)))))))) else (some (Sum.inr (c0, c1, i2))))
noncomputable def z_viaductref05_Build_l1 (N_ : Int) (Arcs : List (Int × Int × Int)) (c3 : List (Int)) (c4 : List (Int)) (c5 : List (Int)) (i6 : Int) (v7 : Int) : Option ((List (Int) × List (Int) × List (Int) × Int × Int) ⊕ (List (Int) × List (Int) × List (Int))) :=
  if v7 < N_ then (((loopO (fun zz_ => z_viaductref05_Build_l0 Arcs v7 zz_.1 zz_.2.1 zz_.2.2) (c4, c5, i6)).bind fun o132 => G (c3.length + 1 ≤ 17592186044160) (G (-9223372036854775808 ≤ (v7 + 1) ∧ (v7 + 1) ≤ 9223372036854775807) (some (Sum.inl ((c3 ++ [o132.2.2]), o132.1, o132.2.1, o132.2.2, (v7 + 1))))))) else (some (Sum.inr (c3, c4, c5)))
noncomputable def z_viaductref05_Build (N_ : Int) (Arcs : List (Int × Int × Int)) : Option (List (Int) × List (Int) × List (Int)) :=
  ((loopO (fun zz_ => z_viaductref05_Build_l1 N_ Arcs zz_.1 zz_.2.1 zz_.2.2.1 zz_.2.2.2.1 zz_.2.2.2.2) ([0], [], [], 0, 0)).bind fun o57 => some (o57.1, o57.2.1, o57.2.2))

noncomputable def z_viaductref05_DocBuild (N_ : Int) (Arcs : List (Int × Int × Int)) : Option (List (Int) × List (Int) × List (Int) × Int × List (Int × Int)) :=
  ((z_viaductref04_DocOf N_ Arcs).bind fun y49 => ((z_viaductref01_Err_Bad y49.2.2.1 y49.2.2.2).bind fun y98 => if y98 = true then (some ([], [], [], y49.2.2.1, y49.2.2.2)) else (((z_viaductref05_Build y49.1 y49.2.1).bind fun y126 => some (y126.1, y126.2.1, y126.2.2, y49.2.2.1, y49.2.2.2)))))

noncomputable def z_viaductlaw05_of (First : List (Int)) (To : List (Int)) (Weight : List (Int)) : Option (Unit) :=
  some ()

noncomputable def z_viaductref02_SameInts_l0 (a : List (Int)) (b : List (Int)) (i0 : Int) : Option ((Int) ⊕ ((Bool) ⊕ (Unit))) :=
  if i0 < (a.length : Int) then (G (0 ≤ i0) (G (i0 < (b.length : Int)) (if (gt a i0) = (gt b i0) then (G ((i0 + 1) ≤ 9223372036854775807) (some (Sum.inl (i0 + 1)))) else ((some false).map fun v => Sum.inr (Sum.inl v))))) else (some (Sum.inr (Sum.inr ())))
noncomputable def z_viaductref02_SameInts (a : List (Int)) (b : List (Int)) : Option (Bool) :=
  if (a.length : Int) = (b.length : Int) then (((loopO (fun zz_ => z_viaductref02_SameInts_l0 a b zz_) 0).bind (Sum.elim some fun o10 => some true))) else (some false)

noncomputable def z_viaductref05_Same (First : List (Int)) (To : List (Int)) (Weight : List (Int)) (First_ : List (Int)) (To_ : List (Int)) (Weight_ : List (Int)) : Option (Bool) :=
  ((z_viaductref02_SameInts First First_).bind fun y21 => if y21 = true then (((z_viaductref02_SameInts To To_).bind fun y31 => if y31 = true then (((z_viaductref02_SameInts Weight Weight_).bind fun y41 => some y41)) else (some false))) else (some false))

noncomputable def z_viaductseen_Same_l0 (Places : List (Int × Int)) (i0 : Int) (e1 : Er) : Option ((Int × Er) ⊕ ((Bool) ⊕ (Er))) :=
  if i0 < (Places.length : Int) then (G (0 ≤ i0) (if Er.isAt e1 = true then (if (Er.fk e1) = ((gt Places i0).1) ∧ (Er.fi e1) = ((gt Places i0).2) then (G ((i0 + 1) ≤ 9223372036854775807) (some (Sum.inl ((i0 + 1), (Er.fe e1))))) else ((some false).map fun v => Sum.inr (Sum.inl v))) else ((some false).map fun v => Sum.inr (Sum.inl v)))) else (some (Sum.inr (Sum.inr e1)))
noncomputable def z_viaductseen_Same_l1 (err : Er) (Code : Int) (i2 : Int) : Option ((Int) ⊕ ((Bool) ⊕ (Unit))) :=
  if i2 ≤ 20 then (if (decide (Er.num err = some i2)) = (decide (i2 = Code)) then (G (-9223372036854775808 ≤ (i2 + 1) ∧ (i2 + 1) ≤ 9223372036854775807) (some (Sum.inl (i2 + 1)))) else ((some false).map fun v => Sum.inr (Sum.inl v))) else (some (Sum.inr (Sum.inr ())))
noncomputable def z_viaductseen_Same (err : Er) (Code : Int) (Places : List (Int × Int)) : Option (Bool) :=
  ((z_viaductref01_Err_Bad Code Places).bind fun y11 => if (!y11) = true then (if err = Er.nil then (some true) else (some false)) else (if err = Er.nil then (some false) else (((loopO (fun zz_ => z_viaductseen_Same_l0 Places zz_.1 zz_.2) (0, err)).bind (Sum.elim some fun o40 => if Er.isAt o40 = true then (some false) else (((if (Er.num err).isSome = true then (some (!decide (((Er.num err).getD 0) = Code))) else (some true) : Option (Bool)).bind fun o160 => if o160 = true then (some false) else (((loopO (fun zz_ => z_viaductseen_Same_l1 err Code zz_) 1).bind (Sum.elim some fun o185 => some true))))))))))

noncomputable def z_normal_Reverse_l0 (Arcs : List (Int × Int × Int)) (i0 : Int) (c1 : List (Int × Int × Int)) : Option ((Int × List (Int × Int × Int)) ⊕ (List (Int × Int × Int))) :=
  if i0 < (Arcs.length : Int) then (G (0 ≤ i0) (G (c1.length + 1 ≤ 5864062014549) (G ((i0 + 1) ≤ 9223372036854775807) (some (Sum.inl ((i0 + 1), (c1 ++ [((gt Arcs i0).2.1, (gt Arcs i0).1, (gt Arcs i0).2.2)]))))))) else (some (Sum.inr c1))
noncomputable def z_normal_Reverse (N_ : Int) (Arcs : List (Int × Int × Int)) : Option (Int × List (Int × Int × Int) × Er) :=
  ((z_gtext_Check N_ Arcs).bind fun y29 => if y29 = Er.nil then (((loopO (fun zz_ => z_normal_Reverse_l0 Arcs zz_.1 zz_.2) (0, [])).bind fun o60 => some (N_, o60, Er.nil))) else (some (0, [], y29)))

noncomputable def z_csr_Back (N_ : Int) (Arcs : List (Int × Int × Int)) : Option (List (Int) × List (Int) × List (Int) × Er) :=
  ((z_normal_Reverse N_ Arcs).bind fun y43 => if y43.2.2 = Er.nil then (((z_csr_Build y43.1 y43.2.1).bind fun y82 => some (y82.1, y82.2.1, y82.2.2.1, y82.2.2.2))) else (some ([], [], [], y43.2.2)))

noncomputable def z_viaductref04_Reverse_l0 (Arcs : List (Int × Int × Int)) (i0 : Int) (c1 : List (Int × Int × Int)) : Option ((Int × List (Int × Int × Int)) ⊕ (List (Int × Int × Int))) :=
  if i0 < (Arcs.length : Int) then (G (0 ≤ i0) (G (c1.length + 1 ≤ 5864062014549) (G ((i0 + 1) ≤ 9223372036854775807) (some (Sum.inl ((i0 + 1), (c1 ++ [((gt Arcs i0).2.1, (gt Arcs i0).1, (gt Arcs i0).2.2)]))))))) else (some (Sum.inr c1))
noncomputable def z_viaductref04_Reverse (N_ : Int) (Arcs : List (Int × Int × Int)) : Option (Int × List (Int × Int × Int)) :=
  ((loopO (fun zz_ => z_viaductref04_Reverse_l0 Arcs zz_.1 zz_.2) (0, [])).bind fun o35 => some (N_, o35))

noncomputable def z_viaductref04_DocReverse (N_ : Int) (Arcs : List (Int × Int × Int)) : Option (Int × List (Int × Int × Int) × Int × List (Int × Int)) :=
  ((z_viaductref03_DocCheck N_ Arcs).bind fun y35 => ((z_viaductref01_Err_Bad y35.1 y35.2).bind fun y61 => if y61 = true then (some (0, [], y35.1, y35.2)) else (((z_viaductref04_Reverse N_ Arcs).bind fun y88 => some (y88.1, y88.2, 0, [])))))

noncomputable def z_viaductref05_DocBack (N_ : Int) (Arcs : List (Int × Int × Int)) : Option (List (Int) × List (Int) × List (Int) × Int × List (Int × Int)) :=
  ((z_viaductref04_DocReverse N_ Arcs).bind fun y49 => ((z_viaductref01_Err_Bad y49.2.2.1 y49.2.2.2).bind fun y98 => if y98 = true then (some ([], [], [], y49.2.2.1, y49.2.2.2)) else (((z_viaductref04_Of y49.1 y49.2.1).bind fun y126 => ((z_viaductref05_Build y126.1 y126.2).bind fun y140 => some (y140.1, y140.2.1, y140.2.2, y49.2.2.1, y49.2.2.2))))))

noncomputable def z_viaductlaw05_CsrBuilds (N_ : Int) (Arcs : List (Int × Int × Int)) : Option (Bool) :=
  ((z_viaductlaw05_great N_ Arcs).bind fun y13 => if y13 = true then (some true) else (((z_csr_Build N_ Arcs).bind fun y25 => ((z_viaductref05_DocBuild N_ Arcs).bind fun y81 => ((((z_viaductlaw05_of y25.1 y25.2.1 y25.2.2.1).bind fun y164 => ((z_viaductref05_Same y25.1 y25.2.1 y25.2.2.1 y81.1 y81.2.1 y81.2.2.1).bind fun y176 => if y176 = true then (((z_viaductseen_Same y25.2.2.2 y81.2.2.2.1 y81.2.2.2.2).bind fun y187 => some (!y187))) else (some true))) : Option (Bool)).bind fun o152 => if o152 = true then (some false) else (((z_csr_Back N_ Arcs).bind fun y201 => ((z_viaductref05_DocBack N_ Arcs).bind fun y249 => ((z_viaductlaw05_of y201.1 y201.2.1 y201.2.2.1).bind fun y309 => ((z_viaductref05_Same y201.1 y201.2.1 y201.2.2.1 y249.1 y249.2.1 y249.2.2.1).bind fun y321 => if y321 = true then (((z_viaductseen_Same y201.2.2.2 y249.2.2.2.1 y249.2.2.2.2).bind fun y332 => some y332)) else (some false)))))))))))

end Go.Vd
