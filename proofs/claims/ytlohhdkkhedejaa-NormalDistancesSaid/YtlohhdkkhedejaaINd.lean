/- What the functions come to, as plain functions (printed by a program of ours). -/
import Derived.Test.YtlohhdkkhedejaaVpA
import Derived.Test.YtlohhdkkhedejaaSo0
set_option maxRecDepth 100000
set_option linter.unusedVariables false
namespace Go.Vd
def enc_i64_i64 (x : Int × Int) : List Value := [.int .i64 x.1, .int .i64 x.2]
def enc_i64_i64_i64 (x : Int × Int × Int) : List Value := [.int .i64 x.1, .int .i64 x.2.1, .int .i64 x.2.2]


noncomputable def z_viaductref01_E (n_ : Int) : Option (Int) :=
  some n_

noncomputable def z_viaductref01_At (kind : Int) (at_ : Int) (Code : Int) (Places : List (Int × Int)) : Option (Int × List (Int × Int)) :=
  G ([(kind, at_)].length + Places.length ≤ 8796093021952) (some (Code, ([(kind, at_)] ++ Places)))

noncomputable def z_viaductref03_DocCheck_l0 (N_ : Int) (Arcs : List (Int × Int × Int)) (i0 : Int) : Option ((Int) ⊕ ((Int × List (Int × Int)) ⊕ (Unit))) :=
  if i0 < (Arcs.length : Int) then (G (0 ≤ i0) (((if ((gt Arcs i0).1) < 0 then (some true) else (if ((gt Arcs i0).1) ≥ N_ then (some true) else (if ((gt Arcs i0).2.1) < 0 then (some true) else (some (decide (((gt Arcs i0).2.1) ≥ N_))))) : Option (Bool)).bind fun o94 => if o94 = true then (((z_viaductref01_E 7).bind fun y114 => ((z_viaductref01_At 4 i0 y114 []).bind fun y119 => (some (y119.1, y119.2)).map fun v => Sum.inr (Sum.inl v)))) else (((if ((gt Arcs i0).2.2) < 0 then (some true) else (some (decide (((gt Arcs i0).2.2) > 2147483647))) : Option (Bool)).bind fun o144 => if o144 = true then (((z_viaductref01_E 8).bind fun y157 => ((z_viaductref01_At 4 i0 y157 []).bind fun y162 => (some (y162.1, y162.2)).map fun v => Sum.inr (Sum.inl v)))) else (G ((i0 + 1) ≤ 9223372036854775807) (some (Sum.inl (i0 + 1))))))))) else (some (Sum.inr (Sum.inr ())))
noncomputable def z_viaductref03_DocCheck (N_ : Int) (Arcs : List (Int × Int × Int)) : Option (Int × List (Int × Int)) :=
  ((if N_ < 0 then (some true) else (if N_ > 65536 then (some true) else (some (decide ((Arcs.length : Int) > 262144)))) : Option (Bool)).bind fun o21 => if o21 = true then (((z_viaductref01_E 9).bind fun y39 => some (y39, []))) else (((loopO (fun zz_ => z_viaductref03_DocCheck_l0 N_ Arcs zz_) 0).bind (Sum.elim some fun o54 => some (0, [])))))

noncomputable def z_viaductref01_Err_Bad (Code : Int) (Places : List (Int × Int)) : Option (Bool) :=
  if Code = 0 then (some (decide ((Places.length : Int) > 0))) else (some true)

noncomputable def z_viaductref04_Few (N_ : Int) (Arcs : List (Int × Int × Int)) (most : Int) : Option (Bool) :=
  ((z_viaductref03_DocCheck N_ Arcs).bind fun y10 => ((z_viaductref01_Err_Bad y10.1 y10.2).bind fun y36 => if y36 = true then (some false) else (if N_ ≤ most then (some (decide ((Arcs.length : Int) ≤ 2000))) else (some false))))

noncomputable def z_viaductlaw04_great (N_ : Int) (Arcs : List (Int × Int × Int)) : Option (Bool) :=
  if (Arcs.length : Int) > 3000 then (some (decide ((Arcs.length : Int) ≤ 262144))) else (some false)

noncomputable def z_gtext_within (x : Int) (n_ : Int) : Option (Bool) :=
  if x ≥ 0 then (some (decide (x < n_))) else (some false)

noncomputable def z_gtext_arc (From : Int) (To : Int) (Weight : Int) (n_ : Int) : Option (Er) :=
  ((((z_gtext_within From n_).bind fun y22 => if y22 = true then (((z_gtext_within To n_).bind fun y30 => some (!y30))) else (some true)) : Option (Bool)).bind fun o15 => if o15 = true then (some (Er.no 7)) else (if Weight < 0 then (some (Er.no 8)) else (if Weight > 2147483647 then (some (Er.no 8)) else (some Er.nil))))

noncomputable def z_fault_At (kind : Int) (at_ : Int) (err : Er) : Option (Er) :=
  if err = Er.nil then (some Er.nil) else (some (Er.at kind at_ err))

noncomputable def z_gtext_Check_l0 (N_ : Int) (Arcs : List (Int × Int × Int)) (i0 : Int) : Option ((Int) ⊕ ((Er) ⊕ (Unit))) :=
  if i0 < (Arcs.length : Int) then (G (0 ≤ i0) (((z_gtext_arc ((gt Arcs i0).1) ((gt Arcs i0).2.1) ((gt Arcs i0).2.2) N_).bind fun y76 => if y76 = Er.nil then (G ((i0 + 1) ≤ 9223372036854775807) (some (Sum.inl (i0 + 1)))) else (((z_fault_At 4 i0 y76).bind fun y95 => (some y95).map fun v => Sum.inr (Sum.inl v)))))) else (some (Sum.inr (Sum.inr ())))
noncomputable def z_gtext_Check (N_ : Int) (Arcs : List (Int × Int × Int)) : Option (Er) :=
  ((if N_ < 0 then (some true) else (if N_ > 65536 then (some true) else (some (decide ((Arcs.length : Int) > 262144)))) : Option (Bool)).bind fun o15 => if o15 = true then (some (Er.no 9)) else (((loopO (fun zz_ => z_gtext_Check_l0 N_ Arcs zz_) 0).bind (Sum.elim some fun o36 => some Er.nil))))

noncomputable def z_cmp_isNaN (x : Int) : Option (Bool) :=
  some (!decide (x = x))

noncomputable def z_cmp_Compare (x : Int) (y : Int) : Option (Int) :=
  ((z_cmp_isNaN x).bind fun y3 => ((z_cmp_isNaN y).bind fun y9 => if y3 = true then (if y9 = true then (some 0) else (some (-1))) else (if y9 = true then (some 1) else (if x < y then (some (-1)) else (if x > y then (some 1) else (some 0))))))

noncomputable def z_cmp_Or_l0 (vals : List (Int)) (i0 : Int) : Option ((Int) ⊕ ((Int) ⊕ (Unit))) :=
  if i0 < (vals.length : Int) then (G (0 ≤ i0) (if (gt vals i0) = 0 then (G ((i0 + 1) ≤ 9223372036854775807) (some (Sum.inl (i0 + 1)))) else ((some (gt vals i0)).map fun v => Sum.inr (Sum.inl v)))) else (some (Sum.inr (Sum.inr ())))
noncomputable def z_cmp_Or (vals : List (Int)) : Option (Int) :=
  ((loopO (fun zz_ => z_cmp_Or_l0 vals zz_) 0).bind (Sum.elim some fun o5 => some 0))

noncomputable def z_normal_order (From : Int) (To : Int) (Weight : Int) (From_ : Int) (To_ : Int) (Weight_ : Int) : Option (Int) :=
  ((z_cmp_Compare From From_).bind fun y16 => ((z_cmp_Compare To To_).bind fun y21 => ((z_cmp_Compare Weight Weight_).bind fun y26 => ((z_cmp_Or [y16, y21, y26]).bind fun y41 => some y41))))

noncomputable def z_normal_Of_1 (From : Int) (To : Int) (Weight : Int) (From_ : Int) (To_ : Int) (Weight_ : Int) : Option (Bool) :=
  if From = From_ then (some (decide (To = To_))) else (some false)

noncomputable def z_slices_CompactFunc_l0 (k3 : Int) (s0 : List (Int × Int × Int)) (k1 : Int) (k22 : Int) : Option ((List (Int × Int × Int) × Int × Int) ⊕ (List (Int × Int × Int) × Int)) :=
  if k22 < ((s0.drop k3.toNat).length : Int) then (G (0 ≤ k22) (G (-9223372036854775808 ≤ (k22 - 1) ∧ (k22 - 1) ≤ 9223372036854775807) (G (0 ≤ (k22 - 1) ∧ (k22 - 1) < ((s0.drop k3.toNat).length : Int)) (((z_normal_Of_1 ((gt (s0.drop k3.toNat) k22).1) ((gt (s0.drop k3.toNat) k22).2.1) ((gt (s0.drop k3.toNat) k22).2.2) ((gt (s0.drop k3.toNat) (k22 - 1)).1) ((gt (s0.drop k3.toNat) (k22 - 1)).2.1) ((gt (s0.drop k3.toNat) (k22 - 1)).2.2)).bind fun y109 => if (!y109) = true then (G (0 ≤ k1 ∧ k1 < (s0.length : Int)) (G ((k1 + 1) ≤ 9223372036854775807) (G ((k22 + 1) ≤ 9223372036854775807) (some (Sum.inl ((s0.set k1.toNat ((gt (s0.drop k3.toNat) k22).1, (gt (s0.drop k3.toNat) k22).2.1, (gt (s0.drop k3.toNat) k22).2.2)), (k1 + 1), (k22 + 1))))))) else (G ((k22 + 1) ≤ 9223372036854775807) (some (Sum.inl (s0, k1, (k22 + 1)))))))))) else (some (Sum.inr (s0, k1)))
noncomputable def z_slices_CompactFunc_l1 (s : List (Int × Int × Int)) (k3 : Int) : Option ((Int) ⊕ ((List (Int × Int × Int) × List (Int × Int × Int)) ⊕ (Unit))) :=
  if k3 < (s.length : Int) then (G (0 ≤ k3) (G (-9223372036854775808 ≤ (k3 - 1) ∧ (k3 - 1) ≤ 9223372036854775807) (G (0 ≤ (k3 - 1) ∧ (k3 - 1) < (s.length : Int)) (((z_normal_Of_1 ((gt s k3).1) ((gt s k3).2.1) ((gt s k3).2.2) ((gt s (k3 - 1)).1) ((gt s (k3 - 1)).2.1) ((gt s (k3 - 1)).2.2)).bind fun y47 => if y47 = true then (G (0 ≤ k3 ∧ k3 ≤ (s.length : Int)) (((loopO (fun zz_ => z_slices_CompactFunc_l0 k3 zz_.1 zz_.2.1 zz_.2.2) (s, k3, 1)).bind fun o66 => G (0 ≤ o66.2 ∧ o66.2 ≤ (o66.1.length : Int)) (G ((0 : Int) < (o66.1.length : Int)) (G (0 ≤ o66.2 ∧ o66.2 ≤ ((o66.1.take o66.2.toNat ++ List.replicate (o66.1.length - o66.2.toNat) ((0, 0, 0) : Int × Int × Int)).length : Int)) ((some (((o66.1.take o66.2.toNat ++ List.replicate (o66.1.length - o66.2.toNat) ((0, 0, 0) : Int × Int × Int)).take o66.2.toNat), (o66.1.take o66.2.toNat ++ List.replicate (o66.1.length - o66.2.toNat) ((0, 0, 0) : Int × Int × Int)))).map fun v => Sum.inr (Sum.inl v))))))) else (G ((k3 + 1) ≤ 9223372036854775807) (some (Sum.inl (k3 + 1))))))))) else (some (Sum.inr (Sum.inr ())))
noncomputable def z_slices_CompactFunc (s : List (Int × Int × Int)) : Option (List (Int × Int × Int) × List (Int × Int × Int)) :=
  if (s.length : Int) < 2 then (some (s, s)) else (((loopO (fun zz_ => z_slices_CompactFunc_l1 s zz_) 1).bind (Sum.elim some fun o15 => some (s, s))))

noncomputable def z_normal_Of_l0 (Arcs : List (Int × Int × Int)) (i0 : Int) (c1 : List (Int × Int × Int)) : Option ((Int × List (Int × Int × Int)) ⊕ (List (Int × Int × Int))) :=
  if i0 < (Arcs.length : Int) then (G (0 ≤ i0) (if ((gt Arcs i0).1) = ((gt Arcs i0).2.1) then (G ((i0 + 1) ≤ 9223372036854775807) (some (Sum.inl ((i0 + 1), c1)))) else (G (c1.length + 1 ≤ 5864062014549) (G ((i0 + 1) ≤ 9223372036854775807) (some (Sum.inl ((i0 + 1), (c1 ++ [((gt Arcs i0).1, (gt Arcs i0).2.1, (gt Arcs i0).2.2)])))))))) else (some (Sum.inr c1))
noncomputable def z_normal_Of (N_ : Int) (Arcs : List (Int × Int × Int)) : Option (Int × List (Int × Int × Int) × Er) :=
  ((z_gtext_Check N_ Arcs).bind fun y29 => if y29 = Er.nil then (((loopO (fun zz_ => z_normal_Of_l0 Arcs zz_.1 zz_.2) (0, [])).bind fun o60 => G (o60.length ≤ 1000000000000) (((sortO (fun (a_ b_ : Int × Int × Int) => z_normal_order a_.1 a_.2.1 a_.2.2 b_.1 b_.2.1 b_.2.2) o60).bind fun y162 => ((z_slices_CompactFunc y162).bind fun y170 => some (N_, y170.1, Er.nil)))))) else (some (0, [], y29)))

noncomputable def z_normal_Reverse_l0 (Arcs : List (Int × Int × Int)) (i0 : Int) (c1 : List (Int × Int × Int)) : Option ((Int × List (Int × Int × Int)) ⊕ (List (Int × Int × Int))) :=
  if i0 < (Arcs.length : Int) then (G (0 ≤ i0) (G (c1.length + 1 ≤ 5864062014549) (G ((i0 + 1) ≤ 9223372036854775807) (some (Sum.inl ((i0 + 1), (c1 ++ [((gt Arcs i0).2.1, (gt Arcs i0).1, (gt Arcs i0).2.2)]))))))) else (some (Sum.inr c1))
noncomputable def z_normal_Reverse (N_ : Int) (Arcs : List (Int × Int × Int)) : Option (Int × List (Int × Int × Int) × Er) :=
  ((z_gtext_Check N_ Arcs).bind fun y29 => if y29 = Er.nil then (((loopO (fun zz_ => z_normal_Reverse_l0 Arcs zz_.1 zz_.2) (0, [])).bind fun o60 => some (N_, o60, Er.nil))) else (some (0, [], y29)))

noncomputable def z_viaductref04_Distances_l0 (N_ : Int) (i2 : Int) (d3 : List (List (Int))) (d0 : List (List (Int))) (i1 : Int) : Option ((List (List (Int)) × Int) ⊕ (List (List (Int)))) :=
  if i1 < ((gt (d3.set i2.toNat (List.replicate N_.toNat (0 : Int))) i2).length : Int) then (if i2 = i1 then (G (-9223372036854775808 ≤ (i1 + 1) ∧ (i1 + 1) ≤ 9223372036854775807) (some (Sum.inl (d0, (i1 + 1))))) else (G (i2 < (d0.length : Int)) (G (0 ≤ i1 ∧ i1 < ((gt d0 i2).length : Int)) (G ((i1 + 1) ≤ 9223372036854775807) (some (Sum.inl ((d0.set i2.toNat ((gt d0 i2).set i1.toNat 18446744073709551615)), (i1 + 1)))))))) else (some (Sum.inr d0))
noncomputable def z_viaductref04_Distances_l1 (N_ : Int) (i2 : Int) (d3 : List (List (Int))) : Option ((Int × List (List (Int))) ⊕ (List (List (Int)))) :=
  if i2 < ((List.replicate N_.toNat ([] : List (Int))).length : Int) then (G (0 ≤ N_ ∧ 8 * N_ ≤ 281474976710656) (G (0 ≤ i2 ∧ i2 < (d3.length : Int)) (G (i2 < ((d3.set i2.toNat (List.replicate N_.toNat (0 : Int))).length : Int)) (((loopO (fun zz_ => z_viaductref04_Distances_l0 N_ i2 d3 zz_.1 zz_.2) ((d3.set i2.toNat (List.replicate N_.toNat (0 : Int))), 0)).bind fun o101 => G ((i2 + 1) ≤ 9223372036854775807) (some (Sum.inl ((i2 + 1), o101)))))))) else (some (Sum.inr d3))
noncomputable def z_viaductref04_Distances_l2 (Arcs : List (Int × Int × Int)) (d4 : List (List (Int))) (i5 : Int) : Option ((List (List (Int)) × Int) ⊕ (List (List (Int)))) :=
  if i5 < (Arcs.length : Int) then (G (0 ≤ i5) (G (0 ≤ (gt Arcs i5).1 ∧ (gt Arcs i5).1 < (d4.length : Int)) (G (0 ≤ (gt Arcs i5).2.1 ∧ (gt Arcs i5).2.1 < ((gt d4 ((gt Arcs i5).1)).length : Int)) (G (0 ≤ (gt Arcs i5).2.2 ∧ (gt Arcs i5).2.2 ≤ 18446744073709551615) (G ((i5 + 1) ≤ 9223372036854775807) (some (Sum.inl ((d4.set ((gt Arcs i5).1).toNat ((gt d4 ((gt Arcs i5).1)).set ((gt Arcs i5).2.1).toNat (min (gt (gt d4 ((gt Arcs i5).1)) ((gt Arcs i5).2.1)) ((gt Arcs i5).2.2)))), (i5 + 1))))))))) else (some (Sum.inr d4))
noncomputable def z_viaductref04_Distances_l3 (i11 : Int) (d8 : List (List (Int))) (i9 : Int) (d6 : List (List (Int))) (i7 : Int) : Option ((List (List (Int)) × Int) ⊕ (List (List (Int)))) :=
  if i7 < (d8.length : Int) then (((G (0 ≤ i9 ∧ i9 < (d6.length : Int)) (G (0 ≤ i11 ∧ i11 < ((gt d6 i9).length : Int)) (if (gt (gt d6 i9) i11) = 18446744073709551615 then (some false) else (G (i11 < (d6.length : Int)) (G (0 ≤ i7 ∧ i7 < ((gt d6 i11).length : Int)) (some (!decide ((gt (gt d6 i11) i7) = 18446744073709551615))))))) : Option (Bool)).bind fun o345 => if o345 = true then (G (0 ≤ i9 ∧ i9 < (d6.length : Int)) (G (0 ≤ i7 ∧ i7 < ((gt d6 i9).length : Int)) (G (0 ≤ i11 ∧ i11 < ((gt d6 i9).length : Int)) (G (i11 < (d6.length : Int)) (G (i7 < ((gt d6 i11).length : Int)) (G (0 ≤ ((gt (gt d6 i9) i11) + (gt (gt d6 i11) i7)) ∧ ((gt (gt d6 i9) i11) + (gt (gt d6 i11) i7)) ≤ 18446744073709551615) (G ((i7 + 1) ≤ 9223372036854775807) (some (Sum.inl ((d6.set i9.toNat ((gt d6 i9).set i7.toNat (min (gt (gt d6 i9) i7) ((gt (gt d6 i9) i11) + (gt (gt d6 i11) i7))))), (i7 + 1))))))))))) else (G (-9223372036854775808 ≤ (i7 + 1) ∧ (i7 + 1) ≤ 9223372036854775807) (some (Sum.inl (d6, (i7 + 1))))))) else (some (Sum.inr d6))
noncomputable def z_viaductref04_Distances_l4 (d10 : List (List (Int))) (i11 : Int) (d8 : List (List (Int))) (i9 : Int) : Option ((List (List (Int)) × Int) ⊕ (List (List (Int)))) :=
  if i9 < (d10.length : Int) then (((loopO (fun zz_ => z_viaductref04_Distances_l3 i11 d8 i9 zz_.1 zz_.2) (d8, 0)).bind fun o316 => G (-9223372036854775808 ≤ (i9 + 1) ∧ (i9 + 1) ≤ 9223372036854775807) (some (Sum.inl (o316, (i9 + 1)))))) else (some (Sum.inr d8))
noncomputable def z_viaductref04_Distances_l5 (o170 : List (List (Int))) (d10 : List (List (Int))) (i11 : Int) : Option ((List (List (Int)) × Int) ⊕ (List (List (Int)))) :=
  if i11 < (o170.length : Int) then (((loopO (fun zz_ => z_viaductref04_Distances_l4 d10 i11 zz_.1 zz_.2) (d10, 0)).bind fun o287 => G (-9223372036854775808 ≤ (i11 + 1) ∧ (i11 + 1) ≤ 9223372036854775807) (some (Sum.inl (o287, (i11 + 1)))))) else (some (Sum.inr d10))
noncomputable def z_viaductref04_Distances (N_ : Int) (Arcs : List (Int × Int × Int)) : Option (List (List (Int))) :=
  G (0 ≤ N_ ∧ 24 * N_ ≤ 281474976710656) (((loopO (fun zz_ => z_viaductref04_Distances_l1 N_ zz_.1 zz_.2) (0, (List.replicate N_.toNat ([] : List (Int))))).bind fun o28 => ((loopO (fun zz_ => z_viaductref04_Distances_l2 Arcs zz_.1 zz_.2) (o28, 0)).bind fun o170 => ((loopO (fun zz_ => z_viaductref04_Distances_l5 o170 zz_.1 zz_.2) (o170, 0)).bind fun o258 => some o258))))

noncomputable def z_viaductref04_SameRow_l0 (a : List (Int)) (b : List (Int)) (i0 : Int) : Option ((Int) ⊕ ((Bool) ⊕ (Unit))) :=
  if i0 < (a.length : Int) then (G (0 ≤ i0) (G (i0 < (b.length : Int)) (if (gt a i0) = (gt b i0) then (G ((i0 + 1) ≤ 9223372036854775807) (some (Sum.inl (i0 + 1)))) else ((some false).map fun v => Sum.inr (Sum.inl v))))) else (some (Sum.inr (Sum.inr ())))
noncomputable def z_viaductref04_SameRow (a : List (Int)) (b : List (Int)) : Option (Bool) :=
  if (a.length : Int) = (b.length : Int) then (((loopO (fun zz_ => z_viaductref04_SameRow_l0 a b zz_) 0).bind (Sum.elim some fun o10 => some true))) else (some false)

noncomputable def z_viaductref04_SameMatrix_l0 (a : List (List (Int))) (b : List (List (Int))) (i0 : Int) : Option ((Int) ⊕ ((Bool) ⊕ (Unit))) :=
  if i0 < (a.length : Int) then (G (0 ≤ i0) (G (i0 < (b.length : Int)) (((z_viaductref04_SameRow (gt a i0) (gt b i0)).bind fun y68 => if (!y68) = true then ((some false).map fun v => Sum.inr (Sum.inl v)) else (G ((i0 + 1) ≤ 9223372036854775807) (some (Sum.inl (i0 + 1)))))))) else (some (Sum.inr (Sum.inr ())))
noncomputable def z_viaductref04_SameMatrix (a : List (List (Int))) (b : List (List (Int))) : Option (Bool) :=
  if (a.length : Int) = (b.length : Int) then (((loopO (fun zz_ => z_viaductref04_SameMatrix_l0 a b zz_) 0).bind (Sum.elim some fun o10 => some true))) else (some false)

noncomputable def z_slices_Grow (n_ : Int) : Option (List (Int × Int × Int)) :=
  if n_ < 0 then (none) else (G (-9223372036854775808 ≤ (n_ - 0) ∧ (n_ - 0) ≤ 9223372036854775807) (if (n_ - 0) > 0 then (G (0 ≤ (n_ - 0) ∧ (n_ - 0) ≤ 5864062014549) (G (0 ≤ 0 ∧ 0 ≤ (([] ++ List.replicate (n_ - 0).toNat ((0, 0, 0) : Int × Int × Int)).length : Int)) (some (([] ++ List.replicate (n_ - 0).toNat ((0, 0, 0) : Int × Int × Int)).take (0 : Int).toNat)))) else (some [])))

noncomputable def z_slices_Concat (slices_ : List (Int × Int × Int)) (slices_2 : List (Int × Int × Int)) : Option (List (Int × Int × Int)) :=
  G (-9223372036854775808 ≤ (0 + (slices_.length : Int)) ∧ (0 + (slices_.length : Int)) ≤ 9223372036854775807) (if (0 + (slices_.length : Int)) < 0 then (none) else (G (-9223372036854775808 ≤ ((0 + (slices_.length : Int)) + (slices_2.length : Int)) ∧ ((0 + (slices_.length : Int)) + (slices_2.length : Int)) ≤ 9223372036854775807) (if ((0 + (slices_.length : Int)) + (slices_2.length : Int)) < 0 then (none) else (((z_slices_Grow ((0 + (slices_.length : Int)) + (slices_2.length : Int))).bind fun y35 => G (y35.length + slices_.length ≤ 5864062014549) (G ((y35 ++ slices_).length + slices_2.length ≤ 5864062014549) (some ((y35 ++ slices_) ++ slices_2))))))))

noncomputable def z_normal_Merge (N_ : Int) (Arcs : List (Int × Int × Int)) (N_2 : Int) (Arcs_ : List (Int × Int × Int)) : Option (Int × List (Int × Int × Int) × Er) :=
  ((z_gtext_Check N_ Arcs).bind fun y35 => if y35 = Er.nil then (((z_gtext_Check N_2 Arcs_).bind fun y53 => if y53 = Er.nil then (if N_ = N_2 then (G (-9223372036854775808 ≤ ((Arcs.length : Int) + (Arcs_.length : Int)) ∧ ((Arcs.length : Int) + (Arcs_.length : Int)) ≤ 9223372036854775807) (if ((Arcs.length : Int) + (Arcs_.length : Int)) > 262144 then (some (0, [], (Er.no 9))) else (((z_slices_Concat Arcs Arcs_).bind fun y110 => some (N_, y110, Er.nil))))) else (some (0, [], (Er.no 1)))) else (some (0, [], y53)))) else (some (0, [], y35)))

noncomputable def z_viaductref04_less (From : Int) (To : Int) (Weight : Int) (From_ : Int) (To_ : Int) (Weight_ : Int) : Option (Bool) :=
  if From < From_ then (some true) else (if From = From_ then (some (decide (To < To_))) else (some false))

noncomputable def z_viaductref04_Put_l0 (l : List (Int × Int × Int)) (From : Int) (To : Int) (Weight : Int) (i0 : Int) : Option ((Int) ⊕ (Int)) :=
  if i0 < (l.length : Int) then (G (0 ≤ i0) (((z_viaductref04_less ((gt l i0).1) ((gt l i0).2.1) ((gt l i0).2.2) From To Weight).bind fun y41 => if y41 = true then (G ((i0 + 1) ≤ 9223372036854775807) (some (Sum.inl (i0 + 1)))) else (some (Sum.inr i0))))) else (some (Sum.inr i0))
noncomputable def z_viaductref04_Put (l : List (Int × Int × Int)) (From : Int) (To : Int) (Weight : Int) : Option (List (Int × Int × Int)) :=
  ((loopO (fun zz_ => z_viaductref04_Put_l0 l From To Weight zz_) 0).bind fun o15 => G (0 ≤ o15 ∧ o15 ≤ (l.length : Int)) (G (0 + ((l.take o15.toNat).drop 0).length ≤ 5864062014549) (((if o15 < (l.length : Int) then (G (0 ≤ o15) (if ((gt l o15).1) = From then (some (decide (((gt l o15).2.1) = To))) else (some false))) else (some false) : Option (Bool)).bind fun o79 => if o79 = true then (G (0 ≤ o15 ∧ o15 < (l.length : Int)) (G (([] ++ ((l.take o15.toNat).drop 0)).length + 1 ≤ 5864062014549) (G ((o15 + 1) ≤ 9223372036854775807) (G (0 ≤ (o15 + 1) ∧ (o15 + 1) ≤ (l.length : Int)) (G ((([] ++ ((l.take o15.toNat).drop 0)) ++ [(From, To, (min Weight ((gt l o15).2.2)))]).length + ((l.take l.length).drop (o15 + 1).toNat).length ≤ 5864062014549) (some ((([] ++ ((l.take o15.toNat).drop 0)) ++ [(From, To, (min Weight ((gt l o15).2.2)))]) ++ ((l.take l.length).drop (o15 + 1).toNat)))))))) else (G (([] ++ ((l.take o15.toNat).drop 0)).length + 1 ≤ 5864062014549) (G ((([] ++ ((l.take o15.toNat).drop 0)) ++ [(From, To, Weight)]).length + ((l.take l.length).drop o15.toNat).length ≤ 5864062014549) (some ((([] ++ ((l.take o15.toNat).drop 0)) ++ [(From, To, Weight)]) ++ ((l.take l.length).drop o15.toNat)))))))))

noncomputable def z_viaductref03_SameArcs_l0 (a : List (Int × Int × Int)) (b : List (Int × Int × Int)) (i0 : Int) : Option ((Int) ⊕ ((Bool) ⊕ (Unit))) :=
  if i0 < (a.length : Int) then (G (0 ≤ i0) (G (i0 < (b.length : Int)) (if ((gt a i0).1) = ((gt b i0).1) ∧ ((gt a i0).2.1) = ((gt b i0).2.1) ∧ ((gt a i0).2.2) = ((gt b i0).2.2) then (G ((i0 + 1) ≤ 9223372036854775807) (some (Sum.inl (i0 + 1)))) else ((some false).map fun v => Sum.inr (Sum.inl v))))) else (some (Sum.inr (Sum.inr ())))
noncomputable def z_viaductref03_SameArcs (a : List (Int × Int × Int)) (b : List (Int × Int × Int)) : Option (Bool) :=
  if (a.length : Int) = (b.length : Int) then (((loopO (fun zz_ => z_viaductref03_SameArcs_l0 a b zz_) 0).bind (Sum.elim some fun o10 => some true))) else (some false)

noncomputable def z_viaductlaw04_NormalDistances_l0 (y187 : List (List (Int))) (y202 : List (List (Int))) (i1 : Int) (i0 : Int) : Option ((Int) ⊕ (((Int) ⊕ ((Bool) ⊕ (Unit))) ⊕ (Unit))) :=
  if i0 < (y187.length : Int) then (G (0 ≤ i1) (G (0 ≤ i0 ∧ i0 < ((gt y187 i1).length : Int)) (G (i0 < (y202.length : Int)) (G (i1 < ((gt y202 i0).length : Int)) (if (gt (gt y187 i1) i0) = (gt (gt y202 i0) i1) then (G ((i0 + 1) ≤ 9223372036854775807) (some (Sum.inl (i0 + 1)))) else (((some false).map fun v => Sum.inr (Sum.inl v)).map fun v => Sum.inr (Sum.inl v))))))) else (some (Sum.inr (Sum.inr ())))
noncomputable def z_viaductlaw04_NormalDistances_l1 (y187 : List (List (Int))) (y202 : List (List (Int))) (i1 : Int) : Option ((Int) ⊕ ((Bool) ⊕ (Unit))) :=
  if i1 < (y187.length : Int) then (((loopO (fun zz_ => z_viaductlaw04_NormalDistances_l0 y187 y202 i1 zz_) 0).bind (Sum.elim some fun o284 => G (-9223372036854775808 ≤ (i1 + 1) ∧ (i1 + 1) ≤ 9223372036854775807) (some (Sum.inl (i1 + 1)))))) else (some (Sum.inr (Sum.inr ())))
noncomputable def z_viaductlaw04_NormalDistances_l2 (y445 : Int × List (Int × Int × Int) × Er) (i2 : Int) (both3 : List (Int × Int × Int)) : Option ((Int × List (Int × Int × Int)) ⊕ (List (Int × Int × Int))) :=
  if i2 < (y445.2.1.length : Int) then (G (0 ≤ i2) (((z_viaductref04_Put both3 ((gt y445.2.1 i2).1) ((gt y445.2.1 i2).2.1) ((gt y445.2.1 i2).2.2)).bind fun y578 => G ((i2 + 1) ≤ 9223372036854775807) (some (Sum.inl ((i2 + 1), y578)))))) else (some (Sum.inr both3))
noncomputable def z_viaductlaw04_NormalDistances (N_ : Int) (Arcs : List (Int × Int × Int)) (N_2 : Int) (Arcs_ : List (Int × Int × Int)) : Option (Bool) :=
  ((((z_viaductref04_Few N_ Arcs 12).bind fun y28 => if y28 = true then (((z_viaductref04_Few N_2 Arcs_ 12).bind fun y38 => if y38 = true then (((z_viaductlaw04_great N_ Arcs).bind fun y48 => if y48 = true then (some true) else (((z_viaductlaw04_great N_2 Arcs_).bind fun y60 => some y60)))) else (some true))) else (some true)) : Option (Bool)).bind fun o19 => if o19 = true then (some true) else (((z_normal_Of N_ Arcs).bind fun y76 => ((z_normal_Reverse N_ Arcs).bind fun y109 => ((if y76.2.2 = Er.nil then (if y109.2.2 = Er.nil then (((z_viaductref04_Few y76.1 y76.2.1 12).bind fun y160 => if y160 = true then (((z_viaductref04_Few y109.1 y109.2.1 12).bind fun y170 => some (!y170))) else (some true))) else (some true)) else (some true) : Option (Bool)).bind fun o141 => if o141 = true then (some false) else (((z_viaductref04_Distances N_ Arcs).bind fun y187 => ((z_viaductref04_Distances y109.1 y109.2.1).bind fun y202 => ((((z_viaductref04_Distances y76.1 y76.2.1).bind fun y226 => ((z_viaductref04_SameMatrix y187 y226).bind fun y240 => if y240 = true then (some (!decide ((y202.length : Int) = (y187.length : Int)))) else (some true))) : Option (Bool)).bind fun o217 => if o217 = true then (some false) else (((loopO (fun zz_ => z_viaductlaw04_NormalDistances_l1 y187 y202 zz_) 0).bind (Sum.elim some fun o258 => ((z_normal_Merge N_ Arcs N_2 Arcs_).bind fun y372 => if N_ = N_2 then (((z_normal_Of y372.1 y372.2.1).bind fun y418 => ((z_normal_Of N_2 Arcs_).bind fun y445 => ((if y372.2.2 = Er.nil then (if y418.2.2 = Er.nil then (if y445.2.2 = Er.nil then (some false) else (some true)) else (some true)) else (some true) : Option (Bool)).bind fun o477 => if o477 = true then (some false) else (G (0 + y76.2.1.length ≤ 5864062014549) (((loopO (fun zz_ => z_viaductlaw04_NormalDistances_l2 y445 zz_.1 zz_.2) (0, ([] ++ y76.2.1))).bind fun o527 => ((z_viaductref03_SameArcs y418.2.1 o527).bind fun y600 => some y600)))))))) else (if y372.2.2 = Er.nil then (some false) else (some true)))))))))))))))

end Go.Vd
