/- What the functions come to, as plain functions (printed by a program of ours). -/
import Derived.Test.YtccnpeeakadnoaaVpA
import Derived.Test.YtccnpeeakadnoaaSo0
set_option maxRecDepth 100000
set_option linter.unusedVariables false
namespace Go.Vd
def enc_i64_i64 (x : Int × Int) : List Value := [.int .i64 x.1, .int .i64 x.2]
def enc_i64_i64_i64 (x : Int × Int × Int) : List Value := [.int .i64 x.1, .int .i64 x.2.1, .int .i64 x.2.2]


noncomputable def z_viaductlaw04_great (N_ : Int) (Arcs : List (Int × Int × Int)) : Option (Bool) :=
  if (Arcs.length : Int) > 3000 then (some (decide ((Arcs.length : Int) ≤ 262144))) else (some false)

noncomputable def z_viaductref03_Spare (N_ : Int) (Arcs : List (Int × Int × Int)) : Option (Int × List (Int × Int × Int) × List (Int × Int × Int)) :=
  G (((Arcs.length : Int) + 2) ≤ 9223372036854775807) (G ((0 : Int) ≤ 0 ∧ 0 ≤ ((Arcs.length : Int) + 2) ∧ 24 * ((Arcs.length : Int) + 2) ≤ 281474976710656) (G ((List.replicate (0 : Int).toNat ((0, 0, 0) : Int × Int × Int)).length + Arcs.length ≤ ((Arcs.length : Int) + 2).toNat) (G (((List.replicate (0 : Int).toNat ((0, 0, 0) : Int × Int × Int)) ++ Arcs).length + [(41, 0, 0), (42, 0, 0)].length ≤ ((Arcs.length : Int) + 2).toNat) (G (0 ≤ (Arcs.length : Int) ∧ (Arcs.length : Int) ≤ ((((List.replicate (0 : Int).toNat ((0, 0, 0) : Int × Int × Int)) ++ Arcs) ++ [(41, 0, 0), (42, 0, 0)]).length : Int)) (some (N_, ((((List.replicate (0 : Int).toNat ((0, 0, 0) : Int × Int × Int)) ++ Arcs) ++ [(41, 0, 0), (42, 0, 0)]).take Arcs.length), (((List.replicate (0 : Int).toNat ((0, 0, 0) : Int × Int × Int)) ++ Arcs) ++ [(41, 0, 0), (42, 0, 0)])))))))

noncomputable def z_gtext_within (x : Int) (n_ : Int) : Option (Bool) :=
  if x ≥ 0 then (some (decide (x < n_))) else (some false)

noncomputable def z_gtext_arc (From : Int) (To : Int) (Weight : Int) (n_ : Int) : Option (Er) :=
  ((((z_gtext_within From n_).bind fun y22 => if y22 = true then (((z_gtext_within To n_).bind fun y30 => some (!y30))) else (some true)) : Option (Bool)).bind fun o15 => if o15 = true then (some (Er.no 7)) else (if Weight < 0 then (some (Er.no 8)) else (if Weight > 2147483647 then (some (Er.no 8)) else (some Er.nil))))

noncomputable def z_fault_At (kind : Int) (at_ : Int) (err : Er) : Option (Er) :=
  if err = Er.nil then (some Er.nil) else (some (Er.at kind at_ err))

noncomputable def z_gtext_Check_l0 (N_ : Int) (Arcs : List (Int × Int × Int)) (i0 : Int) : Option ((Int) ⊕ ((Er) ⊕ (Unit))) :=
  if i0 < (Arcs.length : Int) then (G (0 ≤ i0) (((z_gtext_arc ((gt Arcs i0).1) ((gt Arcs i0).2.1) ((gt Arcs i0).2.2) N_).bind fun y76 => if y76 = Er.nil then (G ((i0 + 1) ≤ 9223372036854775807) (some (Sum.inl (i0 + 1)))) else (((z_fault_At 4 i0 y76).bind fun y95 => (some y95).map fun v => Sum.inr (Sum.inl v)))))) else (some (Sum.inr (Sum.inr ())))
noncomputable def z_gtext_Check (N_ : Int) (Arcs : List (Int × Int × Int)) : Option (Er) :=
  ((if N_ < 0 then (some true) else (if N_ > 65536 then (some true) else (some (decide ((Arcs.length : Int) > 262144)))) : Option (Bool)).bind fun o15 => if o15 = true then (some (Er.no 9)) else (((loopO (fun zz_ => z_gtext_Check_l0 N_ Arcs zz_) 0).bind (Sum.elim some fun o36 => some Er.nil))))

noncomputable def z_cmp_isNaN (x : Int) : Option (Bool) :=
  some (!decide (x = x))

noncomputable def z_cmp_Compare (x : Int) (y : Int) : Option (Int) :=
  ((z_cmp_isNaN x).bind fun y3 => ((z_cmp_isNaN y).bind fun y9 => if y3 = true then (if y9 = true then (some 0) else (some (-1))) else (if y9 = true then (some 1) else (if x < y then (some (-1)) else (if x > y then (some 1) else (some 0))))))

noncomputable def z_cmp_Or_l0 (vals : List (Int)) (i0 : Int) : Option ((Int) ⊕ ((Int) ⊕ (Unit))) :=
  if i0 < (vals.length : Int) then (G (0 ≤ i0) (if (gt vals i0) = 0 then (G ((i0 + 1) ≤ 9223372036854775807) (some (Sum.inl (i0 + 1)))) else ((some (gt vals i0)).map fun v => Sum.inr (Sum.inl v)))) else (some (Sum.inr (Sum.inr ())))
noncomputable def z_cmp_Or (vals : List (Int)) : Option (Int) :=
  ((loopO (fun zz_ => z_cmp_Or_l0 vals zz_) 0).bind (Sum.elim some fun o5 => some 0))

noncomputable def z_normal_order (From : Int) (To : Int) (Weight : Int) (From_ : Int) (To_ : Int) (Weight_ : Int) : Option (Int) :=
  ((z_cmp_Compare From From_).bind fun y16 => ((z_cmp_Compare To To_).bind fun y21 => ((z_cmp_Compare Weight Weight_).bind fun y26 => ((z_cmp_Or [y16, y21, y26]).bind fun y41 => some y41))))

noncomputable def z_normal_Of_1 (From : Int) (To : Int) (Weight : Int) (From_ : Int) (To_ : Int) (Weight_ : Int) : Option (Bool) :=
  if From = From_ then (some (decide (To = To_))) else (some false)

noncomputable def z_slices_CompactFunc_l0 (k3 : Int) (s0 : List (Int × Int × Int)) (k1 : Int) (k22 : Int) : Option ((List (Int × Int × Int) × Int × Int) ⊕ (List (Int × Int × Int) × Int)) :=
  if k22 < ((s0.drop k3.toNat).length : Int) then (G (0 ≤ k22) (G (-9223372036854775808 ≤ (k22 - 1) ∧ (k22 - 1) ≤ 9223372036854775807) (G (0 ≤ (k22 - 1) ∧ (k22 - 1) < ((s0.drop k3.toNat).length : Int)) (((z_normal_Of_1 ((gt (s0.drop k3.toNat) k22).1) ((gt (s0.drop k3.toNat) k22).2.1) ((gt (s0.drop k3.toNat) k22).2.2) ((gt (s0.drop k3.toNat) (k22 - 1)).1) ((gt (s0.drop k3.toNat) (k22 - 1)).2.1) ((gt (s0.drop k3.toNat) (k22 - 1)).2.2)).bind fun y109 => if (!y109) = true then (G (0 ≤ k1 ∧ k1 < (s0.length : Int)) (G ((k1 + 1) ≤ 9223372036854775807) (G ((k22 + 1) ≤ 9223372036854775807) (some (Sum.inl ((s0.set k1.toNat ((gt (s0.drop k3.toNat) k22).1, (gt (s0.drop k3.toNat) k22).2.1, (gt (s0.drop k3.toNat) k22).2.2)), (k1 + 1), (k22 + 1))))))) else (G ((k22 + 1) ≤ 9223372036854775807) (some (Sum.inl (s0, k1, (k22 + 1)))))))))) else (some (Sum.inr (s0, k1)))
noncomputable def z_slices_CompactFunc_l1 (s : List (Int × Int × Int)) (k3 : Int) : Option ((Int) ⊕ ((List (Int × Int × Int) × List (Int × Int × Int)) ⊕ (Unit))) :=
  if k3 < (s.length : Int) then (G (0 ≤ k3) (G (-9223372036854775808 ≤ (k3 - 1) ∧ (k3 - 1) ≤ 9223372036854775807) (G (0 ≤ (k3 - 1) ∧ (k3 - 1) < (s.length : Int)) (((z_normal_Of_1 ((gt s k3).1) ((gt s k3).2.1) ((gt s k3).2.2) ((gt s (k3 - 1)).1) ((gt s (k3 - 1)).2.1) ((gt s (k3 - 1)).2.2)).bind fun y47 => if y47 = true then (G (0 ≤ k3 ∧ k3 ≤ (s.length : Int)) (((loopO (fun zz_ => z_slices_CompactFunc_l0 k3 zz_.1 zz_.2.1 zz_.2.2) (s, k3, 1)).bind fun o66 => G (0 ≤ o66.2 ∧ o66.2 ≤ (o66.1.length : Int)) (G ((0 : Int) < (o66.1.length : Int)) (G (0 ≤ o66.2 ∧ o66.2 ≤ ((o66.1.take o66.2.toNat ++ List.replicate (o66.1.length - o66.2.toNat) ((0, 0, 0) : Int × Int × Int)).length : Int)) ((some (((o66.1.take o66.2.toNat ++ List.replicate (o66.1.length - o66.2.toNat) ((0, 0, 0) : Int × Int × Int)).take o66.2.toNat), (o66.1.take o66.2.toNat ++ List.replicate (o66.1.length - o66.2.toNat) ((0, 0, 0) : Int × Int × Int)))).map fun v => Sum.inr (Sum.inl v))))))) else (G ((k3 + 1) ≤ 9223372036854775807) (some (Sum.inl (k3 + 1))))))))) else (some (Sum.inr (Sum.inr ())))
noncomputable def z_slices_CompactFunc (s : List (Int × Int × Int)) : Option (List (Int × Int × Int) × List (Int × Int × Int)) :=
  if (s.length : Int) < 2 then (some (s, s)) else (((loopO (fun zz_ => z_slices_CompactFunc_l1 s zz_) 1).bind (Sum.elim some fun o15 => some (s, s))))

noncomputable def z_normal_Of_l0 (Arcs : List (Int × Int × Int)) (i0 : Int) (c1 : List (Int × Int × Int)) : Option ((Int × List (Int × Int × Int)) ⊕ (List (Int × Int × Int))) :=
  if i0 < (Arcs.length : Int) then (G (0 ≤ i0) (if ((gt Arcs i0).1) = ((gt Arcs i0).2.1) then (G ((i0 + 1) ≤ 9223372036854775807) (some (Sum.inl ((i0 + 1), c1)))) else (G (c1.length + 1 ≤ 9382499223278) (G ((i0 + 1) ≤ 9223372036854775807) (some (Sum.inl ((i0 + 1), (c1 ++ [((gt Arcs i0).1, (gt Arcs i0).2.1, (gt Arcs i0).2.2)])))))))) else (some (Sum.inr c1))
noncomputable def z_normal_Of (N_ : Int) (Arcs : List (Int × Int × Int)) : Option (Int × List (Int × Int × Int) × Er) :=
  ((z_gtext_Check N_ Arcs).bind fun y29 => if y29 = Er.nil then (((loopO (fun zz_ => z_normal_Of_l0 Arcs zz_.1 zz_.2) (0, [])).bind fun o60 => G (o60.length ≤ 1000000000000) (((sortO (fun (a_ b_ : Int × Int × Int) => z_normal_order a_.1 a_.2.1 a_.2.2 b_.1 b_.2.1 b_.2.2) o60).bind fun y162 => ((z_slices_CompactFunc y162).bind fun y170 => some (N_, y170.1, Er.nil)))))) else (some (0, [], y29)))

noncomputable def z_normal_Reverse_l0 (Arcs : List (Int × Int × Int)) (i0 : Int) (c1 : List (Int × Int × Int)) : Option ((Int × List (Int × Int × Int)) ⊕ (List (Int × Int × Int))) :=
  if i0 < (Arcs.length : Int) then (G (0 ≤ i0) (G (c1.length + 1 ≤ 9382499223278) (G ((i0 + 1) ≤ 9223372036854775807) (some (Sum.inl ((i0 + 1), (c1 ++ [((gt Arcs i0).2.1, (gt Arcs i0).1, (gt Arcs i0).2.2)]))))))) else (some (Sum.inr c1))
noncomputable def z_normal_Reverse (N_ : Int) (Arcs : List (Int × Int × Int)) : Option (Int × List (Int × Int × Int) × Er) :=
  ((z_gtext_Check N_ Arcs).bind fun y29 => if y29 = Er.nil then (((loopO (fun zz_ => z_normal_Reverse_l0 Arcs zz_.1 zz_.2) (0, [])).bind fun o60 => some (N_, o60, Er.nil))) else (some (0, [], y29)))

noncomputable def z_slices_Grow (n_ : Int) : Option (List (Int × Int × Int)) :=
  if n_ < 0 then (none) else (G (-9223372036854775808 ≤ (n_ - 0) ∧ (n_ - 0) ≤ 9223372036854775807) (if (n_ - 0) > 0 then (G (0 ≤ (n_ - 0) ∧ (n_ - 0) ≤ 9382499223278) (G (0 ≤ 0 ∧ 0 ≤ (([] ++ List.replicate (n_ - 0).toNat ((0, 0, 0) : Int × Int × Int)).length : Int)) (some (([] ++ List.replicate (n_ - 0).toNat ((0, 0, 0) : Int × Int × Int)).take (0 : Int).toNat)))) else (some [])))

noncomputable def z_slices_Concat (slices_ : List (Int × Int × Int)) : Option (List (Int × Int × Int)) :=
  G (-9223372036854775808 ≤ (0 + (slices_.length : Int)) ∧ (0 + (slices_.length : Int)) ≤ 9223372036854775807) (if (0 + (slices_.length : Int)) < 0 then (none) else (G (-9223372036854775808 ≤ ((0 + (slices_.length : Int)) + (slices_.length : Int)) ∧ ((0 + (slices_.length : Int)) + (slices_.length : Int)) ≤ 9223372036854775807) (if ((0 + (slices_.length : Int)) + (slices_.length : Int)) < 0 then (none) else (((z_slices_Grow ((0 + (slices_.length : Int)) + (slices_.length : Int))).bind fun y35 => G (y35.length + slices_.length ≤ 9382499223278) (G ((y35 ++ slices_).length + slices_.length ≤ 9382499223278) (some ((y35 ++ slices_) ++ slices_))))))))

noncomputable def z_normal_Merge (N_ : Int) (Arcs : List (Int × Int × Int)) (N_2 : Int) : Option (Int × List (Int × Int × Int) × Er) :=
  ((z_gtext_Check N_ Arcs).bind fun y35 => if y35 = Er.nil then (((z_gtext_Check N_2 Arcs).bind fun y53 => if y53 = Er.nil then (if N_ = N_2 then (G (-9223372036854775808 ≤ ((Arcs.length : Int) + (Arcs.length : Int)) ∧ ((Arcs.length : Int) + (Arcs.length : Int)) ≤ 9223372036854775807) (if ((Arcs.length : Int) + (Arcs.length : Int)) > 262144 then (some (0, [], (Er.no 9))) else (((z_slices_Concat Arcs).bind fun y105 => some (N_, y105, Er.nil))))) else (some (0, [], (Er.no 1)))) else (some (0, [], y53)))) else (some (0, [], y35)))

noncomputable def z_slices_Equal_l0 (s1 : List (Int × Int × Int)) (s2 : List (Int × Int × Int)) (i0 : Int) : Option ((Int) ⊕ ((Bool) ⊕ (Unit))) :=
  if i0 < (s1.length : Int) then (G (0 ≤ i0) (G (i0 < (s2.length : Int)) (if ((gt s1 i0).1) = ((gt s2 i0).1) ∧ ((gt s1 i0).2.1) = ((gt s2 i0).2.1) ∧ ((gt s1 i0).2.2) = ((gt s2 i0).2.2) then (G ((i0 + 1) ≤ 9223372036854775807) (some (Sum.inl (i0 + 1)))) else ((some false).map fun v => Sum.inr (Sum.inl v))))) else (some (Sum.inr (Sum.inr ())))
noncomputable def z_slices_Equal (s1 : List (Int × Int × Int)) (s2 : List (Int × Int × Int)) : Option (Bool) :=
  if (s1.length : Int) = (s2.length : Int) then (((loopO (fun zz_ => z_slices_Equal_l0 s1 s2 zz_) 0).bind (Sum.elim some fun o10 => some true))) else (some false)

noncomputable def z_normal_Is (N_ : Int) (Arcs : List (Int × Int × Int)) : Option (Bool × Er) :=
  ((z_normal_Of N_ Arcs).bind fun y15 => if y15.2.2 = Er.nil then (((z_slices_Equal y15.2.1 Arcs).bind fun y54 => some (y54, Er.nil))) else (some (false, y15.2.2)))

noncomputable def z_normal_Degrees_l0 (Arcs : List (Int × Int × Int)) (i0 : Int) (out1 : List (Int)) (in2 : List (Int)) : Option ((Int × List (Int) × List (Int)) ⊕ (List (Int) × List (Int))) :=
  if i0 < (Arcs.length : Int) then (G (0 ≤ i0) (G (0 ≤ (gt Arcs i0).1 ∧ (gt Arcs i0).1 < (out1.length : Int)) (G (-9223372036854775808 ≤ ((gt out1 ((gt Arcs i0).1)) + 1) ∧ ((gt out1 ((gt Arcs i0).1)) + 1) ≤ 9223372036854775807) (G (0 ≤ (gt Arcs i0).2.1 ∧ (gt Arcs i0).2.1 < (in2.length : Int)) (G (-9223372036854775808 ≤ ((gt in2 ((gt Arcs i0).2.1)) + 1) ∧ ((gt in2 ((gt Arcs i0).2.1)) + 1) ≤ 9223372036854775807) (G ((i0 + 1) ≤ 9223372036854775807) (some (Sum.inl ((i0 + 1), (out1.set ((gt Arcs i0).1).toNat ((gt out1 ((gt Arcs i0).1)) + 1)), (in2.set ((gt Arcs i0).2.1).toNat ((gt in2 ((gt Arcs i0).2.1)) + 1))))))))))) else (some (Sum.inr (out1, in2)))
noncomputable def z_normal_Degrees (N_ : Int) (Arcs : List (Int × Int × Int)) : Option (List (Int) × List (Int) × Er) :=
  ((z_gtext_Check N_ Arcs).bind fun y29 => if y29 = Er.nil then (G (0 ≤ N_ ∧ 8 * N_ ≤ 281474976710656) (((loopO (fun zz_ => z_normal_Degrees_l0 Arcs zz_.1 zz_.2.1 zz_.2.2) (0, (List.replicate N_.toNat (0 : Int)), (List.replicate N_.toNat (0 : Int)))).bind fun o73 => some (o73.1, o73.2, Er.nil)))) else (some ([], [], y29)))

noncomputable def z_viaductref03_SameArcs_l0 (a : List (Int × Int × Int)) (b : List (Int × Int × Int)) (i0 : Int) : Option ((Int) ⊕ ((Bool) ⊕ (Unit))) :=
  if i0 < (a.length : Int) then (G (0 ≤ i0) (G (i0 < (b.length : Int)) (if ((gt a i0).1) = ((gt b i0).1) ∧ ((gt a i0).2.1) = ((gt b i0).2.1) ∧ ((gt a i0).2.2) = ((gt b i0).2.2) then (G ((i0 + 1) ≤ 9223372036854775807) (some (Sum.inl (i0 + 1)))) else ((some false).map fun v => Sum.inr (Sum.inl v))))) else (some (Sum.inr (Sum.inr ())))
noncomputable def z_viaductref03_SameArcs (a : List (Int × Int × Int)) (b : List (Int × Int × Int)) : Option (Bool) :=
  if (a.length : Int) = (b.length : Int) then (((loopO (fun zz_ => z_viaductref03_SameArcs_l0 a b zz_) 0).bind (Sum.elim some fun o10 => some true))) else (some false)

noncomputable def z_viaductref03_Kept (N_ : Int) (Arcs : List (Int × Int × Int)) (full : List (Int × Int × Int)) : Option (Bool) :=
  G (((Arcs.length : Int) + 2) ≤ 9223372036854775807) (if (full.length : Int) = ((Arcs.length : Int) + 2) then (G (0 ≤ (Arcs.length : Int) ∧ (Arcs.length : Int) ≤ (full.length : Int)) (((z_viaductref03_SameArcs ((full.take Arcs.length).drop 0) Arcs).bind fun y25 => if y25 = true then (G (0 ≤ (Arcs.length : Int) ∧ (Arcs.length : Int) < (full.length : Int)) (if ((gt full (Arcs.length : Int)).1) = 41 ∧ ((gt full (Arcs.length : Int)).2.1) = 0 ∧ ((gt full (Arcs.length : Int)).2.2) = 0 then (G (((Arcs.length : Int) + 1) ≤ 9223372036854775807) (G (0 ≤ ((Arcs.length : Int) + 1) ∧ ((Arcs.length : Int) + 1) < (full.length : Int)) (some (decide (((gt full ((Arcs.length : Int) + 1)).1) = 42 ∧ ((gt full ((Arcs.length : Int) + 1)).2.1) = 0 ∧ ((gt full ((Arcs.length : Int) + 1)).2.2) = 0))))) else (some false))) else (some false)))) else (some false))

noncomputable def z_viaductref01_E (n_ : Int) : Option (Int) :=
  some n_

noncomputable def z_viaductref01_At (kind : Int) (at_ : Int) (Code : Int) (Places : List (Int × Int)) : Option (Int × List (Int × Int)) :=
  G ([(kind, at_)].length + Places.length ≤ 14073748835123) (some (Code, ([(kind, at_)] ++ Places)))

noncomputable def z_viaductref03_DocCheck_l0 (N_ : Int) (Arcs : List (Int × Int × Int)) (i0 : Int) : Option ((Int) ⊕ ((Int × List (Int × Int)) ⊕ (Unit))) :=
  if i0 < (Arcs.length : Int) then (G (0 ≤ i0) (((if ((gt Arcs i0).1) < 0 then (some true) else (if ((gt Arcs i0).1) ≥ N_ then (some true) else (if ((gt Arcs i0).2.1) < 0 then (some true) else (some (decide (((gt Arcs i0).2.1) ≥ N_))))) : Option (Bool)).bind fun o94 => if o94 = true then (((z_viaductref01_E 7).bind fun y114 => ((z_viaductref01_At 4 i0 y114 []).bind fun y119 => (some (y119.1, y119.2)).map fun v => Sum.inr (Sum.inl v)))) else (((if ((gt Arcs i0).2.2) < 0 then (some true) else (some (decide (((gt Arcs i0).2.2) > 2147483647))) : Option (Bool)).bind fun o144 => if o144 = true then (((z_viaductref01_E 8).bind fun y157 => ((z_viaductref01_At 4 i0 y157 []).bind fun y162 => (some (y162.1, y162.2)).map fun v => Sum.inr (Sum.inl v)))) else (G ((i0 + 1) ≤ 9223372036854775807) (some (Sum.inl (i0 + 1))))))))) else (some (Sum.inr (Sum.inr ())))
noncomputable def z_viaductref03_DocCheck (N_ : Int) (Arcs : List (Int × Int × Int)) : Option (Int × List (Int × Int)) :=
  ((if N_ < 0 then (some true) else (if N_ > 65536 then (some true) else (some (decide ((Arcs.length : Int) > 262144)))) : Option (Bool)).bind fun o21 => if o21 = true then (((z_viaductref01_E 9).bind fun y39 => some (y39, []))) else (((loopO (fun zz_ => z_viaductref03_DocCheck_l0 N_ Arcs zz_) 0).bind (Sum.elim some fun o54 => some (0, [])))))

noncomputable def z_viaductref01_Err_Bad (Code : Int) (Places : List (Int × Int)) : Option (Bool) :=
  if Code = 0 then (some (decide ((Places.length : Int) > 0))) else (some true)

noncomputable def z_viaductref04_less (From : Int) (To : Int) (Weight : Int) (From_ : Int) (To_ : Int) (Weight_ : Int) : Option (Bool) :=
  if From < From_ then (some true) else (if From = From_ then (some (decide (To < To_))) else (some false))

noncomputable def z_viaductref04_Put_l0 (l : List (Int × Int × Int)) (From : Int) (To : Int) (Weight : Int) (i0 : Int) : Option ((Int) ⊕ (Int)) :=
  if i0 < (l.length : Int) then (G (0 ≤ i0) (((z_viaductref04_less ((gt l i0).1) ((gt l i0).2.1) ((gt l i0).2.2) From To Weight).bind fun y41 => if y41 = true then (G ((i0 + 1) ≤ 9223372036854775807) (some (Sum.inl (i0 + 1)))) else (some (Sum.inr i0))))) else (some (Sum.inr i0))
noncomputable def z_viaductref04_Put (l : List (Int × Int × Int)) (From : Int) (To : Int) (Weight : Int) : Option (List (Int × Int × Int)) :=
  ((loopO (fun zz_ => z_viaductref04_Put_l0 l From To Weight zz_) 0).bind fun o15 => G (0 ≤ o15 ∧ o15 ≤ (l.length : Int)) (G (0 + ((l.take o15.toNat).drop 0).length ≤ 9382499223278) (((if o15 < (l.length : Int) then (G (0 ≤ o15) (if ((gt l o15).1) = From then (some (decide (((gt l o15).2.1) = To))) else (some false))) else (some false) : Option (Bool)).bind fun o79 => if o79 = true then (G (0 ≤ o15 ∧ o15 < (l.length : Int)) (G (([] ++ ((l.take o15.toNat).drop 0)).length + 1 ≤ 9382499223278) (G ((o15 + 1) ≤ 9223372036854775807) (G (0 ≤ (o15 + 1) ∧ (o15 + 1) ≤ (l.length : Int)) (G ((([] ++ ((l.take o15.toNat).drop 0)) ++ [(From, To, (min Weight ((gt l o15).2.2)))]).length + ((l.take l.length).drop (o15 + 1).toNat).length ≤ 9382499223278) (some ((([] ++ ((l.take o15.toNat).drop 0)) ++ [(From, To, (min Weight ((gt l o15).2.2)))]) ++ ((l.take l.length).drop (o15 + 1).toNat)))))))) else (G (([] ++ ((l.take o15.toNat).drop 0)).length + 1 ≤ 9382499223278) (G ((([] ++ ((l.take o15.toNat).drop 0)) ++ [(From, To, Weight)]).length + ((l.take l.length).drop o15.toNat).length ≤ 9382499223278) (some ((([] ++ ((l.take o15.toNat).drop 0)) ++ [(From, To, Weight)]) ++ ((l.take l.length).drop o15.toNat)))))))))

noncomputable def z_viaductref04_Of_l0 (Arcs : List (Int × Int × Int)) (i0 : Int) (c1 : List (Int × Int × Int)) : Option ((Int × List (Int × Int × Int)) ⊕ (List (Int × Int × Int))) :=
  if i0 < (Arcs.length : Int) then (G (0 ≤ i0) (if ((gt Arcs i0).1) = ((gt Arcs i0).2.1) then (G ((i0 + 1) ≤ 9223372036854775807) (some (Sum.inl ((i0 + 1), c1)))) else (((z_viaductref04_Put c1 ((gt Arcs i0).1) ((gt Arcs i0).2.1) ((gt Arcs i0).2.2)).bind fun y94 => G ((i0 + 1) ≤ 9223372036854775807) (some (Sum.inl ((i0 + 1), y94))))))) else (some (Sum.inr c1))
noncomputable def z_viaductref04_Of (N_ : Int) (Arcs : List (Int × Int × Int)) : Option (Int × List (Int × Int × Int)) :=
  ((loopO (fun zz_ => z_viaductref04_Of_l0 Arcs zz_.1 zz_.2) (0, [])).bind fun o35 => some (N_, o35))

noncomputable def z_viaductref04_DocOf (N_ : Int) (Arcs : List (Int × Int × Int)) : Option (Int × List (Int × Int × Int) × Int × List (Int × Int)) :=
  ((z_viaductref03_DocCheck N_ Arcs).bind fun y35 => ((z_viaductref01_Err_Bad y35.1 y35.2).bind fun y61 => if y61 = true then (some (0, [], y35.1, y35.2)) else (((z_viaductref04_Of N_ Arcs).bind fun y88 => some (y88.1, y88.2, 0, [])))))

noncomputable def z_viaductref04_Reverse_l0 (Arcs : List (Int × Int × Int)) (i0 : Int) (c1 : List (Int × Int × Int)) : Option ((Int × List (Int × Int × Int)) ⊕ (List (Int × Int × Int))) :=
  if i0 < (Arcs.length : Int) then (G (0 ≤ i0) (G (c1.length + 1 ≤ 9382499223278) (G ((i0 + 1) ≤ 9223372036854775807) (some (Sum.inl ((i0 + 1), (c1 ++ [((gt Arcs i0).2.1, (gt Arcs i0).1, (gt Arcs i0).2.2)]))))))) else (some (Sum.inr c1))
noncomputable def z_viaductref04_Reverse (N_ : Int) (Arcs : List (Int × Int × Int)) : Option (Int × List (Int × Int × Int)) :=
  ((loopO (fun zz_ => z_viaductref04_Reverse_l0 Arcs zz_.1 zz_.2) (0, [])).bind fun o35 => some (N_, o35))

noncomputable def z_viaductref04_DocReverse (N_ : Int) (Arcs : List (Int × Int × Int)) : Option (Int × List (Int × Int × Int) × Int × List (Int × Int)) :=
  ((z_viaductref03_DocCheck N_ Arcs).bind fun y35 => ((z_viaductref01_Err_Bad y35.1 y35.2).bind fun y61 => if y61 = true then (some (0, [], y35.1, y35.2)) else (((z_viaductref04_Reverse N_ Arcs).bind fun y88 => some (y88.1, y88.2, 0, [])))))

noncomputable def z_viaductref01_First (list_ : Int) (list_2 : List (Int × Int)) (list_3 : Int) (list_4 : List (Int × Int)) : Option (Int × List (Int × Int)) :=
  ((z_viaductref01_Err_Bad list_ list_2).bind fun y33 => if y33 = true then (some (list_, list_2)) else (((z_viaductref01_Err_Bad list_3 list_4).bind fun y68 => if y68 = true then (some (list_3, list_4)) else (some (0, [])))))

noncomputable def z_viaductref03_Twin_l0 (Arcs : List (Int × Int × Int)) (i0 : Int) (c1 : List (Int × Int × Int)) : Option ((Int × List (Int × Int × Int)) ⊕ (List (Int × Int × Int))) :=
  if i0 < (Arcs.length : Int) then (G (0 ≤ i0) (G (c1.length + 1 ≤ 9382499223278) (G ((i0 + 1) ≤ 9223372036854775807) (some (Sum.inl ((i0 + 1), (c1 ++ [((gt Arcs i0).1, (gt Arcs i0).2.1, (gt Arcs i0).2.2)]))))))) else (some (Sum.inr c1))
noncomputable def z_viaductref03_Twin (N_ : Int) (Arcs : List (Int × Int × Int)) : Option (Int × List (Int × Int × Int)) :=
  ((loopO (fun zz_ => z_viaductref03_Twin_l0 Arcs zz_.1 zz_.2) (0, [])).bind fun o35 => some (N_, o35))

noncomputable def z_viaductref04_DocMerge_l0 (Arcs : List (Int × Int × Int)) (i0 : Int) (c1 : List (Int × Int × Int)) : Option ((Int × List (Int × Int × Int)) ⊕ (List (Int × Int × Int))) :=
  if i0 < (Arcs.length : Int) then (G (0 ≤ i0) (G (c1.length + 1 ≤ 9382499223278) (G ((i0 + 1) ≤ 9223372036854775807) (some (Sum.inl ((i0 + 1), (c1 ++ [((gt Arcs i0).1, (gt Arcs i0).2.1, (gt Arcs i0).2.2)]))))))) else (some (Sum.inr c1))
noncomputable def z_viaductref04_DocMerge (N_ : Int) (Arcs : List (Int × Int × Int)) (N_2 : Int) : Option (Int × List (Int × Int × Int) × Int × List (Int × Int)) :=
  ((z_viaductref03_DocCheck N_ Arcs).bind fun y48 => ((z_viaductref03_DocCheck N_2 Arcs).bind fun y63 => ((z_viaductref01_First y48.1 y48.2 y63.1 y63.2).bind fun y85 => ((z_viaductref01_Err_Bad y85.1 y85.2).bind fun y106 => if y106 = true then (some (0, [], y85.1, y85.2)) else (if N_ = N_2 then (G (-9223372036854775808 ≤ ((Arcs.length : Int) + (Arcs.length : Int)) ∧ ((Arcs.length : Int) + (Arcs.length : Int)) ≤ 9223372036854775807) (if ((Arcs.length : Int) + (Arcs.length : Int)) > 262144 then (((z_viaductref01_E 9).bind fun y160 => some (0, [], y160, []))) else (((z_viaductref03_Twin N_ Arcs).bind fun y178 => ((loopO (fun zz_ => z_viaductref04_DocMerge_l0 Arcs zz_.1 zz_.2) (0, y178.2)).bind fun o206 => some (y178.1, o206, 0, [])))))) else (((z_viaductref01_E 1).bind fun y136 => some (0, [], y136, []))))))))

noncomputable def z_viaductref03_Same (N_ : Int) (Arcs : List (Int × Int × Int)) (N_2 : Int) (Arcs_ : List (Int × Int × Int)) : Option (Bool) :=
  if N_ = N_2 then (((z_viaductref03_SameArcs Arcs Arcs_).bind fun y21 => some y21)) else (some false)

noncomputable def z_viaductlaw04_NormalMemory_l0 (y25 : Int × List (Int × Int × Int) × List (Int × Int × Int)) (i0 : Int) (all1 : List (Int × List (Int × Int × Int))) : Option ((Int × List (Int × List (Int × Int × Int))) ⊕ (List (Int × List (Int × Int × Int)))) :=
  if i0 < 2 then (((z_normal_Of y25.1 y25.2.1).bind fun y97 => ((z_normal_Reverse y25.1 y25.2.1).bind fun y130 => ((z_normal_Merge y25.1 y25.2.1 y25.1).bind fun y163 => G (all1.length + 3 ≤ 7036874417356) (((z_normal_Is y25.1 y25.2.1).bind fun y226 => ((z_normal_Degrees y25.1 y25.2.1).bind fun y238 => G (-9223372036854775808 ≤ (i0 + 1) ∧ (i0 + 1) ≤ 9223372036854775807) (some (Sum.inl ((i0 + 1), (all1 ++ [(y97.1, y97.2.1), (y130.1, y130.2.1), (y163.1, y163.2.1)]))))))))))) else (some (Sum.inr all1))
noncomputable def z_viaductlaw04_NormalMemory_l1 (y25 : Int × List (Int × Int × Int) × List (Int × Int × Int)) (full2 : List (Int × Int × Int)) (i3 : Int) : Option ((List (Int × Int × Int) × Int) ⊕ (Unit)) :=
  if i3 < (y25.2.2.length : Int) then (G (0 ≤ i3 ∧ i3 < (full2.length : Int)) (G ((i3 + 1) ≤ 9223372036854775807) (some (Sum.inl ((full2.set i3.toNat (9, 9, 9)), (i3 + 1)))))) else (some (Sum.inr ()))
noncomputable def z_viaductlaw04_NormalMemory_l2 (all7 : List (Int × List (Int × Int × Int))) (i8 : Int) (i4 : Int) (all5 : List (Int × List (Int × Int × Int))) : Option ((Int × List (Int × List (Int × Int × Int))) ⊕ (List (Int × List (Int × Int × Int)))) :=
  if i4 < (((gt all7 i8).2).length : Int) then (G (i8 < (all5.length : Int)) (G (0 ≤ i4 ∧ i4 < (((gt all5 i8).2).length : Int)) (G ((i4 + 1) ≤ 9223372036854775807) (some (Sum.inl ((i4 + 1), (all5.set i8.toNat ((gt all5 i8).1, (((gt all5 i8).2).set i4.toNat ((gt ((gt all5 i8).2) i4).1, (gt ((gt all5 i8).2) i4).2.1, (-1))))))))))) else (some (Sum.inr all5))
noncomputable def z_viaductlaw04_NormalMemory_l3 (y329 : Int × List (Int × Int × Int) × Int × List (Int × Int)) (y378 : Int × List (Int × Int × Int) × Int × List (Int × Int)) (y427 : Int × List (Int × Int × Int) × Int × List (Int × Int)) (o598 : List (Int × List (Int × Int × Int))) (j6 : Int) : Option ((Int) ⊕ (((List (Int × List (Int × Int × Int)) × Int) ⊕ ((Bool) ⊕ (Unit))) ⊕ (Unit))) :=
  if j6 < (o598.length : Int) then (G (0 ≤ j6) (G (0 ≤ (Int.tmod j6 3) ∧ (Int.tmod j6 3) < ([(y329.1, y329.2.1), (y378.1, y378.2.1), (y427.1, y427.2.1)].length : Int)) (((z_viaductref03_Same ((gt o598 j6).1) ((gt o598 j6).2) ((gt [(y329.1, y329.2.1), (y378.1, y378.2.1), (y427.1, y427.2.1)] (Int.tmod j6 3)).1) ((gt [(y329.1, y329.2.1), (y378.1, y378.2.1), (y427.1, y427.2.1)] (Int.tmod j6 3)).2)).bind fun y805 => if (!y805) = true then (((some false).map fun v => Sum.inr (Sum.inl v)).map fun v => Sum.inr (Sum.inl v)) else (G ((j6 + 1) ≤ 9223372036854775807) (some (Sum.inl (j6 + 1)))))))) else (some (Sum.inr (Sum.inr ())))
noncomputable def z_viaductlaw04_NormalMemory_l4 (o58 : List (Int × List (Int × Int × Int))) (y329 : Int × List (Int × Int × Int) × Int × List (Int × Int)) (y378 : Int × List (Int × Int × Int) × Int × List (Int × Int)) (y427 : Int × List (Int × Int × Int) × Int × List (Int × Int)) (all7 : List (Int × List (Int × Int × Int))) (i8 : Int) : Option ((List (Int × List (Int × Int × Int)) × Int) ⊕ ((Bool) ⊕ (Unit))) :=
  if i8 < (o58.length : Int) then (G (0 ≤ i8 ∧ i8 < (all7.length : Int)) (G (0 ≤ (Int.tmod i8 3) ∧ (Int.tmod i8 3) < ([(y329.1, y329.2.1), (y378.1, y378.2.1), (y427.1, y427.2.1)].length : Int)) (((z_viaductref03_Same ((gt all7 i8).1) ((gt all7 i8).2) ((gt [(y329.1, y329.2.1), (y378.1, y378.2.1), (y427.1, y427.2.1)] (Int.tmod i8 3)).1) ((gt [(y329.1, y329.2.1), (y378.1, y378.2.1), (y427.1, y427.2.1)] (Int.tmod i8 3)).2)).bind fun y562 => if (!y562) = true then ((some false).map fun v => Sum.inr (Sum.inl v)) else (((loopO (fun zz_ => z_viaductlaw04_NormalMemory_l2 all7 i8 zz_.1 zz_.2) (0, all7)).bind fun o598 => G (i8 < (o598.length : Int)) (G (((gt o598 i8).2).length + [(0, 0, 0), (0, 0, 0)].length ≤ 9382499223278) (G (-9223372036854775808 ≤ ((((gt o598 i8).2).length : Int) + 2) ∧ ((((gt o598 i8).2).length : Int) + 2) ≤ 9223372036854775807) (if (((gt o598 i8).2 ++ [(0, 0, 0), (0, 0, 0)]).length : Int) = ((((gt o598 i8).2).length : Int) + 2) then (G ((i8 + 1) ≤ 9223372036854775807) (((loopO (fun zz_ => z_viaductlaw04_NormalMemory_l3 y329 y378 y427 o598 zz_) (i8 + 1)).bind (Sum.elim some fun o742 => some (Sum.inl (o598, (i8 + 1))))))) else ((some false).map fun v => Sum.inr (Sum.inl v))))))))))) else (some (Sum.inr (Sum.inr ())))
noncomputable def z_viaductlaw04_NormalMemory (N_ : Int) (Arcs : List (Int × Int × Int)) : Option (Bool) :=
  ((z_viaductlaw04_great N_ Arcs).bind fun y13 => if y13 = true then (some true) else (((z_viaductref03_Spare N_ Arcs).bind fun y25 => ((loopO (fun zz_ => z_viaductlaw04_NormalMemory_l0 y25 zz_.1 zz_.2) (0, [])).bind fun o58 => ((z_viaductref03_Kept N_ Arcs y25.2.2).bind fun y279 => if (!y279) = true then (some false) else (((loopO (fun zz_ => z_viaductlaw04_NormalMemory_l1 y25 zz_.1 zz_.2) (y25.2.2, 0)).bind fun o291 => ((z_viaductref04_DocOf N_ Arcs).bind fun y329 => ((z_viaductref04_DocReverse N_ Arcs).bind fun y378 => ((z_viaductref04_DocMerge N_ Arcs N_).bind fun y427 => ((loopO (fun zz_ => z_viaductlaw04_NormalMemory_l4 o58 y329 y378 y427 zz_.1 zz_.2) (o58, 0)).bind (Sum.elim some fun o496 => some true))))))))))))

end Go.Vd
