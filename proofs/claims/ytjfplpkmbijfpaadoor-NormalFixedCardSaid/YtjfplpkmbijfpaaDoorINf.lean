/- What the functions come to, as plain functions (printed by a program of ours). -/
import Derived.Test.YtjfplpkmbijfpaaDoorVpA
import Derived.Test.YtjfplpkmbijfpaaDoorSo0
set_option maxRecDepth 100000
set_option linter.unusedVariables false
namespace Go.Vd
def enc_i64_i64 (x : Int × Int) : List Value := [.int .i64 x.1, .int .i64 x.2]
def enc_i64_i64_i64 (x : Int × Int × Int) : List Value := [.int .i64 x.1, .int .i64 x.2.1, .int .i64 x.2.2]


noncomputable def z_gtext_within (x : Int) (n_ : Int) : Option (Bool) :=
  if x ≥ 0 then (some (decide (x < n_))) else (some false)

noncomputable def z_gtext_arc (From : Int) (To : Int) (Weight : Int) (n_ : Int) : Option (Er) :=
  ((((z_gtext_within From n_).bind fun y22 => if y22 = true then (((z_gtext_within To n_).bind fun y30 => some (!y30))) else (some true)) : Option (Bool)).bind fun o15 => if o15 = true then (some (Er.no 7)) else (if Weight < 0 then (some (Er.no 8)) else (if Weight > 2147483647 then (some (Er.no 8)) else (some Er.nil))))

noncomputable def z_fault_At (kind : Int) (at_ : Int) (err : Er) : Option (Er) :=
  if err = Er.nil then (some Er.nil) else (some (Er.at kind at_ err))

noncomputable def z_gtext_Check_l0 (N_ : Int) (Arcs : List (Int × Int × Int)) (i0 : Int) : Option ((Int) ⊕ ((Er) ⊕ (Unit))) :=
  if i0 < (Arcs.length : Int) then (G (0 ≤ i0) (((z_gtext_arc ((gt Arcs i0).1) ((gt Arcs i0).2.1) ((gt Arcs i0).2.2) N_).bind fun y76 => if y76 = Er.nil then (G ((i0 + 1) ≤ 9223372036854775807) (some (Sum.inl (i0 + 1)))) else (((z_fault_At 4 i0 y76).bind fun y95 => (some y95).map fun v => Sum.inr (Sum.inl v)))))) else (some (Sum.inr (Sum.inr ())))
noncomputable def z_gtext_Check (N_ : Int) (Arcs : List (Int × Int × Int)) : Option (Er) :=
  ((if N_ < 0 then (some true) else (if N_ > 65536 then (some true) else (some (decide ((Arcs.length : Int) > 262144)))) : Option (Bool)).bind fun o15 => if o15 = true then (some (Er.no 9)) else (((loopO (fun zz_ => z_gtext_Check_l0 N_ Arcs zz_) 0).bind (Sum.elim some fun o36 => some Er.nil))))

noncomputable def z_normal_Reverse_l0 (Arcs : List (Int × Int × Int)) (i0 : Int) (c1 : List (Int × Int × Int)) : Option ((Int × List (Int × Int × Int)) ⊕ (List (Int × Int × Int))) :=
  if i0 < (Arcs.length : Int) then (G (0 ≤ i0) (G (c1.length + 1 ≤ 5864062014549) (G ((i0 + 1) ≤ 9223372036854775807) (some (Sum.inl ((i0 + 1), (c1 ++ [((gt Arcs i0).2.1, (gt Arcs i0).1, (gt Arcs i0).2.2)]))))))) else (some (Sum.inr c1))
noncomputable def z_normal_Reverse (N_ : Int) (Arcs : List (Int × Int × Int)) : Option (Int × List (Int × Int × Int) × Er) :=
  ((z_gtext_Check N_ Arcs).bind fun y29 => if y29 = Er.nil then (((loopO (fun zz_ => z_normal_Reverse_l0 Arcs zz_.1 zz_.2) (0, [])).bind fun o60 => some (N_, o60, Er.nil))) else (some (0, [], y29)))

noncomputable def z_normal_Degrees_l0 (Arcs : List (Int × Int × Int)) (i0 : Int) (out1 : List (Int)) (in2 : List (Int)) : Option ((Int × List (Int) × List (Int)) ⊕ (List (Int) × List (Int))) :=
  if i0 < (Arcs.length : Int) then (G (0 ≤ i0) (G (0 ≤ (gt Arcs i0).1 ∧ (gt Arcs i0).1 < (out1.length : Int)) (G (-9223372036854775808 ≤ ((gt out1 ((gt Arcs i0).1)) + 1) ∧ ((gt out1 ((gt Arcs i0).1)) + 1) ≤ 9223372036854775807) (G (0 ≤ (gt Arcs i0).2.1 ∧ (gt Arcs i0).2.1 < (in2.length : Int)) (G (-9223372036854775808 ≤ ((gt in2 ((gt Arcs i0).2.1)) + 1) ∧ ((gt in2 ((gt Arcs i0).2.1)) + 1) ≤ 9223372036854775807) (G ((i0 + 1) ≤ 9223372036854775807) (some (Sum.inl ((i0 + 1), (out1.set ((gt Arcs i0).1).toNat ((gt out1 ((gt Arcs i0).1)) + 1)), (in2.set ((gt Arcs i0).2.1).toNat ((gt in2 ((gt Arcs i0).2.1)) + 1))))))))))) else (some (Sum.inr (out1, in2)))
noncomputable def z_normal_Degrees (N_ : Int) (Arcs : List (Int × Int × Int)) : Option (List (Int) × List (Int) × Er) :=
  ((z_gtext_Check N_ Arcs).bind fun y29 => if y29 = Er.nil then (G (0 ≤ N_ ∧ 8 * N_ ≤ 281474976710656) (((loopO (fun zz_ => z_normal_Degrees_l0 Arcs zz_.1 zz_.2.1 zz_.2.2) (0, (List.replicate N_.toNat (0 : Int)), (List.replicate N_.toNat (0 : Int)))).bind fun o73 => some (o73.1, o73.2, Er.nil)))) else (some ([], [], y29)))

noncomputable def z_cmp_isNaN (x : Int) : Option (Bool) :=
  some (!decide (x = x))

noncomputable def z_cmp_Compare (x : Int) (y : Int) : Option (Int) :=
  ((z_cmp_isNaN x).bind fun y3 => ((z_cmp_isNaN y).bind fun y9 => if y3 = true then (if y9 = true then (some 0) else (some (-1))) else (if y9 = true then (some 1) else (if x < y then (some (-1)) else (if x > y then (some 1) else (some 0))))))

noncomputable def z_cmp_Or_l0 (vals : List (Int)) (i0 : Int) : Option ((Int) ⊕ ((Int) ⊕ (Unit))) :=
  if i0 < (vals.length : Int) then (G (0 ≤ i0) (if (gt vals i0) = 0 then (G ((i0 + 1) ≤ 9223372036854775807) (some (Sum.inl (i0 + 1)))) else ((some (gt vals i0)).map fun v => Sum.inr (Sum.inl v)))) else (some (Sum.inr (Sum.inr ())))
noncomputable def z_cmp_Or (vals : List (Int)) : Option (Int) :=
  ((loopO (fun zz_ => z_cmp_Or_l0 vals zz_) 0).bind (Sum.elim some fun o5 => some 0))

noncomputable def z_normal_order (From : Int) (To : Int) (Weight : Int) (From_ : Int) (To_ : Int) (Weight_ : Int) : Option (Int) :=
  ((z_cmp_Compare From From_).bind fun y16 => ((z_cmp_Compare To To_).bind fun y21 => ((z_cmp_Compare Weight Weight_).bind fun y26 => ((z_cmp_Or [y16, y21, y26]).bind fun y41 => some y41))))

noncomputable def z_normal_Of_1 (From : Int) (To : Int) (Weight : Int) (From_ : Int) (To_ : Int) (Weight_ : Int) : Option (Bool) :=
  if From = From_ then (some (decide (To = To_))) else (some false)

noncomputable def z_slices_CompactFunc_l0 (k3 : Int) (s0 : List (Int × Int × Int)) (k1 : Int) (k22 : Int) : Option ((List (Int × Int × Int) × Int × Int) ⊕ (List (Int × Int × Int) × Int)) :=
  if k22 < ((s0.drop k3.toNat).length : Int) then (G (0 ≤ k22) (G (-9223372036854775808 ≤ (k22 - 1) ∧ (k22 - 1) ≤ 9223372036854775807) (G (0 ≤ (k22 - 1) ∧ (k22 - 1) < ((s0.drop k3.toNat).length : Int)) (((z_normal_Of_1 ((gt (s0.drop k3.toNat) k22).1) ((gt (s0.drop k3.toNat) k22).2.1) ((gt (s0.drop k3.toNat) k22).2.2) ((gt (s0.drop k3.toNat) (k22 - 1)).1) ((gt (s0.drop k3.toNat) (k22 - 1)).2.1) ((gt (s0.drop k3.toNat) (k22 - 1)).2.2)).bind fun y109 => if (!y109) = true then (G (0 ≤ k1 ∧ k1 < (s0.length : Int)) (G ((k1 + 1) ≤ 9223372036854775807) (G ((k22 + 1) ≤ 9223372036854775807) (some (Sum.inl ((s0.set k1.toNat ((gt (s0.drop k3.toNat) k22).1, (gt (s0.drop k3.toNat) k22).2.1, (gt (s0.drop k3.toNat) k22).2.2)), (k1 + 1), (k22 + 1))))))) else (G ((k22 + 1) ≤ 9223372036854775807) (some (Sum.inl (s0, k1, (k22 + 1)))))))))) else (some (Sum.inr (s0, k1)))
noncomputable def z_slices_CompactFunc_l1 (s : List (Int × Int × Int)) (k3 : Int) : Option ((Int) ⊕ ((List (Int × Int × Int) × List (Int × Int × Int)) ⊕ (Unit))) :=
  if k3 < (s.length : Int) then (G (0 ≤ k3) (G (-9223372036854775808 ≤ (k3 - 1) ∧ (k3 - 1) ≤ 9223372036854775807) (G (0 ≤ (k3 - 1) ∧ (k3 - 1) < (s.length : Int)) (((z_normal_Of_1 ((gt s k3).1) ((gt s k3).2.1) ((gt s k3).2.2) ((gt s (k3 - 1)).1) ((gt s (k3 - 1)).2.1) ((gt s (k3 - 1)).2.2)).bind fun y47 => if y47 = true then (G (0 ≤ k3 ∧ k3 ≤ (s.length : Int)) (((loopO (fun zz_ => z_slices_CompactFunc_l0 k3 zz_.1 zz_.2.1 zz_.2.2) (s, k3, 1)).bind fun o66 => G (0 ≤ o66.2 ∧ o66.2 ≤ (o66.1.length : Int)) (G ((0 : Int) < (o66.1.length : Int)) (G (0 ≤ o66.2 ∧ o66.2 ≤ ((o66.1.take o66.2.toNat ++ List.replicate (o66.1.length - o66.2.toNat) ((0, 0, 0) : Int × Int × Int)).length : Int)) ((some (((o66.1.take o66.2.toNat ++ List.replicate (o66.1.length - o66.2.toNat) ((0, 0, 0) : Int × Int × Int)).take o66.2.toNat), (o66.1.take o66.2.toNat ++ List.replicate (o66.1.length - o66.2.toNat) ((0, 0, 0) : Int × Int × Int)))).map fun v => Sum.inr (Sum.inl v))))))) else (G ((k3 + 1) ≤ 9223372036854775807) (some (Sum.inl (k3 + 1))))))))) else (some (Sum.inr (Sum.inr ())))
noncomputable def z_slices_CompactFunc (s : List (Int × Int × Int)) : Option (List (Int × Int × Int) × List (Int × Int × Int)) :=
  if (s.length : Int) < 2 then (some (s, s)) else (((loopO (fun zz_ => z_slices_CompactFunc_l1 s zz_) 1).bind (Sum.elim some fun o15 => some (s, s))))

noncomputable def z_normal_Of_l0 (Arcs : List (Int × Int × Int)) (i0 : Int) (c1 : List (Int × Int × Int)) : Option ((Int × List (Int × Int × Int)) ⊕ (List (Int × Int × Int))) :=
  if i0 < (Arcs.length : Int) then (G (0 ≤ i0) (if ((gt Arcs i0).1) = ((gt Arcs i0).2.1) then (G ((i0 + 1) ≤ 9223372036854775807) (some (Sum.inl ((i0 + 1), c1)))) else (G (c1.length + 1 ≤ 5864062014549) (G ((i0 + 1) ≤ 9223372036854775807) (some (Sum.inl ((i0 + 1), (c1 ++ [((gt Arcs i0).1, (gt Arcs i0).2.1, (gt Arcs i0).2.2)])))))))) else (some (Sum.inr c1))
noncomputable def z_normal_Of (N_ : Int) (Arcs : List (Int × Int × Int)) : Option (Int × List (Int × Int × Int) × Er) :=
  ((z_gtext_Check N_ Arcs).bind fun y29 => if y29 = Er.nil then (((loopO (fun zz_ => z_normal_Of_l0 Arcs zz_.1 zz_.2) (0, [])).bind fun o60 => G (o60.length ≤ 1000000000000) (((sortO (fun (a_ b_ : Int × Int × Int) => z_normal_order a_.1 a_.2.1 a_.2.2 b_.1 b_.2.1 b_.2.2) o60).bind fun y162 => ((z_slices_CompactFunc y162).bind fun y170 => some (N_, y170.1, Er.nil)))))) else (some (0, [], y29)))

noncomputable def z_slices_Equal_l0 (s1 : List (Int × Int × Int)) (s2 : List (Int × Int × Int)) (i0 : Int) : Option ((Int) ⊕ ((Bool) ⊕ (Unit))) :=
  if i0 < (s1.length : Int) then (G (0 ≤ i0) (G (i0 < (s2.length : Int)) (if ((gt s1 i0).1) = ((gt s2 i0).1) ∧ ((gt s1 i0).2.1) = ((gt s2 i0).2.1) ∧ ((gt s1 i0).2.2) = ((gt s2 i0).2.2) then (G ((i0 + 1) ≤ 9223372036854775807) (some (Sum.inl (i0 + 1)))) else ((some false).map fun v => Sum.inr (Sum.inl v))))) else (some (Sum.inr (Sum.inr ())))
noncomputable def z_slices_Equal (s1 : List (Int × Int × Int)) (s2 : List (Int × Int × Int)) : Option (Bool) :=
  if (s1.length : Int) = (s2.length : Int) then (((loopO (fun zz_ => z_slices_Equal_l0 s1 s2 zz_) 0).bind (Sum.elim some fun o10 => some true))) else (some false)

noncomputable def z_normal_Is (N_ : Int) (Arcs : List (Int × Int × Int)) : Option (Bool × Er) :=
  ((z_normal_Of N_ Arcs).bind fun y15 => if y15.2.2 = Er.nil then (((z_slices_Equal y15.2.1 Arcs).bind fun y54 => some (y54, Er.nil))) else (some (false, y15.2.2)))

noncomputable def z_viaductref03_SameArcs_l0 (a : List (Int × Int × Int)) (b : List (Int × Int × Int)) (i0 : Int) : Option ((Int) ⊕ ((Bool) ⊕ (Unit))) :=
  if i0 < (a.length : Int) then (G (0 ≤ i0) (G (i0 < (b.length : Int)) (if ((gt a i0).1) = ((gt b i0).1) ∧ ((gt a i0).2.1) = ((gt b i0).2.1) ∧ ((gt a i0).2.2) = ((gt b i0).2.2) then (G ((i0 + 1) ≤ 9223372036854775807) (some (Sum.inl (i0 + 1)))) else ((some false).map fun v => Sum.inr (Sum.inl v))))) else (some (Sum.inr (Sum.inr ())))
noncomputable def z_viaductref03_SameArcs (a : List (Int × Int × Int)) (b : List (Int × Int × Int)) : Option (Bool) :=
  if (a.length : Int) = (b.length : Int) then (((loopO (fun zz_ => z_viaductref03_SameArcs_l0 a b zz_) 0).bind (Sum.elim some fun o10 => some true))) else (some false)

noncomputable def z_viaductref03_Same (N_ : Int) (Arcs : List (Int × Int × Int)) (N_2 : Int) (Arcs_ : List (Int × Int × Int)) : Option (Bool) :=
  if N_ = N_2 then (((z_viaductref03_SameArcs Arcs Arcs_).bind fun y21 => some y21)) else (some false)

noncomputable def z_viaductref02_SameInts_l0 (a : List (Int)) (b : List (Int)) (i0 : Int) : Option ((Int) ⊕ ((Bool) ⊕ (Unit))) :=
  if i0 < (a.length : Int) then (G (0 ≤ i0) (G (i0 < (b.length : Int)) (if (gt a i0) = (gt b i0) then (G ((i0 + 1) ≤ 9223372036854775807) (some (Sum.inl (i0 + 1)))) else ((some false).map fun v => Sum.inr (Sum.inl v))))) else (some (Sum.inr (Sum.inr ())))
noncomputable def z_viaductref02_SameInts (a : List (Int)) (b : List (Int)) : Option (Bool) :=
  if (a.length : Int) = (b.length : Int) then (((loopO (fun zz_ => z_viaductref02_SameInts_l0 a b zz_) 0).bind (Sum.elim some fun o10 => some true))) else (some false)

noncomputable def z_slices_Grow (n_ : Int) : Option (List (Int × Int × Int)) :=
  if n_ < 0 then (none) else (G (-9223372036854775808 ≤ (n_ - 0) ∧ (n_ - 0) ≤ 9223372036854775807) (if (n_ - 0) > 0 then (G (0 ≤ (n_ - 0) ∧ (n_ - 0) ≤ 5864062014549) (G (0 ≤ 0 ∧ 0 ≤ (([] ++ List.replicate (n_ - 0).toNat ((0, 0, 0) : Int × Int × Int)).length : Int)) (some (([] ++ List.replicate (n_ - 0).toNat ((0, 0, 0) : Int × Int × Int)).take (0 : Int).toNat)))) else (some [])))

noncomputable def z_slices_Concat (slices_ : List (Int × Int × Int)) (slices_2 : List (Int × Int × Int)) : Option (List (Int × Int × Int)) :=
  G (-9223372036854775808 ≤ (0 + (slices_.length : Int)) ∧ (0 + (slices_.length : Int)) ≤ 9223372036854775807) (if (0 + (slices_.length : Int)) < 0 then (none) else (G (-9223372036854775808 ≤ ((0 + (slices_.length : Int)) + (slices_2.length : Int)) ∧ ((0 + (slices_.length : Int)) + (slices_2.length : Int)) ≤ 9223372036854775807) (if ((0 + (slices_.length : Int)) + (slices_2.length : Int)) < 0 then (none) else (((z_slices_Grow ((0 + (slices_.length : Int)) + (slices_2.length : Int))).bind fun y35 => G (y35.length + slices_.length ≤ 5864062014549) (G ((y35 ++ slices_).length + slices_2.length ≤ 5864062014549) (some ((y35 ++ slices_) ++ slices_2))))))))

noncomputable def z_normal_Merge (N_ : Int) (Arcs : List (Int × Int × Int)) (N_2 : Int) (Arcs_ : List (Int × Int × Int)) : Option (Int × List (Int × Int × Int) × Er) :=
  ((z_gtext_Check N_ Arcs).bind fun y35 => if y35 = Er.nil then (((z_gtext_Check N_2 Arcs_).bind fun y53 => if y53 = Er.nil then (if N_ = N_2 then (G (-9223372036854775808 ≤ ((Arcs.length : Int) + (Arcs_.length : Int)) ∧ ((Arcs.length : Int) + (Arcs_.length : Int)) ≤ 9223372036854775807) (if ((Arcs.length : Int) + (Arcs_.length : Int)) > 262144 then (some (0, [], (Er.no 9))) else (((z_slices_Concat Arcs Arcs_).bind fun y110 => some (N_, y110, Er.nil))))) else (some (0, [], (Er.no 1)))) else (some (0, [], y53)))) else (some (0, [], y35)))

noncomputable def z_viaductref01_E (n_ : Int) : Option (Int) :=
  some n_

noncomputable def z_viaductref01_Err_Bad (Code : Int) (Places : List (Int × Int)) : Option (Bool) :=
  if Code = 0 then (some (decide ((Places.length : Int) > 0))) else (some true)

noncomputable def z_viaductseen_Same_l0 (Places : List (Int × Int)) (i0 : Int) (e1 : Er) : Option ((Int × Er) ⊕ ((Bool) ⊕ (Er))) :=
  if i0 < (Places.length : Int) then (G (0 ≤ i0) (if Er.isAt e1 = true then (if (Er.fk e1) = ((gt Places i0).1) ∧ (Er.fi e1) = ((gt Places i0).2) then (G ((i0 + 1) ≤ 9223372036854775807) (some (Sum.inl ((i0 + 1), (Er.fe e1))))) else ((some false).map fun v => Sum.inr (Sum.inl v))) else ((some false).map fun v => Sum.inr (Sum.inl v)))) else (some (Sum.inr (Sum.inr e1)))
noncomputable def z_viaductseen_Same_l1 (err : Er) (Code : Int) (i2 : Int) : Option ((Int) ⊕ ((Bool) ⊕ (Unit))) :=
  if i2 ≤ 20 then (if (decide (Er.num err = some i2)) = (decide (i2 = Code)) then (G (-9223372036854775808 ≤ (i2 + 1) ∧ (i2 + 1) ≤ 9223372036854775807) (some (Sum.inl (i2 + 1)))) else ((some false).map fun v => Sum.inr (Sum.inl v))) else (some (Sum.inr (Sum.inr ())))
noncomputable def z_viaductseen_Same (err : Er) (Code : Int) (Places : List (Int × Int)) : Option (Bool) :=
  ((z_viaductref01_Err_Bad Code Places).bind fun y11 => if (!y11) = true then (if err = Er.nil then (some true) else (some false)) else (if err = Er.nil then (some false) else (((loopO (fun zz_ => z_viaductseen_Same_l0 Places zz_.1 zz_.2) (0, err)).bind (Sum.elim some fun o40 => if Er.isAt o40 = true then (some false) else (((if (Er.num err).isSome = true then (some (!decide (((Er.num err).getD 0) = Code))) else (some true) : Option (Bool)).bind fun o160 => if o160 = true then (some false) else (((loopO (fun zz_ => z_viaductseen_Same_l1 err Code zz_) 1).bind (Sum.elim some fun o185 => some true))))))))))

noncomputable def z_viaductref01_At (kind : Int) (at_ : Int) (Code : Int) (Places : List (Int × Int)) : Option (Int × List (Int × Int)) :=
  G ([(kind, at_)].length + Places.length ≤ 8796093021952) (some (Code, ([(kind, at_)] ++ Places)))

noncomputable def z_viaductlaw04_NormalFixed : Option (Bool) :=
  ((z_normal_Reverse 2 [(0, 1, 4), (1, 1, 2)]).bind fun y28 => ((z_normal_Degrees 2 [(0, 1, 4), (1, 1, 2)]).bind fun y61 => ((z_normal_Is 2 [(1, 0, 1), (0, 1, 1)]).bind fun y101 => ((if y28.2.2 = Er.nil then (if y61.2.2 = Er.nil then (if y101.2 = Er.nil then (if y101.1 = true then (some true) else (((z_viaductref03_Same y28.1 y28.2.1 2 [(1, 0, 4), (1, 1, 2)]).bind fun y149 => if y149 = true then (((z_viaductref02_SameInts y61.1 [1, 1]).bind fun y168 => if y168 = true then (((z_viaductref02_SameInts y61.2.1 [0, 2]).bind fun y187 => some (!y187))) else (some true))) else (some true)))) else (some true)) else (some true)) else (some true) : Option (Bool)).bind fun o113 => if o113 = true then (some false) else (((z_normal_Merge 2 [(0, 1, 4), (1, 1, 2)] 3 []).bind fun y250 => ((z_normal_Merge 2 [(0, 1, 4), (1, 1, 2)] 1 [(0, 1, 0)]).bind fun y274 => ((z_normal_Merge 1 [(0, 1, 0)] (-1) []).bind fun y296 => ((z_normal_Merge 2 (List.replicate (262144 : Int).toNat ((0, 0, 0) : Int × Int × Int)) 2 [(0, 1, 4), (1, 1, 2)]).bind fun y320 => ((z_normal_Merge 2 (List.replicate (262144 : Int).toNat ((0, 0, 0) : Int × Int × Int)) 2 []).bind fun y353 => ((z_normal_Of 2 (List.replicate (262144 : Int).toNat ((0, 0, 0) : Int × Int × Int))).bind fun y386 => ((z_normal_Of 1 [(0, 1, 0)]).bind fun y419 => ((((z_viaductref01_E 1).bind fun y458 => ((z_viaductseen_Same y250.2.2 y458 []).bind fun y464 => if y464 = true then (((z_viaductref01_E 7).bind fun y472 => ((z_viaductref01_At 4 0 y472 []).bind fun y477 => ((z_viaductseen_Same y274.2.2 y477.1 y477.2).bind fun y491 => if y491 = true then (((z_viaductref01_E 7).bind fun y499 => ((z_viaductref01_At 4 0 y499 []).bind fun y504 => ((z_viaductseen_Same y296.2.2 y504.1 y504.2).bind fun y518 => if y518 = true then (((z_viaductref01_E 9).bind fun y526 => ((z_viaductseen_Same y320.2.2 y526 []).bind fun y532 => if y532 = true then (if y353.2.2 = Er.nil then (if (y353.2.1.length : Int) = 262144 then (if y386.2.2 = Er.nil then (if (y386.2.1.length : Int) = 0 then (some (!decide (y386.1 = 2))) else (some true)) else (some true)) else (some true)) else (some true)) else (some true)))) else (some true))))) else (some true))))) else (some true))) : Option (Bool)).bind fun o451 => if o451 = true then (some false) else (((z_viaductref01_E 7).bind fun y575 => ((z_viaductref01_At 4 0 y575 []).bind fun y580 => ((z_viaductseen_Same y419.2.2 y580.1 y580.2).bind fun y594 => some y594)))))))))))))))))

end Go.Vd
