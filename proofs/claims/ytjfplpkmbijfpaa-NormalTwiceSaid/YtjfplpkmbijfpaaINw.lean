/- What the functions come to, as plain functions (printed by a program of ours). -/
import Derived.Test.YtjfplpkmbijfpaaVpA
import Derived.Test.YtjfplpkmbijfpaaSo0
set_option maxRecDepth 100000
set_option linter.unusedVariables false
namespace Go.Vd
def enc_i64_i64_i64 (x : Int × Int × Int) : List Value := [.int .i64 x.1, .int .i64 x.2.1, .int .i64 x.2.2]


noncomputable def z_gtext_within (x : Int) (n_ : Int) : Option (Bool) :=
  if x ≥ 0 then (some (decide (x < n_))) else (some false)

noncomputable def z_gtext_arc (From : Int) (To : Int) (Weight : Int) (n_ : Int) : Option (Er) :=
  ((((z_gtext_within From n_).bind fun y22 => if y22 = true then (((z_gtext_within To n_).bind fun y30 => some (!y30))) else (some true)) : Option (Bool)).bind fun o15 => if o15 = true then (some (Er.no 7)) else (if Weight < 0 then (some (Er.no 8)) else (if Weight > 2147483647 then (some (Er.no 8)) else (some Er.nil))))

noncomputable def z_fault_At (kind : Int) (at_ : Int) (err : Er) : Option (Er) :=
  if err = Er.nil then (some Er.nil) else (some (Er.at kind at_ err))

noncomputable def z_gtext_Check_l0 (N_ : Int) (Arcs : List (Int × Int × Int)) (i0 : Int) : Option ((Int) ⊕ ((Er) ⊕ (Unit))) :=
  if i0 < (Arcs.length : Int) then (G (0 ≤ i0) (((z_gtext_arc ((gt Arcs i0).1) ((gt Arcs i0).2.1) ((gt Arcs i0).2.2) N_).bind fun y76 => if y76 = Er.nil then (G ((i0 + 1) ≤ 9223372036854775807) (some (Sum.inl (i0 + 1)))) else (((z_fault_At 4 i0 y76).bind fun y95 => (some y95).map fun v => Sum.inr (Sum.inl v)))))) else (some (Sum.inr (Sum.inr ())))
noncomputable def z_gtext_Check (N_ : Int) (Arcs : List (Int × Int × Int)) : Option (Er) :=
  ((if N_ < 0 then (some true) else (if N_ > 65536 then (some true) else (some (decide ((Arcs.length : Int) > 262144)))) : Option (Bool)).bind fun o15 => if o15 = true then (some (Er.no 9)) else (((loopO (fun zz_ => z_gtext_Check_l0 N_ Arcs zz_) 0).bind (Sum.elim some fun o36 => some Er.nil))))

noncomputable def z_cmp_isNaN (x : Int) : Option (Bool) :=
  some (!decide (x = x))

noncomputable def z_cmp_Compare (x : Int) (y : Int) : Option (Int) :=
  ((z_cmp_isNaN x).bind fun y3 => ((z_cmp_isNaN y).bind fun y9 => if y3 = true then (if y9 = true then (some 0) else (some (-1))) else (if y9 = true then (some 1) else (if x < y then (some (-1)) else (if x > y then (some 1) else (some 0))))))

noncomputable def z_cmp_Or_l0 (vals : List (Int)) (i0 : Int) : Option ((Int) ⊕ ((Int) ⊕ (Unit))) :=
  if i0 < (vals.length : Int) then (G (0 ≤ i0) (if (gt vals i0) = 0 then (G ((i0 + 1) ≤ 9223372036854775807) (some (Sum.inl (i0 + 1)))) else ((some (gt vals i0)).map fun v => Sum.inr (Sum.inl v)))) else (some (Sum.inr (Sum.inr ())))
noncomputable def z_cmp_Or (vals : List (Int)) : Option (Int) :=
  ((loopO (fun zz_ => z_cmp_Or_l0 vals zz_) 0).bind (Sum.elim some fun o5 => some 0))

noncomputable def z_normal_order (From : Int) (To : Int) (Weight : Int) (From_ : Int) (To_ : Int) (Weight_ : Int) : Option (Int) :=
  ((z_cmp_Compare From From_).bind fun y16 => ((z_cmp_Compare To To_).bind fun y21 => ((z_cmp_Compare Weight Weight_).bind fun y26 => ((z_cmp_Or [y16, y21, y26]).bind fun y41 => some y41))))

noncomputable def z_normal_Of_1 (From : Int) (To : Int) (Weight : Int) (From_ : Int) (To_ : Int) (Weight_ : Int) : Option (Bool) :=
  if From = From_ then (some (decide (To = To_))) else (some false)

noncomputable def z_slices_CompactFunc_l0 (k3 : Int) (s0 : List (Int × Int × Int)) (k1 : Int) (k22 : Int) : Option ((List (Int × Int × Int) × Int × Int) ⊕ (List (Int × Int × Int) × Int)) :=
  if k22 < ((s0.drop k3.toNat).length : Int) then (G (0 ≤ k22) (G (-9223372036854775808 ≤ (k22 - 1) ∧ (k22 - 1) ≤ 9223372036854775807) (G (0 ≤ (k22 - 1) ∧ (k22 - 1) < ((s0.drop k3.toNat).length : Int)) (((z_normal_Of_1 ((gt (s0.drop k3.toNat) k22).1) ((gt (s0.drop k3.toNat) k22).2.1) ((gt (s0.drop k3.toNat) k22).2.2) ((gt (s0.drop k3.toNat) (k22 - 1)).1) ((gt (s0.drop k3.toNat) (k22 - 1)).2.1) ((gt (s0.drop k3.toNat) (k22 - 1)).2.2)).bind fun y109 => if (!y109) = true then (G (0 ≤ k1 ∧ k1 < (s0.length : Int)) (G ((k1 + 1) ≤ 9223372036854775807) (G ((k22 + 1) ≤ 9223372036854775807) (some (Sum.inl ((s0.set k1.toNat ((gt (s0.drop k3.toNat) k22).1, (gt (s0.drop k3.toNat) k22).2.1, (gt (s0.drop k3.toNat) k22).2.2)), (k1 + 1), (k22 + 1))))))) else (G ((k22 + 1) ≤ 9223372036854775807) (some (Sum.inl (s0, k1, (k22 + 1)))))))))) else (some (Sum.inr (s0, k1)))
noncomputable def z_slices_CompactFunc_l1 (s : List (Int × Int × Int)) (k3 : Int) : Option ((Int) ⊕ ((List (Int × Int × Int) × List (Int × Int × Int)) ⊕ (Unit))) :=
  if k3 < (s.length : Int) then (G (0 ≤ k3) (G (-9223372036854775808 ≤ (k3 - 1) ∧ (k3 - 1) ≤ 9223372036854775807) (G (0 ≤ (k3 - 1) ∧ (k3 - 1) < (s.length : Int)) (((z_normal_Of_1 ((gt s k3).1) ((gt s k3).2.1) ((gt s k3).2.2) ((gt s (k3 - 1)).1) ((gt s (k3 - 1)).2.1) ((gt s (k3 - 1)).2.2)).bind fun y47 => if y47 = true then (G (0 ≤ k3 ∧ k3 ≤ (s.length : Int)) (((loopO (fun zz_ => z_slices_CompactFunc_l0 k3 zz_.1 zz_.2.1 zz_.2.2) (s, k3, 1)).bind fun o66 => G (0 ≤ o66.2 ∧ o66.2 ≤ (o66.1.length : Int)) (G ((0 : Int) < (o66.1.length : Int)) (G (0 ≤ o66.2 ∧ o66.2 ≤ ((o66.1.take o66.2.toNat ++ List.replicate (o66.1.length - o66.2.toNat) (0, 0, 0)).length : Int)) ((some (((o66.1.take o66.2.toNat ++ List.replicate (o66.1.length - o66.2.toNat) (0, 0, 0)).take o66.2.toNat), (o66.1.take o66.2.toNat ++ List.replicate (o66.1.length - o66.2.toNat) (0, 0, 0)))).map fun v => Sum.inr (Sum.inl v))))))) else (G ((k3 + 1) ≤ 9223372036854775807) (some (Sum.inl (k3 + 1))))))))) else (some (Sum.inr (Sum.inr ())))
noncomputable def z_slices_CompactFunc (s : List (Int × Int × Int)) : Option (List (Int × Int × Int) × List (Int × Int × Int)) :=
  if (s.length : Int) < 2 then (some (s, s)) else (((loopO (fun zz_ => z_slices_CompactFunc_l1 s zz_) 1).bind (Sum.elim some fun o15 => some (s, s))))

noncomputable def z_normal_Of_l0 (Arcs : List (Int × Int × Int)) (i0 : Int) (c1 : List (Int × Int × Int)) : Option ((Int × List (Int × Int × Int)) ⊕ (List (Int × Int × Int))) :=
  if i0 < (Arcs.length : Int) then (G (0 ≤ i0) (if ((gt Arcs i0).1) = ((gt Arcs i0).2.1) then (G ((i0 + 1) ≤ 9223372036854775807) (some (Sum.inl ((i0 + 1), c1)))) else (G (c1.length + 1 ≤ 5864062014549) (G ((i0 + 1) ≤ 9223372036854775807) (some (Sum.inl ((i0 + 1), (c1 ++ [((gt Arcs i0).1, (gt Arcs i0).2.1, (gt Arcs i0).2.2)])))))))) else (some (Sum.inr c1))
noncomputable def z_normal_Of (N_ : Int) (Arcs : List (Int × Int × Int)) : Option (Int × List (Int × Int × Int) × Er) :=
  ((z_gtext_Check N_ Arcs).bind fun y29 => if y29 = Er.nil then (((loopO (fun zz_ => z_normal_Of_l0 Arcs zz_.1 zz_.2) (0, [])).bind fun o60 => G (o60.length ≤ 1000000000000) (((sortO (fun (a_ b_ : Int × Int × Int) => z_normal_order a_.1 a_.2.1 a_.2.2 b_.1 b_.2.1 b_.2.2) o60).bind fun y162 => ((z_slices_CompactFunc y162).bind fun y170 => some (N_, y170.1, Er.nil)))))) else (some (0, [], y29)))

noncomputable def z_normal_Reverse_l0 (Arcs : List (Int × Int × Int)) (i0 : Int) (c1 : List (Int × Int × Int)) : Option ((Int × List (Int × Int × Int)) ⊕ (List (Int × Int × Int))) :=
  if i0 < (Arcs.length : Int) then (G (0 ≤ i0) (G (c1.length + 1 ≤ 5864062014549) (G ((i0 + 1) ≤ 9223372036854775807) (some (Sum.inl ((i0 + 1), (c1 ++ [((gt Arcs i0).2.1, (gt Arcs i0).1, (gt Arcs i0).2.2)]))))))) else (some (Sum.inr c1))
noncomputable def z_normal_Reverse (N_ : Int) (Arcs : List (Int × Int × Int)) : Option (Int × List (Int × Int × Int) × Er) :=
  ((z_gtext_Check N_ Arcs).bind fun y29 => if y29 = Er.nil then (((loopO (fun zz_ => z_normal_Reverse_l0 Arcs zz_.1 zz_.2) (0, [])).bind fun o60 => some (N_, o60, Er.nil))) else (some (0, [], y29)))

noncomputable def z_slices_Equal_l0 (s1 : List (Int × Int × Int)) (s2 : List (Int × Int × Int)) (i0 : Int) : Option ((Int) ⊕ ((Bool) ⊕ (Unit))) :=
  if i0 < (s1.length : Int) then (G (0 ≤ i0) (G (i0 < (s2.length : Int)) (if ((gt s1 i0).1) = ((gt s2 i0).1) ∧ ((gt s1 i0).2.1) = ((gt s2 i0).2.1) ∧ ((gt s1 i0).2.2) = ((gt s2 i0).2.2) then (G ((i0 + 1) ≤ 9223372036854775807) (some (Sum.inl (i0 + 1)))) else ((some false).map fun v => Sum.inr (Sum.inl v))))) else (some (Sum.inr (Sum.inr ())))
noncomputable def z_slices_Equal (s1 : List (Int × Int × Int)) (s2 : List (Int × Int × Int)) : Option (Bool) :=
  if (s1.length : Int) = (s2.length : Int) then (((loopO (fun zz_ => z_slices_Equal_l0 s1 s2 zz_) 0).bind (Sum.elim some fun o10 => some true))) else (some false)

noncomputable def z_normal_Is (N_ : Int) (Arcs : List (Int × Int × Int)) : Option (Bool × Er) :=
  ((z_normal_Of N_ Arcs).bind fun y15 => if y15.2.2 = Er.nil then (((z_slices_Equal y15.2.1 Arcs).bind fun y54 => some (y54, Er.nil))) else (some (false, y15.2.2)))

noncomputable def z_viaductref03_SameArcs_l0 (a : List (Int × Int × Int)) (b : List (Int × Int × Int)) (i0 : Int) : Option ((Int) ⊕ ((Bool) ⊕ (Unit))) :=
  if i0 < (a.length : Int) then (G (0 ≤ i0) (G (i0 < (b.length : Int)) (if ((gt a i0).1) = ((gt b i0).1) ∧ ((gt a i0).2.1) = ((gt b i0).2.1) ∧ ((gt a i0).2.2) = ((gt b i0).2.2) then (G ((i0 + 1) ≤ 9223372036854775807) (some (Sum.inl (i0 + 1)))) else ((some false).map fun v => Sum.inr (Sum.inl v))))) else (some (Sum.inr (Sum.inr ())))
noncomputable def z_viaductref03_SameArcs (a : List (Int × Int × Int)) (b : List (Int × Int × Int)) : Option (Bool) :=
  if (a.length : Int) = (b.length : Int) then (((loopO (fun zz_ => z_viaductref03_SameArcs_l0 a b zz_) 0).bind (Sum.elim some fun o10 => some true))) else (some false)

noncomputable def z_viaductref03_Same (N_ : Int) (Arcs : List (Int × Int × Int)) (N_2 : Int) (Arcs_ : List (Int × Int × Int)) : Option (Bool) :=
  if N_ = N_2 then (((z_viaductref03_SameArcs Arcs Arcs_).bind fun y21 => some y21)) else (some false)

noncomputable def z_viaductlaw04_NormalTwice_l0 (y12 : Int × List (Int × Int × Int) × Er) (i0 : Int) : Option ((Int) ⊕ ((Bool) ⊕ (Unit))) :=
  if i0 < (y12.2.1.length : Int) then (G (0 ≤ i0) (if ((gt y12.2.1 i0).1) = ((gt y12.2.1 i0).2.1) then ((some false).map fun v => Sum.inr (Sum.inl v)) else (if i0 > 0 then (G (-9223372036854775808 ≤ (i0 - 1) ∧ (i0 - 1) ≤ 9223372036854775807) (G (0 ≤ (i0 - 1) ∧ (i0 - 1) < (y12.2.1.length : Int)) (if ((gt y12.2.1 i0).1) < ((gt y12.2.1 (i0 - 1)).1) then ((some false).map fun v => Sum.inr (Sum.inl v)) else (G ((i0 - 1) ≤ 9223372036854775807) (if ((gt y12.2.1 i0).1) = ((gt y12.2.1 (i0 - 1)).1) then (if ((gt y12.2.1 i0).2.1) ≤ ((gt y12.2.1 (i0 - 1)).2.1) then ((some false).map fun v => Sum.inr (Sum.inl v)) else (G ((i0 + 1) ≤ 9223372036854775807) (some (Sum.inl (i0 + 1))))) else (G ((i0 + 1) ≤ 9223372036854775807) (some (Sum.inl (i0 + 1))))))))) else (G ((i0 + 1) ≤ 9223372036854775807) (some (Sum.inl (i0 + 1))))))) else (some (Sum.inr (Sum.inr ())))
noncomputable def z_viaductlaw04_NormalTwice (N_ : Int) (Arcs : List (Int × Int × Int)) : Option (Bool) :=
  ((z_normal_Of N_ Arcs).bind fun y12 => ((z_normal_Reverse N_ Arcs).bind fun y45 => if y12.2.2 = Er.nil then (((z_normal_Of y12.1 y12.2.1).bind fun y85 => ((z_normal_Is y12.1 y12.2.1).bind fun y118 => ((z_normal_Reverse y45.1 y45.2.1).bind fun y131 => ((if y45.2.2 = Er.nil then (if y85.2.2 = Er.nil then (if y118.2 = Er.nil then (if y131.2.2 = Er.nil then (if (!y118.1) = true then (some true) else (((z_viaductref03_Same y85.1 y85.2.1 y12.1 y12.2.1).bind fun y197 => if y197 = true then (((z_viaductref03_Same y131.1 y131.2.1 N_ Arcs).bind fun y209 => some (!y209))) else (some true)))) else (some true)) else (some true)) else (some true)) else (some true) : Option (Bool)).bind fun o163 => if o163 = true then (some false) else (((loopO (fun zz_ => z_viaductlaw04_NormalTwice_l0 y12 zz_) 0).bind (Sum.elim some fun o228 => ((z_normal_Of y45.1 y45.2.1).bind fun y316 => ((z_normal_Reverse y12.1 y12.2.1).bind fun y349 => ((z_normal_Of y349.1 y349.2.1).bind fun y381 => if y316.2.2 = Er.nil then (if y349.2.2 = Er.nil then (if y381.2.2 = Er.nil then (((z_viaductref03_Same y316.1 y316.2.1 y381.1 y381.2.1).bind fun y430 => some y430)) else (some false)) else (some false)) else (some false)))))))))))) else (((if y45.2.2 = Er.nil then (some false) else (if y12.1 = 0 then (if (y12.2.1.length : Int) = 0 then (some (decide ((y45.2.1.length : Int) = 0))) else (some false)) else (some false)) : Option (Bool)).bind fun o440 => some o440))))

end Go.Vd
