/- What the functions come to, as plain functions (printed by a program of ours). -/
import Derived.Test.YtjfplpkmbijfpaaDoorVpA
import Derived.Test.YtjfplpkmbijfpaaDoorSo0
set_option maxRecDepth 100000
set_option linter.unusedVariables false
namespace Go.Vd
def enc_i64_i64 (x : Int × Int) : List Value := [.int .i64 x.1, .int .i64 x.2]
def enc_i64_i64_i64 (x : Int × Int × Int) : List Value := [.int .i64 x.1, .int .i64 x.2.1, .int .i64 x.2.2]


noncomputable def z_gtext_within (x : Int) (n_ : Int) : Option (Bool) :=
  if x ≥ 0 then (some (decide (x < n_))) else (some false)

noncomputable def z_gtext_arc (From : Int) (To : Int) (Weight : Int) (n_ : Int) : Option (Er) :=
  ((((z_gtext_within From n_).bind fun y22 => if y22 = true then (((z_gtext_within To n_).bind fun y30 => some (!y30))) else (some true)) : Option (Bool)).bind fun o15 => if o15 = true then (some (Er.no 7)) else (if Weight < 0 then (some (Er.no 8)) else (if Weight > 2147483647 then (some (Er.no 8)) else (some Er.nil))))

noncomputable def z_fault_At (kind : Int) (at_ : Int) (err : Er) : Option (Er) :=
  if err = Er.nil then (some Er.nil) else (some (Er.at kind at_ err))

noncomputable def z_gtext_Check_l0 (N_ : Int) (Arcs : List (Int × Int × Int)) (i0 : Int) : Option ((Int) ⊕ ((Er) ⊕ (Unit))) :=
  if i0 < (Arcs.length : Int) then (G (0 ≤ i0) (((z_gtext_arc ((gt Arcs i0).1) ((gt Arcs i0).2.1) ((gt Arcs i0).2.2) N_).bind fun y76 => if y76 = Er.nil then (G ((i0 + 1) ≤ 9223372036854775807) (some (Sum.inl (i0 + 1)))) else (((z_fault_At 4 i0 y76).bind fun y95 => (some y95).map fun v => Sum.inr (Sum.inl v)))))) else (some (Sum.inr (Sum.inr ())))
noncomputable def z_gtext_Check (N_ : Int) (Arcs : List (Int × Int × Int)) : Option (Er) :=
  ((if N_ < 0 then (some true) else (if N_ > 65536 then (some true) else (some (decide ((Arcs.length : Int) > 262144)))) : Option (Bool)).bind fun o15 => if o15 = true then (some (Er.no 9)) else (((loopO (fun zz_ => z_gtext_Check_l0 N_ Arcs zz_) 0).bind (Sum.elim some fun o36 => some Er.nil))))

noncomputable def z_normal_Reverse_l0 (Arcs : List (Int × Int × Int)) (i0 : Int) (c1 : List (Int × Int × Int)) : Option ((Int × List (Int × Int × Int)) ⊕ (List (Int × Int × Int))) :=
  if i0 < (Arcs.length : Int) then (G (0 ≤ i0) (G (c1.length + 1 ≤ 5864062014549) (G ((i0 + 1) ≤ 9223372036854775807) (some (Sum.inl ((i0 + 1), (c1 ++ [((gt Arcs i0).2.1, (gt Arcs i0).1, (gt Arcs i0).2.2)]))))))) else (some (Sum.inr c1))
noncomputable def z_normal_Reverse (N_ : Int) (Arcs : List (Int × Int × Int)) : Option (Int × List (Int × Int × Int) × Er) :=
  ((z_gtext_Check N_ Arcs).bind fun y29 => if y29 = Er.nil then (((loopO (fun zz_ => z_normal_Reverse_l0 Arcs zz_.1 zz_.2) (0, [])).bind fun o60 => some (N_, o60, Er.nil))) else (some (0, [], y29)))

noncomputable def z_cmp_isNaN (x : Int) : Option (Bool) :=
  some (!decide (x = x))

noncomputable def z_cmp_Compare (x : Int) (y : Int) : Option (Int) :=
  ((z_cmp_isNaN x).bind fun y3 => ((z_cmp_isNaN y).bind fun y9 => if y3 = true then (if y9 = true then (some 0) else (some (-1))) else (if y9 = true then (some 1) else (if x < y then (some (-1)) else (if x > y then (some 1) else (some 0))))))

noncomputable def z_cmp_Or_l0 (vals : List (Int)) (i0 : Int) : Option ((Int) ⊕ ((Int) ⊕ (Unit))) :=
  if i0 < (vals.length : Int) then (G (0 ≤ i0) (if (gt vals i0) = 0 then (G ((i0 + 1) ≤ 9223372036854775807) (some (Sum.inl (i0 + 1)))) else ((some (gt vals i0)).map fun v => Sum.inr (Sum.inl v)))) else (some (Sum.inr (Sum.inr ())))
noncomputable def z_cmp_Or (vals : List (Int)) : Option (Int) :=
  ((loopO (fun zz_ => z_cmp_Or_l0 vals zz_) 0).bind (Sum.elim some fun o5 => some 0))

noncomputable def z_normal_order (From : Int) (To : Int) (Weight : Int) (From_ : Int) (To_ : Int) (Weight_ : Int) : Option (Int) :=
  ((z_cmp_Compare From From_).bind fun y16 => ((z_cmp_Compare To To_).bind fun y21 => ((z_cmp_Compare Weight Weight_).bind fun y26 => ((z_cmp_Or [y16, y21, y26]).bind fun y41 => some y41))))

noncomputable def z_normal_Of_1 (From : Int) (To : Int) (Weight : Int) (From_ : Int) (To_ : Int) (Weight_ : Int) : Option (Bool) :=
  if From = From_ then (some (decide (To = To_))) else (some false)

noncomputable def z_slices_CompactFunc_l0 (k3 : Int) (s0 : List (Int × Int × Int)) (k1 : Int) (k22 : Int) : Option ((List (Int × Int × Int) × Int × Int) ⊕ (List (Int × Int × Int) × Int)) :=
  if k22 < ((s0.drop k3.toNat).length : Int) then (G (0 ≤ k22) (G (-9223372036854775808 ≤ (k22 - 1) ∧ (k22 - 1) ≤ 9223372036854775807) (G (0 ≤ (k22 - 1) ∧ (k22 - 1) < ((s0.drop k3.toNat).length : Int)) (((z_normal_Of_1 ((gt (s0.drop k3.toNat) k22).1) ((gt (s0.drop k3.toNat) k22).2.1) ((gt (s0.drop k3.toNat) k22).2.2) ((gt (s0.drop k3.toNat) (k22 - 1)).1) ((gt (s0.drop k3.toNat) (k22 - 1)).2.1) ((gt (s0.drop k3.toNat) (k22 - 1)).2.2)).bind fun y109 => if (!y109) = true then (G (0 ≤ k1 ∧ k1 < (s0.length : Int)) (G ((k1 + 1) ≤ 9223372036854775807) (G ((k22 + 1) ≤ 9223372036854775807) (some (Sum.inl ((s0.set k1.toNat ((gt (s0.drop k3.toNat) k22).1, (gt (s0.drop k3.toNat) k22).2.1, (gt (s0.drop k3.toNat) k22).2.2)), (k1 + 1), (k22 + 1))))))) else (G ((k22 + 1) ≤ 9223372036854775807) (some (Sum.inl (s0, k1, (k22 + 1)))))))))) else (some (Sum.inr (s0, k1)))
noncomputable def z_slices_CompactFunc_l1 (s : List (Int × Int × Int)) (k3 : Int) : Option ((Int) ⊕ ((List (Int × Int × Int) × List (Int × Int × Int)) ⊕ (Unit))) :=
  if k3 < (s.length : Int) then (G (0 ≤ k3) (G (-9223372036854775808 ≤ (k3 - 1) ∧ (k3 - 1) ≤ 9223372036854775807) (G (0 ≤ (k3 - 1) ∧ (k3 - 1) < (s.length : Int)) (((z_normal_Of_1 ((gt s k3).1) ((gt s k3).2.1) ((gt s k3).2.2) ((gt s (k3 - 1)).1) ((gt s (k3 - 1)).2.1) ((gt s (k3 - 1)).2.2)).bind fun y47 => if y47 = true then (G (0 ≤ k3 ∧ k3 ≤ (s.length : Int)) (((loopO (fun zz_ => z_slices_CompactFunc_l0 k3 zz_.1 zz_.2.1 zz_.2.2) (s, k3, 1)).bind fun o66 => G (0 ≤ o66.2 ∧ o66.2 ≤ (o66.1.length : Int)) (G ((0 : Int) < (o66.1.length : Int)) (G (0 ≤ o66.2 ∧ o66.2 ≤ ((o66.1.take o66.2.toNat ++ List.replicate (o66.1.length - o66.2.toNat) ((0, 0, 0) : Int × Int × Int)).length : Int)) ((some (((o66.1.take o66.2.toNat ++ List.replicate (o66.1.length - o66.2.toNat) ((0, 0, 0) : Int × Int × Int)).take o66.2.toNat), (o66.1.take o66.2.toNat ++ List.replicate (o66.1.length - o66.2.toNat) ((0, 0, 0) : Int × Int × Int)))).map fun v => Sum.inr (Sum.inl v))))))) else (G ((k3 + 1) ≤ 9223372036854775807) (some (Sum.inl (k3 + 1))))))))) else (some (Sum.inr (Sum.inr ())))
noncomputable def z_slices_CompactFunc (s : List (Int × Int × Int)) : Option (List (Int × Int × Int) × List (Int × Int × Int)) :=
  if (s.length : Int) < 2 then (some (s, s)) else (((loopO (fun zz_ => z_slices_CompactFunc_l1 s zz_) 1).bind (Sum.elim some fun o15 => some (s, s))))

noncomputable def z_normal_Of_l0 (Arcs : List (Int × Int × Int)) (i0 : Int) (c1 : List (Int × Int × Int)) : Option ((Int × List (Int × Int × Int)) ⊕ (List (Int × Int × Int))) :=
  if i0 < (Arcs.length : Int) then (G (0 ≤ i0) (if ((gt Arcs i0).1) = ((gt Arcs i0).2.1) then (G ((i0 + 1) ≤ 9223372036854775807) (some (Sum.inl ((i0 + 1), c1)))) else (G (c1.length + 1 ≤ 5864062014549) (G ((i0 + 1) ≤ 9223372036854775807) (some (Sum.inl ((i0 + 1), (c1 ++ [((gt Arcs i0).1, (gt Arcs i0).2.1, (gt Arcs i0).2.2)])))))))) else (some (Sum.inr c1))
noncomputable def z_normal_Of (N_ : Int) (Arcs : List (Int × Int × Int)) : Option (Int × List (Int × Int × Int) × Er) :=
  ((z_gtext_Check N_ Arcs).bind fun y29 => if y29 = Er.nil then (((loopO (fun zz_ => z_normal_Of_l0 Arcs zz_.1 zz_.2) (0, [])).bind fun o60 => G (o60.length ≤ 1000000000000) (((sortO (fun (a_ b_ : Int × Int × Int) => z_normal_order a_.1 a_.2.1 a_.2.2 b_.1 b_.2.1 b_.2.2) o60).bind fun y162 => ((z_slices_CompactFunc y162).bind fun y170 => some (N_, y170.1, Er.nil)))))) else (some (0, [], y29)))

noncomputable def z_csr_flat_l0 (Arcs : List (Int × Int × Int)) (i0 : Int) (c1 : List (Int)) (c2 : List (Int)) (c3 : List (Int)) : Option ((Int × List (Int) × List (Int) × List (Int)) ⊕ (List (Int) × List (Int) × List (Int))) :=
  if i0 < (Arcs.length : Int) then (G (0 ≤ i0) (G (-9223372036854775808 ≤ (((gt Arcs i0).1) + 1) ∧ (((gt Arcs i0).1) + 1) ≤ 9223372036854775807) (G (0 ≤ (((gt Arcs i0).1) + 1) ∧ (((gt Arcs i0).1) + 1) < (c1.length : Int)) (G (-9223372036854775808 ≤ ((gt c1 (((gt Arcs i0).1) + 1)) + 1) ∧ ((gt c1 (((gt Arcs i0).1) + 1)) + 1) ≤ 9223372036854775807) (G (c2.length + 1 ≤ 17592186044160) (G (c3.length + 1 ≤ 17592186044160) (G ((i0 + 1) ≤ 9223372036854775807) (some (Sum.inl ((i0 + 1), (c1.set (((gt Arcs i0).1) + 1).toNat ((gt c1 (((gt Arcs i0).1) + 1)) + 1)), (c2 ++ [(gt Arcs i0).2.1]), (c3 ++ [(gt Arcs i0).2.2]))))))))))) else (some (Sum.inr (c1, c2, c3)))
noncomputable def z_csr_flat_l1 (N_ : Int) (c4 : List (Int)) (i5 : Int) : Option ((List (Int) × Int) ⊕ (List (Int))) :=
  if i5 < N_ then (G (-9223372036854775808 ≤ (i5 + 1) ∧ (i5 + 1) ≤ 9223372036854775807) (G (0 ≤ (i5 + 1) ∧ (i5 + 1) < (c4.length : Int)) (G (0 ≤ i5 ∧ i5 < (c4.length : Int)) (G (-9223372036854775808 ≤ ((gt c4 (i5 + 1)) + (gt c4 i5)) ∧ ((gt c4 (i5 + 1)) + (gt c4 i5)) ≤ 9223372036854775807) (G ((i5 + 1) ≤ 9223372036854775807) (some (Sum.inl ((c4.set (i5 + 1).toNat ((gt c4 (i5 + 1)) + (gt c4 i5))), (i5 + 1))))))))) else (some (Sum.inr c4))
noncomputable def z_csr_flat (N_ : Int) (Arcs : List (Int × Int × Int)) : Option (List (Int) × List (Int) × List (Int)) :=
  G (-9223372036854775808 ≤ (N_ + 1) ∧ (N_ + 1) ≤ 9223372036854775807) (G (0 ≤ (N_ + 1) ∧ 8 * (N_ + 1) ≤ 281474976710656) (((loopO (fun zz_ => z_csr_flat_l0 Arcs zz_.1 zz_.2.1 zz_.2.2.1 zz_.2.2.2) (0, (List.replicate (N_ + 1).toNat (0 : Int)), [], [])).bind fun o63 => ((loopO (fun zz_ => z_csr_flat_l1 N_ zz_.1 zz_.2) (o63.1, 0)).bind fun o227 => some (o227, o63.2.1, o63.2.2)))))

noncomputable def z_csr_Build (N_ : Int) (Arcs : List (Int × Int × Int)) : Option (List (Int) × List (Int) × List (Int) × Er) :=
  ((z_normal_Of N_ Arcs).bind fun y43 => if y43.2.2 = Er.nil then (((z_csr_flat y43.1 y43.2.1).bind fun y82 => some (y82.1, y82.2.1, y82.2.2, Er.nil))) else (some ([], [], [], y43.2.2)))

noncomputable def z_csr_Back (N_ : Int) (Arcs : List (Int × Int × Int)) : Option (List (Int) × List (Int) × List (Int) × Er) :=
  ((z_normal_Reverse N_ Arcs).bind fun y43 => if y43.2.2 = Er.nil then (((z_csr_Build y43.1 y43.2.1).bind fun y82 => some (y82.1, y82.2.1, y82.2.2.1, y82.2.2.2))) else (some ([], [], [], y43.2.2)))

noncomputable def z_viaductlaw05_of (First : List (Int)) (To : List (Int)) (Weight : List (Int)) : Option (Unit) :=
  some ()

noncomputable def z_viaductref02_SameInts_l0 (a : List (Int)) (b : List (Int)) (i0 : Int) : Option ((Int) ⊕ ((Bool) ⊕ (Unit))) :=
  if i0 < (a.length : Int) then (G (0 ≤ i0) (G (i0 < (b.length : Int)) (if (gt a i0) = (gt b i0) then (G ((i0 + 1) ≤ 9223372036854775807) (some (Sum.inl (i0 + 1)))) else ((some false).map fun v => Sum.inr (Sum.inl v))))) else (some (Sum.inr (Sum.inr ())))
noncomputable def z_viaductref02_SameInts (a : List (Int)) (b : List (Int)) : Option (Bool) :=
  if (a.length : Int) = (b.length : Int) then (((loopO (fun zz_ => z_viaductref02_SameInts_l0 a b zz_) 0).bind (Sum.elim some fun o10 => some true))) else (some false)

noncomputable def z_viaductref05_Same (First : List (Int)) (To : List (Int)) (Weight : List (Int)) (First_ : List (Int)) (To_ : List (Int)) (Weight_ : List (Int)) : Option (Bool) :=
  ((z_viaductref02_SameInts First First_).bind fun y21 => if y21 = true then (((z_viaductref02_SameInts To To_).bind fun y31 => if y31 = true then (((z_viaductref02_SameInts Weight Weight_).bind fun y41 => some y41)) else (some false))) else (some false))

noncomputable def z_viaductref01_E (n_ : Int) : Option (Int) :=
  some n_

noncomputable def z_csr_Csr_nodes (First : List (Int)) (To : List (Int)) (Weight : List (Int)) : Option (Int) :=
  G (-9223372036854775808 ≤ ((First.length : Int) - 1) ∧ ((First.length : Int) - 1) ≤ 9223372036854775807) (some ((First.length : Int) - 1))

noncomputable def z_csr_Csr_arc (First : List (Int)) (To : List (Int)) (Weight : List (Int)) (v_ : Int) (i : Int) : Option (Er) :=
  G (0 ≤ i ∧ i < (To.length : Int)) (((if (gt To i) < 0 then (some true) else (((z_csr_Csr_nodes First To Weight).bind fun y31 => some (decide ((gt To i) ≥ y31)))) : Option (Bool)).bind fun o19 => if o19 = true then (some (Er.no 7)) else (((if (gt To i) = v_ then (some true) else (G (0 ≤ v_ ∧ v_ < (First.length : Int)) (if i > (gt First v_) then (G (-9223372036854775808 ≤ (i - 1) ∧ (i - 1) ≤ 9223372036854775807) (G (0 ≤ (i - 1) ∧ (i - 1) < (To.length : Int)) (some (decide ((gt To i) ≤ (gt To (i - 1))))))) else (some false))) : Option (Bool)).bind fun o41 => if o41 = true then (some (Er.no 14)) else (G (i < (Weight.length : Int)) (if (gt Weight i) < 0 then (some (Er.no 8)) else (if (gt Weight i) > 2147483647 then (some (Er.no 8)) else (some Er.nil))))))))

noncomputable def z_csr_Check_l0 (First : List (Int)) (y17 : Int) (i0 : Int) : Option ((Int) ⊕ ((Er) ⊕ (Unit))) :=
  if i0 < y17 then (G (-9223372036854775808 ≤ (i0 + 1) ∧ (i0 + 1) ≤ 9223372036854775807) (G (0 ≤ (i0 + 1) ∧ (i0 + 1) < (First.length : Int)) (G (0 ≤ i0 ∧ i0 < (First.length : Int)) (if (gt First (i0 + 1)) < (gt First i0) then (((z_fault_At 3 i0 (Er.no 14)).bind fun y108 => (some y108).map fun v => Sum.inr (Sum.inl v))) else (G ((i0 + 1) ≤ 9223372036854775807) (some (Sum.inl (i0 + 1)))))))) else (some (Sum.inr (Sum.inr ())))
noncomputable def z_csr_Check_l1 (First : List (Int)) (To : List (Int)) (Weight : List (Int)) (i2 : Int) (i1 : Int) : Option ((Int) ⊕ (((Int) ⊕ ((Er) ⊕ (Unit))) ⊕ (Unit))) :=
  G ((i2 + 1) ≤ 9223372036854775807) (G (0 ≤ (i2 + 1) ∧ (i2 + 1) < (First.length : Int)) (if i1 < (gt First (i2 + 1)) then (((z_csr_Csr_arc First To Weight i2 i1).bind fun y192 => if y192 = Er.nil then (G (-9223372036854775808 ≤ (i1 + 1) ∧ (i1 + 1) ≤ 9223372036854775807) (some (Sum.inl (i1 + 1)))) else (((z_fault_At 4 i1 y192).bind fun y211 => ((some y211).map fun v => Sum.inr (Sum.inl v)).map fun v => Sum.inr (Sum.inl v))))) else (some (Sum.inr (Sum.inr ())))))
noncomputable def z_csr_Check_l2 (First : List (Int)) (To : List (Int)) (Weight : List (Int)) (y17 : Int) (i2 : Int) : Option ((Int) ⊕ ((Er) ⊕ (Unit))) :=
  if i2 < y17 then (G (0 ≤ i2 ∧ i2 < (First.length : Int)) (((loopO (fun zz_ => z_csr_Check_l1 First To Weight i2 zz_) (gt First i2)).bind (Sum.elim some fun o159 => G ((i2 + 1) ≤ 9223372036854775807) (some (Sum.inl (i2 + 1))))))) else (some (Sum.inr (Sum.inr ())))
noncomputable def z_csr_Check (First : List (Int)) (To : List (Int)) (Weight : List (Int)) : Option (Er) :=
  ((z_csr_Csr_nodes First To Weight).bind fun y17 => ((if y17 < 0 then (some true) else (G ((0 : Int) < (First.length : Int)) (if (gt First 0) = 0 then (G (0 ≤ y17 ∧ y17 < (First.length : Int)) (if (gt First y17) = (To.length : Int) then (some (!decide ((To.length : Int) = (Weight.length : Int)))) else (some true))) else (some true))) : Option (Bool)).bind fun o24 => if o24 = true then (some (Er.no 14)) else (((if y17 > 65536 then (some true) else (some (decide ((To.length : Int) > 262144))) : Option (Bool)).bind fun o53 => if o53 = true then (some (Er.no 9)) else (((loopO (fun zz_ => z_csr_Check_l0 First y17 zz_) 0).bind (Sum.elim some fun o71 => ((loopO (fun zz_ => z_csr_Check_l2 First To Weight y17 zz_) 0).bind (Sum.elim some fun o129 => some Er.nil)))))))))

noncomputable def z_viaductref01_Err_Bad (Code : Int) (Places : List (Int × Int)) : Option (Bool) :=
  if Code = 0 then (some (decide ((Places.length : Int) > 0))) else (some true)

noncomputable def z_viaductseen_Same_l0 (Places : List (Int × Int)) (i0 : Int) (e1 : Er) : Option ((Int × Er) ⊕ ((Bool) ⊕ (Er))) :=
  if i0 < (Places.length : Int) then (G (0 ≤ i0) (if Er.isAt e1 = true then (if (Er.fk e1) = ((gt Places i0).1) ∧ (Er.fi e1) = ((gt Places i0).2) then (G ((i0 + 1) ≤ 9223372036854775807) (some (Sum.inl ((i0 + 1), (Er.fe e1))))) else ((some false).map fun v => Sum.inr (Sum.inl v))) else ((some false).map fun v => Sum.inr (Sum.inl v)))) else (some (Sum.inr (Sum.inr e1)))
noncomputable def z_viaductseen_Same_l1 (err : Er) (Code : Int) (i2 : Int) : Option ((Int) ⊕ ((Bool) ⊕ (Unit))) :=
  if i2 ≤ 20 then (if (decide (Er.num err = some i2)) = (decide (i2 = Code)) then (G (-9223372036854775808 ≤ (i2 + 1) ∧ (i2 + 1) ≤ 9223372036854775807) (some (Sum.inl (i2 + 1)))) else ((some false).map fun v => Sum.inr (Sum.inl v))) else (some (Sum.inr (Sum.inr ())))
noncomputable def z_viaductseen_Same (err : Er) (Code : Int) (Places : List (Int × Int)) : Option (Bool) :=
  ((z_viaductref01_Err_Bad Code Places).bind fun y11 => if (!y11) = true then (if err = Er.nil then (some true) else (some false)) else (if err = Er.nil then (some false) else (((loopO (fun zz_ => z_viaductseen_Same_l0 Places zz_.1 zz_.2) (0, err)).bind (Sum.elim some fun o40 => if Er.isAt o40 = true then (some false) else (((if (Er.num err).isSome = true then (some (!decide (((Er.num err).getD 0) = Code))) else (some true) : Option (Bool)).bind fun o160 => if o160 = true then (some false) else (((loopO (fun zz_ => z_viaductseen_Same_l1 err Code zz_) 1).bind (Sum.elim some fun o185 => some true))))))))))

noncomputable def z_viaductref01_At (kind : Int) (at_ : Int) (Code : Int) (Places : List (Int × Int)) : Option (Int × List (Int × Int)) :=
  G ([(kind, at_)].length + Places.length ≤ 8796093021952) (some (Code, ([(kind, at_)] ++ Places)))

noncomputable def z_csr_Csr_row_l0 (First : List (Int)) (To : List (Int)) (Weight : List (Int)) (v_ : Int) (l0 : List (Int × Int × Int)) (i1 : Int) : Option ((List (Int × Int × Int) × Int) ⊕ (List (Int × Int × Int))) :=
  G ((v_ + 1) ≤ 9223372036854775807) (G (0 ≤ (v_ + 1) ∧ (v_ + 1) < (First.length : Int)) (if i1 < (gt First (v_ + 1)) then (G (0 ≤ i1 ∧ i1 < (To.length : Int)) (G (i1 < (Weight.length : Int)) (G (l0.length + [(v_, (gt To i1), (gt Weight i1))].length ≤ 5864062014549) (G ((i1 + 1) ≤ 9223372036854775807) (some (Sum.inl ((l0 ++ [(v_, (gt To i1), (gt Weight i1))]), (i1 + 1)))))))) else (some (Sum.inr l0))))
noncomputable def z_csr_Csr_row (First : List (Int)) (To : List (Int)) (Weight : List (Int)) (v_ : Int) : Option (List (Int × Int × Int)) :=
  G (0 ≤ v_ ∧ v_ < (First.length : Int)) (((loopO (fun zz_ => z_csr_Csr_row_l0 First To Weight v_ zz_.1 zz_.2) ([], (gt First v_))).bind fun o19 => some o19))

noncomputable def z_csr_Row (First : List (Int)) (To : List (Int)) (Weight : List (Int)) (v_ : Int) : Option (List (Int × Int × Int) × Er) :=
  ((z_csr_Check First To Weight).bind fun y24 => if y24 = Er.nil then (((if v_ < 0 then (some true) else (((z_csr_Csr_nodes First To Weight).bind fun y55 => some (decide (v_ ≥ y55)))) : Option (Bool)).bind fun o41 => if o41 = true then (some ([], (Er.no 7))) else (((z_csr_Csr_row First To Weight v_).bind fun y69 => some (y69, Er.nil))))) else (some ([], y24)))

noncomputable def z_csr_Find_1 (From : Int) (To : Int) (Weight : Int) (w : Int) : Option (Int) :=
  G (-9223372036854775808 ≤ (To - w) ∧ (To - w) ≤ 9223372036854775807) (some (To - w))

noncomputable def z_slices_BinarySearchFunc_l0 (x : List (Int × Int × Int)) (target : Int) (j0 : Int) (i1 : Int) : Option ((Int × Int) ⊕ (Int)) :=
  if i1 < j0 then (G (-9223372036854775808 ≤ (i1 + j0) ∧ (i1 + j0) ≤ 9223372036854775807) (G (0 ≤ (i1 + j0) ∧ (i1 + j0) ≤ 18446744073709551615) (G (-9223372036854775808 ≤ ((i1 + j0) / 2) ∧ ((i1 + j0) / 2) ≤ 9223372036854775807) (G (0 ≤ ((i1 + j0) / 2) ∧ ((i1 + j0) / 2) < (x.length : Int)) (((z_csr_Find_1 ((gt x ((i1 + j0) / 2)).1) ((gt x ((i1 + j0) / 2)).2.1) ((gt x ((i1 + j0) / 2)).2.2) target).bind fun y38 => if y38 < 0 then (G ((((i1 + j0) / 2) + 1) ≤ 9223372036854775807) (some (Sum.inl (j0, (((i1 + j0) / 2) + 1))))) else (some (Sum.inl (((i1 + j0) / 2), i1))))))))) else (some (Sum.inr i1))
noncomputable def z_slices_BinarySearchFunc (x : List (Int × Int × Int)) (target : Int) : Option (Int × Bool) :=
  ((loopO (fun zz_ => z_slices_BinarySearchFunc_l0 x target zz_.1 zz_.2) ((x.length : Int), 0)).bind fun o5 => if o5 < (x.length : Int) then (G (0 ≤ o5) (((z_csr_Find_1 ((gt x o5).1) ((gt x o5).2.1) ((gt x o5).2.2) target).bind fun y55 => some (o5, (decide (y55 = 0)))))) else (some (o5, false)))

noncomputable def z_csr_Find (First : List (Int)) (To : List (Int)) (Weight : List (Int)) (v_ : Int) (w : Int) : Option (Int × Er) :=
  ((z_csr_Row First To Weight v_).bind fun y17 => if y17.2 = Er.nil then (((if w < 0 then (some true) else (((z_csr_Csr_nodes First To Weight).bind fun y58 => some (decide (w ≥ y58)))) : Option (Bool)).bind fun o44 => if o44 = true then (some (0, (Er.no 7))) else (((z_slices_BinarySearchFunc y17.1 w).bind fun y69 => if (!y69.2) = true then (some (0, (Er.no 16))) else (G (0 ≤ y69.1 ∧ y69.1 < (y17.1.length : Int)) (some ((gt y17.1 y69.1).2.2, Er.nil))))))) else (some (0, y17.2)))

noncomputable def z_viaductlaw05_CsrFixed : Option (Bool) :=
  ((z_csr_Back 3 [(2, 0, 5), (0, 1, 4), (0, 2, 1)]).bind fun y15 => ((z_csr_Build 0 []).bind fun y69 => ((if y15.2.2.2 = Er.nil then (if y69.2.2.2 = Er.nil then (((z_viaductlaw05_of y15.1 y15.2.1 y15.2.2.1).bind fun y145 => ((z_viaductref05_Same y15.1 y15.2.1 y15.2.2.1 [0, 1, 2, 3] [2, 0, 0] [5, 4, 1]).bind fun y185 => if y185 = true then (((z_viaductlaw05_of y69.1 y69.2.1 y69.2.2.1).bind fun y197 => ((z_viaductref05_Same y69.1 y69.2.1 y69.2.2.1 [0] [] []).bind fun y215 => some (!y215)))) else (some true)))) else (some true)) else (some true) : Option (Bool)).bind fun o124 => if o124 = true then (some false) else (((z_viaductref01_E 14).bind fun y229 => ((((z_csr_Check [] [] []).bind fun y276 => ((z_viaductseen_Same y276 y229 []).bind fun y287 => if y287 = true then (((z_csr_Check [0, 2, 1, 1] [1] [1]).bind fun y328 => ((z_viaductref01_At 3 1 y229 []).bind fun y339 => ((z_viaductseen_Same y328 y339.1 y339.2).bind fun y353 => if y353 = true then (((z_csr_Check [0, 2, 2] [1, 1] [3, 4]).bind fun y394 => ((z_viaductref01_At 4 1 y229 []).bind fun y405 => ((z_viaductseen_Same y394 y405.1 y405.2).bind fun y419 => if y419 = true then (((z_csr_Check [0, 1] [0] [1]).bind fun y460 => ((z_viaductref01_At 4 0 y229 []).bind fun y471 => ((z_viaductseen_Same y460 y471.1 y471.2).bind fun y485 => if y485 = true then (((z_csr_Check [0, 1, 1] [2] [1]).bind fun y525 => ((z_viaductref01_E 7).bind fun y535 => ((z_viaductref01_At 4 0 y535 []).bind fun y540 => ((z_viaductseen_Same y525 y540.1 y540.2).bind fun y554 => if y554 = true then (((z_csr_Check [1, 1] [2] [1]).bind fun y595 => ((z_viaductseen_Same y595 y229 []).bind fun y606 => if y606 = true then (((z_csr_Check (List.replicate (65538 : Int).toNat (0 : Int)) [] []).bind fun y616 => ((z_viaductref01_E 9).bind fun y626 => ((z_viaductseen_Same y616 y626 []).bind fun y632 => if y632 = true then (G (0 ≤ 1 ∧ 1 ≤ ((List.replicate (65538 : Int).toNat (0 : Int)).length : Int)) (((z_csr_Check (((List.replicate (65538 : Int).toNat (0 : Int)).take (List.replicate (65538 : Int).toNat (0 : Int)).length).drop (1 : Int).toNat) [] []).bind fun y651 => if y651 = Er.nil then (some false) else (some true)))) else (some true))))) else (some true)))) else (some true)))))) else (some true))))) else (some true))))) else (some true))))) else (some true))) : Option (Bool)).bind fun o268 => if o268 = true then (some false) else (((z_csr_Row y15.1 y15.2.1 y15.2.2.1 3).bind fun y689 => ((z_csr_Find y15.1 y15.2.1 y15.2.2.1 0 0).bind fun y713 => ((z_csr_Find y15.1 y15.2.1 y15.2.2.1 (-1) 9).bind fun y728 => ((z_csr_Find y15.1 y15.2.1 y15.2.2.1 0 3).bind fun y743 => ((z_csr_Row [1] [] [] 0).bind fun y764 => ((z_viaductref01_E 7).bind fun y784 => ((z_viaductseen_Same y689.2 y784 []).bind fun y790 => if y790 = true then (((z_viaductref01_E 16).bind fun y798 => ((z_viaductseen_Same y713.2 y798 []).bind fun y804 => if y804 = true then (((z_viaductref01_E 7).bind fun y812 => ((z_viaductseen_Same y728.2 y812 []).bind fun y818 => if y818 = true then (((z_viaductref01_E 7).bind fun y826 => ((z_viaductseen_Same y743.2 y826 []).bind fun y832 => if y832 = true then (((z_viaductseen_Same y764.2 y229 []).bind fun y842 => some y842)) else (some false)))) else (some false)))) else (some false)))) else (some false)))))))))))))))

end Go.Vd
