/- What the functions come to, as plain functions (printed by a program of ours). -/
import Derived.Test.YtbjamignglibpaaVpA
import Derived.Test.YtbjamignglibpaaSo0
set_option maxRecDepth 100000
set_option linter.unusedVariables false
namespace Go.Vd
def enc_i64_i64 (x : Int × Int) : List Value := [.int .i64 x.1, .int .i64 x.2]
def enc_i64_i64_i64 (x : Int × Int × Int) : List Value := [.int .i64 x.1, .int .i64 x.2.1, .int .i64 x.2.2]
def enc_u64_u32 (x : Int × Int) : List Value := [.int .u64 x.1, .int .u32 x.2]


noncomputable def z_viaductref01_E (n_ : Int) : Option (Int) :=
  some n_

noncomputable def z_viaductref01_At (kind : Int) (at_ : Int) (Code : Int) (Places : List (Int × Int)) : Option (Int × List (Int × Int)) :=
  G ([(kind, at_)].length + Places.length ≤ 8796093021952) (some (Code, ([(kind, at_)] ++ Places)))

noncomputable def z_viaductref03_DocCheck_l0 (N_ : Int) (Arcs : List (Int × Int × Int)) (i0 : Int) : Option ((Int) ⊕ ((Int × List (Int × Int)) ⊕ (Unit))) :=
  if i0 < (Arcs.length : Int) then (G (0 ≤ i0) (((if ((gt Arcs i0).1) < 0 then (some true) else (if ((gt Arcs i0).1) ≥ N_ then (some true) else (if ((gt Arcs i0).2.1) < 0 then (some true) else (some (decide (((gt Arcs i0).2.1) ≥ N_))))) : Option (Bool)).bind fun o94 => if o94 = true then (((z_viaductref01_E 7).bind fun y114 => ((z_viaductref01_At 4 i0 y114 []).bind fun y119 => (some (y119.1, y119.2)).map fun v => Sum.inr (Sum.inl v)))) else (((if ((gt Arcs i0).2.2) < 0 then (some true) else (some (decide (((gt Arcs i0).2.2) > 2147483647))) : Option (Bool)).bind fun o144 => if o144 = true then (((z_viaductref01_E 8).bind fun y157 => ((z_viaductref01_At 4 i0 y157 []).bind fun y162 => (some (y162.1, y162.2)).map fun v => Sum.inr (Sum.inl v)))) else (G ((i0 + 1) ≤ 9223372036854775807) (some (Sum.inl (i0 + 1))))))))) else (some (Sum.inr (Sum.inr ())))
noncomputable def z_viaductref03_DocCheck (N_ : Int) (Arcs : List (Int × Int × Int)) : Option (Int × List (Int × Int)) :=
  ((if N_ < 0 then (some true) else (if N_ > 65536 then (some true) else (some (decide ((Arcs.length : Int) > 262144)))) : Option (Bool)).bind fun o21 => if o21 = true then (((z_viaductref01_E 9).bind fun y39 => some (y39, []))) else (((loopO (fun zz_ => z_viaductref03_DocCheck_l0 N_ Arcs zz_) 0).bind (Sum.elim some fun o54 => some (0, [])))))

noncomputable def z_viaductref01_Err_Bad (Code : Int) (Places : List (Int × Int)) : Option (Bool) :=
  if Code = 0 then (some (decide ((Places.length : Int) > 0))) else (some true)

noncomputable def z_viaductref04_Few (N_ : Int) (Arcs : List (Int × Int × Int)) (most : Int) : Option (Bool) :=
  ((z_viaductref03_DocCheck N_ Arcs).bind fun y10 => ((z_viaductref01_Err_Bad y10.1 y10.2).bind fun y36 => if y36 = true then (some false) else (if N_ ≤ most then (some (decide ((Arcs.length : Int) ≤ 2000))) else (some false))))

noncomputable def z_gtext_within (x : Int) (n_ : Int) : Option (Bool) :=
  if x ≥ 0 then (some (decide (x < n_))) else (some false)

noncomputable def z_gtext_arc (From : Int) (To : Int) (Weight : Int) (n_ : Int) : Option (Er) :=
  ((((z_gtext_within From n_).bind fun y22 => if y22 = true then (((z_gtext_within To n_).bind fun y30 => some (!y30))) else (some true)) : Option (Bool)).bind fun o15 => if o15 = true then (some (Er.no 7)) else (if Weight < 0 then (some (Er.no 8)) else (if Weight > 2147483647 then (some (Er.no 8)) else (some Er.nil))))

noncomputable def z_fault_At (kind : Int) (at_ : Int) (err : Er) : Option (Er) :=
  if err = Er.nil then (some Er.nil) else (some (Er.at kind at_ err))

noncomputable def z_gtext_Check_l0 (N_ : Int) (Arcs : List (Int × Int × Int)) (i0 : Int) : Option ((Int) ⊕ ((Er) ⊕ (Unit))) :=
  if i0 < (Arcs.length : Int) then (G (0 ≤ i0) (((z_gtext_arc ((gt Arcs i0).1) ((gt Arcs i0).2.1) ((gt Arcs i0).2.2) N_).bind fun y76 => if y76 = Er.nil then (G ((i0 + 1) ≤ 9223372036854775807) (some (Sum.inl (i0 + 1)))) else (((z_fault_At 4 i0 y76).bind fun y95 => (some y95).map fun v => Sum.inr (Sum.inl v)))))) else (some (Sum.inr (Sum.inr ())))
noncomputable def z_gtext_Check (N_ : Int) (Arcs : List (Int × Int × Int)) : Option (Er) :=
  ((if N_ < 0 then (some true) else (if N_ > 65536 then (some true) else (some (decide ((Arcs.length : Int) > 262144)))) : Option (Bool)).bind fun o15 => if o15 = true then (some (Er.no 9)) else (((loopO (fun zz_ => z_gtext_Check_l0 N_ Arcs zz_) 0).bind (Sum.elim some fun o36 => some Er.nil))))

noncomputable def z_cmp_isNaN (x : Int) : Option (Bool) :=
  some (!decide (x = x))

noncomputable def z_cmp_Compare (x : Int) (y : Int) : Option (Int) :=
  ((z_cmp_isNaN x).bind fun y3 => ((z_cmp_isNaN y).bind fun y9 => if y3 = true then (if y9 = true then (some 0) else (some (-1))) else (if y9 = true then (some 1) else (if x < y then (some (-1)) else (if x > y then (some 1) else (some 0))))))

noncomputable def z_cmp_Or_l0 (vals : List (Int)) (i0 : Int) : Option ((Int) ⊕ ((Int) ⊕ (Unit))) :=
  if i0 < (vals.length : Int) then (G (0 ≤ i0) (if (gt vals i0) = 0 then (G ((i0 + 1) ≤ 9223372036854775807) (some (Sum.inl (i0 + 1)))) else ((some (gt vals i0)).map fun v => Sum.inr (Sum.inl v)))) else (some (Sum.inr (Sum.inr ())))
noncomputable def z_cmp_Or (vals : List (Int)) : Option (Int) :=
  ((loopO (fun zz_ => z_cmp_Or_l0 vals zz_) 0).bind (Sum.elim some fun o5 => some 0))

noncomputable def z_normal_order (From : Int) (To : Int) (Weight : Int) (From_ : Int) (To_ : Int) (Weight_ : Int) : Option (Int) :=
  ((z_cmp_Compare From From_).bind fun y16 => ((z_cmp_Compare To To_).bind fun y21 => ((z_cmp_Compare Weight Weight_).bind fun y26 => ((z_cmp_Or [y16, y21, y26]).bind fun y41 => some y41))))

noncomputable def z_normal_Of_1 (From : Int) (To : Int) (Weight : Int) (From_ : Int) (To_ : Int) (Weight_ : Int) : Option (Bool) :=
  if From = From_ then (some (decide (To = To_))) else (some false)

noncomputable def z_slices_CompactFunc_l0 (k3 : Int) (s0 : List (Int × Int × Int)) (k1 : Int) (k22 : Int) : Option ((List (Int × Int × Int) × Int × Int) ⊕ (List (Int × Int × Int) × Int)) :=
  if k22 < ((s0.drop k3.toNat).length : Int) then (G (0 ≤ k22) (G (-9223372036854775808 ≤ (k22 - 1) ∧ (k22 - 1) ≤ 9223372036854775807) (G (0 ≤ (k22 - 1) ∧ (k22 - 1) < ((s0.drop k3.toNat).length : Int)) (((z_normal_Of_1 ((gt (s0.drop k3.toNat) k22).1) ((gt (s0.drop k3.toNat) k22).2.1) ((gt (s0.drop k3.toNat) k22).2.2) ((gt (s0.drop k3.toNat) (k22 - 1)).1) ((gt (s0.drop k3.toNat) (k22 - 1)).2.1) ((gt (s0.drop k3.toNat) (k22 - 1)).2.2)).bind fun y109 => if (!y109) = true then (G (0 ≤ k1 ∧ k1 < (s0.length : Int)) (G ((k1 + 1) ≤ 9223372036854775807) (G ((k22 + 1) ≤ 9223372036854775807) (some (Sum.inl ((s0.set k1.toNat ((gt (s0.drop k3.toNat) k22).1, (gt (s0.drop k3.toNat) k22).2.1, (gt (s0.drop k3.toNat) k22).2.2)), (k1 + 1), (k22 + 1))))))) else (G ((k22 + 1) ≤ 9223372036854775807) (some (Sum.inl (s0, k1, (k22 + 1)))))))))) else (some (Sum.inr (s0, k1)))
noncomputable def z_slices_CompactFunc_l1 (s : List (Int × Int × Int)) (k3 : Int) : Option ((Int) ⊕ ((List (Int × Int × Int) × List (Int × Int × Int)) ⊕ (Unit))) :=
  if k3 < (s.length : Int) then (G (0 ≤ k3) (G (-9223372036854775808 ≤ (k3 - 1) ∧ (k3 - 1) ≤ 9223372036854775807) (G (0 ≤ (k3 - 1) ∧ (k3 - 1) < (s.length : Int)) (((z_normal_Of_1 ((gt s k3).1) ((gt s k3).2.1) ((gt s k3).2.2) ((gt s (k3 - 1)).1) ((gt s (k3 - 1)).2.1) ((gt s (k3 - 1)).2.2)).bind fun y47 => if y47 = true then (G (0 ≤ k3 ∧ k3 ≤ (s.length : Int)) (((loopO (fun zz_ => z_slices_CompactFunc_l0 k3 zz_.1 zz_.2.1 zz_.2.2) (s, k3, 1)).bind fun o66 => G (0 ≤ o66.2 ∧ o66.2 ≤ (o66.1.length : Int)) (G ((0 : Int) < (o66.1.length : Int)) (G (0 ≤ o66.2 ∧ o66.2 ≤ ((o66.1.take o66.2.toNat ++ List.replicate (o66.1.length - o66.2.toNat) (0, 0, 0)).length : Int)) ((some (((o66.1.take o66.2.toNat ++ List.replicate (o66.1.length - o66.2.toNat) (0, 0, 0)).take o66.2.toNat), (o66.1.take o66.2.toNat ++ List.replicate (o66.1.length - o66.2.toNat) (0, 0, 0)))).map fun v => Sum.inr (Sum.inl v))))))) else (G ((k3 + 1) ≤ 9223372036854775807) (some (Sum.inl (k3 + 1))))))))) else (some (Sum.inr (Sum.inr ())))
noncomputable def z_slices_CompactFunc (s : List (Int × Int × Int)) : Option (List (Int × Int × Int) × List (Int × Int × Int)) :=
  if (s.length : Int) < 2 then (some (s, s)) else (((loopO (fun zz_ => z_slices_CompactFunc_l1 s zz_) 1).bind (Sum.elim some fun o15 => some (s, s))))

noncomputable def z_normal_Of_l0 (Arcs : List (Int × Int × Int)) (i0 : Int) (c1 : List (Int × Int × Int)) : Option ((Int × List (Int × Int × Int)) ⊕ (List (Int × Int × Int))) :=
  if i0 < (Arcs.length : Int) then (G (0 ≤ i0) (if ((gt Arcs i0).1) = ((gt Arcs i0).2.1) then (G ((i0 + 1) ≤ 9223372036854775807) (some (Sum.inl ((i0 + 1), c1)))) else (G (c1.length + 1 ≤ 5864062014549) (G ((i0 + 1) ≤ 9223372036854775807) (some (Sum.inl ((i0 + 1), (c1 ++ [((gt Arcs i0).1, (gt Arcs i0).2.1, (gt Arcs i0).2.2)])))))))) else (some (Sum.inr c1))
noncomputable def z_normal_Of (N_ : Int) (Arcs : List (Int × Int × Int)) : Option (Int × List (Int × Int × Int) × Er) :=
  ((z_gtext_Check N_ Arcs).bind fun y29 => if y29 = Er.nil then (((loopO (fun zz_ => z_normal_Of_l0 Arcs zz_.1 zz_.2) (0, [])).bind fun o60 => G (o60.length ≤ 1000000000000) (((sortO (fun (a_ b_ : Int × Int × Int) => z_normal_order a_.1 a_.2.1 a_.2.2 b_.1 b_.2.1 b_.2.2) o60).bind fun y162 => ((z_slices_CompactFunc y162).bind fun y170 => some (N_, y170.1, Er.nil)))))) else (some (0, [], y29)))

noncomputable def z_csr_flat_l0 (Arcs : List (Int × Int × Int)) (i0 : Int) (c1 : List (Int)) (c2 : List (Int)) (c3 : List (Int)) : Option ((Int × List (Int) × List (Int) × List (Int)) ⊕ (List (Int) × List (Int) × List (Int))) :=
  if i0 < (Arcs.length : Int) then (G (0 ≤ i0) (G (-9223372036854775808 ≤ (((gt Arcs i0).1) + 1) ∧ (((gt Arcs i0).1) + 1) ≤ 9223372036854775807) (G (0 ≤ (((gt Arcs i0).1) + 1) ∧ (((gt Arcs i0).1) + 1) < (c1.length : Int)) (G (-9223372036854775808 ≤ ((gt c1 (((gt Arcs i0).1) + 1)) + 1) ∧ ((gt c1 (((gt Arcs i0).1) + 1)) + 1) ≤ 9223372036854775807) (G (c2.length + 1 ≤ 17592186044160) (G (c3.length + 1 ≤ 17592186044160) (G ((i0 + 1) ≤ 9223372036854775807) (some (Sum.inl ((i0 + 1), (c1.set (((gt Arcs i0).1) + 1).toNat ((gt c1 (((gt Arcs i0).1) + 1)) + 1)), (c2 ++ [(gt Arcs i0).2.1]), (c3 ++ [(gt Arcs i0).2.2]))))))))))) else (some (Sum.inr (c1, c2, c3)))
noncomputable def z_csr_flat_l1 (N_ : Int) (c4 : List (Int)) (i5 : Int) : Option ((List (Int) × Int) ⊕ (List (Int))) :=
  if i5 < N_ then (G (-9223372036854775808 ≤ (i5 + 1) ∧ (i5 + 1) ≤ 9223372036854775807) (G (0 ≤ (i5 + 1) ∧ (i5 + 1) < (c4.length : Int)) (G (0 ≤ i5 ∧ i5 < (c4.length : Int)) (G (-9223372036854775808 ≤ ((gt c4 (i5 + 1)) + (gt c4 i5)) ∧ ((gt c4 (i5 + 1)) + (gt c4 i5)) ≤ 9223372036854775807) (G ((i5 + 1) ≤ 9223372036854775807) (some (Sum.inl ((c4.set (i5 + 1).toNat ((gt c4 (i5 + 1)) + (gt c4 i5))), (i5 + 1))))))))) else (some (Sum.inr c4))
noncomputable def z_csr_flat (N_ : Int) (Arcs : List (Int × Int × Int)) : Option (List (Int) × List (Int) × List (Int)) :=
  G (-9223372036854775808 ≤ (N_ + 1) ∧ (N_ + 1) ≤ 9223372036854775807) (G (0 ≤ (N_ + 1) ∧ 8 * (N_ + 1) ≤ 281474976710656) (((loopO (fun zz_ => z_csr_flat_l0 Arcs zz_.1 zz_.2.1 zz_.2.2.1 zz_.2.2.2) (0, (List.replicate (N_ + 1).toNat (0 : Int)), [], [])).bind fun o63 => ((loopO (fun zz_ => z_csr_flat_l1 N_ zz_.1 zz_.2) (o63.1, 0)).bind fun o227 => some (o227, o63.2.1, o63.2.2)))))

noncomputable def z_csr_Build (N_ : Int) (Arcs : List (Int × Int × Int)) : Option (List (Int) × List (Int) × List (Int) × Er) :=
  ((z_normal_Of N_ Arcs).bind fun y43 => if y43.2.2 = Er.nil then (((z_csr_flat y43.1 y43.2.1).bind fun y82 => some (y82.1, y82.2.1, y82.2.2, Er.nil))) else (some ([], [], [], y43.2.2)))

noncomputable def z_normal_Reverse_l0 (Arcs : List (Int × Int × Int)) (i0 : Int) (c1 : List (Int × Int × Int)) : Option ((Int × List (Int × Int × Int)) ⊕ (List (Int × Int × Int))) :=
  if i0 < (Arcs.length : Int) then (G (0 ≤ i0) (G (c1.length + 1 ≤ 5864062014549) (G ((i0 + 1) ≤ 9223372036854775807) (some (Sum.inl ((i0 + 1), (c1 ++ [((gt Arcs i0).2.1, (gt Arcs i0).1, (gt Arcs i0).2.2)]))))))) else (some (Sum.inr c1))
noncomputable def z_normal_Reverse (N_ : Int) (Arcs : List (Int × Int × Int)) : Option (Int × List (Int × Int × Int) × Er) :=
  ((z_gtext_Check N_ Arcs).bind fun y29 => if y29 = Er.nil then (((loopO (fun zz_ => z_normal_Reverse_l0 Arcs zz_.1 zz_.2) (0, [])).bind fun o60 => some (N_, o60, Er.nil))) else (some (0, [], y29)))

noncomputable def z_csr_Back (N_ : Int) (Arcs : List (Int × Int × Int)) : Option (List (Int) × List (Int) × List (Int) × Er) :=
  ((z_normal_Reverse N_ Arcs).bind fun y43 => if y43.2.2 = Er.nil then (((z_csr_Build y43.1 y43.2.1).bind fun y82 => some (y82.1, y82.2.1, y82.2.2.1, y82.2.2.2))) else (some ([], [], [], y43.2.2)))

noncomputable def z_viaductref02_TwinInts_l0 (l : List (Int)) (m0 : List (Int)) (i1 : Int) : Option ((List (Int) × Int) ⊕ (List (Int))) :=
  if i1 < (l.length : Int) then (G (0 ≤ i1) (G (m0.length + 1 ≤ 17592186044160) (G ((i1 + 1) ≤ 9223372036854775807) (some (Sum.inl ((m0 ++ [(gt l i1)]), (i1 + 1))))))) else (some (Sum.inr m0))
noncomputable def z_viaductref02_TwinInts (l : List (Int)) : Option (List (Int)) :=
  ((loopO (fun zz_ => z_viaductref02_TwinInts_l0 l zz_.1 zz_.2) ([], 0)).bind fun o10 => some o10)

noncomputable def z_csr_Csr_nodes (First : List (Int)) (To : List (Int)) (Weight : List (Int)) : Option (Int) :=
  G (-9223372036854775808 ≤ ((First.length : Int) - 1) ∧ ((First.length : Int) - 1) ≤ 9223372036854775807) (some ((First.length : Int) - 1))

noncomputable def z_csr_Csr_arc (First : List (Int)) (To : List (Int)) (Weight : List (Int)) (v_ : Int) (i : Int) : Option (Er) :=
  G (0 ≤ i ∧ i < (To.length : Int)) (((if (gt To i) < 0 then (some true) else (((z_csr_Csr_nodes First To Weight).bind fun y31 => some (decide ((gt To i) ≥ y31)))) : Option (Bool)).bind fun o19 => if o19 = true then (some (Er.no 7)) else (((if (gt To i) = v_ then (some true) else (G (0 ≤ v_ ∧ v_ < (First.length : Int)) (if i > (gt First v_) then (G (-9223372036854775808 ≤ (i - 1) ∧ (i - 1) ≤ 9223372036854775807) (G (0 ≤ (i - 1) ∧ (i - 1) < (To.length : Int)) (some (decide ((gt To i) ≤ (gt To (i - 1))))))) else (some false))) : Option (Bool)).bind fun o41 => if o41 = true then (some (Er.no 14)) else (G (i < (Weight.length : Int)) (if (gt Weight i) < 0 then (some (Er.no 8)) else (if (gt Weight i) > 2147483647 then (some (Er.no 8)) else (some Er.nil))))))))

noncomputable def z_csr_Check_l0 (First : List (Int)) (y17 : Int) (i0 : Int) : Option ((Int) ⊕ ((Er) ⊕ (Unit))) :=
  if i0 < y17 then (G (-9223372036854775808 ≤ (i0 + 1) ∧ (i0 + 1) ≤ 9223372036854775807) (G (0 ≤ (i0 + 1) ∧ (i0 + 1) < (First.length : Int)) (G (0 ≤ i0 ∧ i0 < (First.length : Int)) (if (gt First (i0 + 1)) < (gt First i0) then (((z_fault_At 3 i0 (Er.no 14)).bind fun y108 => (some y108).map fun v => Sum.inr (Sum.inl v))) else (G ((i0 + 1) ≤ 9223372036854775807) (some (Sum.inl (i0 + 1)))))))) else (some (Sum.inr (Sum.inr ())))
noncomputable def z_csr_Check_l1 (First : List (Int)) (To : List (Int)) (Weight : List (Int)) (i2 : Int) (i1 : Int) : Option ((Int) ⊕ (((Int) ⊕ ((Er) ⊕ (Unit))) ⊕ (Unit))) :=
  G ((i2 + 1) ≤ 9223372036854775807) (G (0 ≤ (i2 + 1) ∧ (i2 + 1) < (First.length : Int)) (if i1 < (gt First (i2 + 1)) then (((z_csr_Csr_arc First To Weight i2 i1).bind fun y192 => if y192 = Er.nil then (G (-9223372036854775808 ≤ (i1 + 1) ∧ (i1 + 1) ≤ 9223372036854775807) (some (Sum.inl (i1 + 1)))) else (((z_fault_At 4 i1 y192).bind fun y211 => ((some y211).map fun v => Sum.inr (Sum.inl v)).map fun v => Sum.inr (Sum.inl v))))) else (some (Sum.inr (Sum.inr ())))))
noncomputable def z_csr_Check_l2 (First : List (Int)) (To : List (Int)) (Weight : List (Int)) (y17 : Int) (i2 : Int) : Option ((Int) ⊕ ((Er) ⊕ (Unit))) :=
  if i2 < y17 then (G (0 ≤ i2 ∧ i2 < (First.length : Int)) (((loopO (fun zz_ => z_csr_Check_l1 First To Weight i2 zz_) (gt First i2)).bind (Sum.elim some fun o159 => G ((i2 + 1) ≤ 9223372036854775807) (some (Sum.inl (i2 + 1))))))) else (some (Sum.inr (Sum.inr ())))
noncomputable def z_csr_Check (First : List (Int)) (To : List (Int)) (Weight : List (Int)) : Option (Er) :=
  ((z_csr_Csr_nodes First To Weight).bind fun y17 => ((if y17 < 0 then (some true) else (G ((0 : Int) < (First.length : Int)) (if (gt First 0) = 0 then (G (0 ≤ y17 ∧ y17 < (First.length : Int)) (if (gt First y17) = (To.length : Int) then (some (!decide ((To.length : Int) = (Weight.length : Int)))) else (some true))) else (some true))) : Option (Bool)).bind fun o24 => if o24 = true then (some (Er.no 14)) else (((if y17 > 65536 then (some true) else (some (decide ((To.length : Int) > 262144))) : Option (Bool)).bind fun o53 => if o53 = true then (some (Er.no 9)) else (((loopO (fun zz_ => z_csr_Check_l0 First y17 zz_) 0).bind (Sum.elim some fun o71 => ((loopO (fun zz_ => z_csr_Check_l2 First To Weight y17 zz_) 0).bind (Sum.elim some fun o129 => some Er.nil)))))))))

noncomputable def z_cmp_Less (x : Int) (y : Int) : Option (Bool) :=
  ((z_cmp_isNaN x).bind fun y3 => if y3 = true then (((z_cmp_isNaN y).bind fun y11 => if y11 = true then (some (decide (x < y))) else (some true))) else (some (decide (x < y))))

noncomputable def z_slices_isNaN (x : Int) : Option (Bool) :=
  some (!decide (x = x))

noncomputable def z_slices_BinarySearch_l0 (x : List (Int)) (target : Int) (i0 : Int) (j1 : Int) : Option ((Int × Int) ⊕ (Int)) :=
  if i0 < j1 then (G (-9223372036854775808 ≤ (i0 + j1) ∧ (i0 + j1) ≤ 9223372036854775807) (G (0 ≤ (i0 + j1) ∧ (i0 + j1) ≤ 18446744073709551615) (G (-9223372036854775808 ≤ ((i0 + j1) / 2) ∧ ((i0 + j1) / 2) ≤ 9223372036854775807) (G (0 ≤ ((i0 + j1) / 2) ∧ ((i0 + j1) / 2) < (x.length : Int)) (((z_cmp_Less (gt x ((i0 + j1) / 2)) target).bind fun y37 => if y37 = true then (G ((((i0 + j1) / 2) + 1) ≤ 9223372036854775807) (some (Sum.inl ((((i0 + j1) / 2) + 1), j1)))) else (some (Sum.inl (i0, ((i0 + j1) / 2)))))))))) else (some (Sum.inr i0))
noncomputable def z_slices_BinarySearch (x : List (Int)) (target : Int) : Option (Int × Bool) :=
  ((loopO (fun zz_ => z_slices_BinarySearch_l0 x target zz_.1 zz_.2) (0, (x.length : Int))).bind fun o5 => if o5 < (x.length : Int) then (G (0 ≤ o5) (if (gt x o5) = target then (some (o5, true)) else (((z_slices_isNaN (gt x o5)).bind fun y56 => if y56 = true then (((z_slices_isNaN target).bind fun y64 => some (o5, y64))) else (some (o5, false)))))) else (some (o5, false)))

noncomputable def z_walk_arc (First : List (Int)) (To : List (Int)) (Weight : List (Int)) (v_ : Int) (w : Int) : Option (Int × Er) :=
  G (0 ≤ v_ ∧ v_ < (First.length : Int)) (G ((v_ + 1) ≤ 9223372036854775807) (G (0 ≤ (v_ + 1) ∧ (v_ + 1) < (First.length : Int)) (G (0 ≤ (gt First v_) ∧ (gt First v_) ≤ (gt First (v_ + 1)) ∧ (gt First (v_ + 1)) ≤ (To.length : Int)) (((z_slices_BinarySearch ((To.take (gt First (v_ + 1)).toNat).drop (gt First v_).toNat) w).bind fun y32 => if (!y32.2) = true then (some (0, (Er.no 16))) else (G (-9223372036854775808 ≤ ((gt First v_) + y32.1) ∧ ((gt First v_) + y32.1) ≤ 9223372036854775807) (G (0 ≤ ((gt First v_) + y32.1) ∧ ((gt First v_) + y32.1) < (Weight.length : Int)) (some ((gt Weight ((gt First v_) + y32.1)), Er.nil)))))))))

noncomputable def z_walk_Length_l0 (First : List (Int)) (list : List (Int)) (i0 : Int) : Option ((Int) ⊕ ((Int × Er) ⊕ (Unit))) :=
  if i0 < (list.length : Int) then (G (0 ≤ i0) (((if (gt list i0) < 0 then (some true) else (G (-9223372036854775808 ≤ ((First.length : Int) - 1) ∧ ((First.length : Int) - 1) ≤ 9223372036854775807) (some (decide ((gt list i0) ≥ ((First.length : Int) - 1))))) : Option (Bool)).bind fun o70 => if o70 = true then (((z_fault_At 3 i0 (Er.no 7)).bind fun y87 => (some (0, y87)).map fun v => Sum.inr (Sum.inl v))) else (G ((i0 + 1) ≤ 9223372036854775807) (some (Sum.inl (i0 + 1))))))) else (some (Sum.inr (Sum.inr ())))
noncomputable def z_walk_Length_l1 (First : List (Int)) (To : List (Int)) (Weight : List (Int)) (list : List (Int)) (i1 : Int) (sum2 : Int) : Option ((Int × Int) ⊕ ((Int × Er) ⊕ (Int))) :=
  if i1 < ((list.length : Int) - 1) then (G (0 ≤ i1 ∧ i1 < (list.length : Int)) (G ((i1 + 1) ≤ 9223372036854775807) (G (0 ≤ (i1 + 1) ∧ (i1 + 1) < (list.length : Int)) (((z_walk_arc First To Weight (gt list i1) (gt list (i1 + 1))).bind fun y148 => if y148.2 = Er.nil then (G (0 ≤ y148.1 ∧ y148.1 ≤ 18446744073709551615) (G (0 ≤ (sum2 + y148.1) ∧ (sum2 + y148.1) ≤ 18446744073709551615) (some (Sum.inl ((i1 + 1), (sum2 + y148.1)))))) else (((z_fault_At 4 i1 y148.2).bind fun y170 => (some (0, y170)).map fun v => Sum.inr (Sum.inl v)))))))) else (some (Sum.inr (Sum.inr sum2)))
noncomputable def z_walk_Length (First : List (Int)) (To : List (Int)) (Weight : List (Int)) (list : List (Int)) : Option (Int × Er) :=
  ((z_csr_Check First To Weight).bind fun y18 => if y18 = Er.nil then (if (list.length : Int) = 0 then (some (0, (Er.no 5))) else (((loopO (fun zz_ => z_walk_Length_l0 First list zz_) 0).bind (Sum.elim some fun o42 => G (-9223372036854775808 ≤ ((list.length : Int) - 1) ∧ ((list.length : Int) - 1) ≤ 9223372036854775807) (((loopO (fun zz_ => z_walk_Length_l1 First To Weight list zz_.1 zz_.2) (0, 0)).bind (Sum.elim some fun o111 => some (o111, Er.nil)))))))) else (some (0, y18)))

noncomputable def z_slices_Grow (n_ : Int) : Option (List (Int)) :=
  if n_ < 0 then (none) else (G (-9223372036854775808 ≤ (n_ - 0) ∧ (n_ - 0) ≤ 9223372036854775807) (if (n_ - 0) > 0 then (G (0 ≤ (n_ - 0) ∧ (n_ - 0) ≤ 17592186044160) (G (0 ≤ 0 ∧ 0 ≤ (([] ++ List.replicate (n_ - 0).toNat (0 : Int)).length : Int)) (some (([] ++ List.replicate (n_ - 0).toNat (0 : Int)).take (0 : Int).toNat)))) else (some [])))

noncomputable def z_slices_Concat (slices_ : List (Int)) (slices_2 : List (Int)) : Option (List (Int)) :=
  G (-9223372036854775808 ≤ (0 + (slices_.length : Int)) ∧ (0 + (slices_.length : Int)) ≤ 9223372036854775807) (if (0 + (slices_.length : Int)) < 0 then (none) else (G (-9223372036854775808 ≤ ((0 + (slices_.length : Int)) + (slices_2.length : Int)) ∧ ((0 + (slices_.length : Int)) + (slices_2.length : Int)) ≤ 9223372036854775807) (if ((0 + (slices_.length : Int)) + (slices_2.length : Int)) < 0 then (none) else (((z_slices_Grow ((0 + (slices_.length : Int)) + (slices_2.length : Int))).bind fun y35 => G (y35.length + slices_.length ≤ 17592186044160) (G ((y35 ++ slices_).length + slices_2.length ≤ 17592186044160) (some ((y35 ++ slices_) ++ slices_2))))))))

noncomputable def z_walk_Join (a : List (Int)) (b : List (Int)) : Option (List (Int) × Er) :=
  ((if (a.length : Int) = 0 then (some true) else (some (decide ((b.length : Int) = 0))) : Option (Bool)).bind fun o16 => ((if o16 = true then (some (Er.no 5)) else (G (-9223372036854775808 ≤ ((a.length : Int) - 1) ∧ ((a.length : Int) - 1) ≤ 9223372036854775807) (G (0 ≤ ((a.length : Int) - 1) ∧ ((a.length : Int) - 1) < (a.length : Int)) (G ((0 : Int) < (b.length : Int)) (if (gt a ((a.length : Int) - 1)) = (gt b 0) then (some Er.nil) else (some (Er.no 16)))))) : Option (Er)).bind fun o26 => if o26 = Er.nil then (G (0 ≤ 1 ∧ 1 ≤ (b.length : Int)) (((z_slices_Concat a ((b.take b.length).drop (1 : Int).toNat)).bind fun y78 => some (y78, Er.nil)))) else (some ([], o26))))

noncomputable def z_slices_Reverse_l0 (s0 : List (Int)) (i1 : Int) (j2 : Int) : Option ((List (Int) × Int × Int) ⊕ (List (Int))) :=
  if i1 < j2 then (G (0 ≤ j2 ∧ j2 < (s0.length : Int)) (G (0 ≤ i1 ∧ i1 < (s0.length : Int)) (G (j2 < ((s0.set i1.toNat (gt s0 j2)).length : Int)) (G ((i1 + 1) ≤ 9223372036854775807) (G (-9223372036854775808 ≤ (j2 - 1) ∧ (j2 - 1) ≤ 9223372036854775807) (some (Sum.inl (((s0.set i1.toNat (gt s0 j2)).set j2.toNat (gt s0 i1)), (i1 + 1), (j2 - 1))))))))) else (some (Sum.inr s0))
noncomputable def z_slices_Reverse (s : List (Int)) : Option (List (Int)) :=
  G (-9223372036854775808 ≤ ((s.length : Int) - 1) ∧ ((s.length : Int) - 1) ≤ 9223372036854775807) (((loopO (fun zz_ => z_slices_Reverse_l0 zz_.1 zz_.2.1 zz_.2.2) (s, 0, ((s.length : Int) - 1))).bind fun o6 => some o6))

noncomputable def z_walk_Back (list : List (Int)) : Option (List (Int)) :=
  G (0 ≤ (list.length : Int) ∧ 8 * (list.length : Int) ≤ 281474976710656) (((z_slices_Reverse (list.take (List.replicate list.length (0 : Int)).length ++ (List.replicate list.length (0 : Int)).drop list.length)).bind fun y27 => some y27))

noncomputable def z_search_nodes (First : List (Int)) (To : List (Int)) (Weight : List (Int)) : Option (Int) :=
  G (-9223372036854775808 ≤ ((First.length : Int) - 1) ∧ ((First.length : Int) - 1) ≤ 9223372036854775807) (some ((First.length : Int) - 1))

noncomputable def z_search_node_l0 (First : List (Int)) (To : List (Int)) (Weight : List (Int)) (list : List (Int)) (i0 : Int) : Option ((Int) ⊕ ((Er) ⊕ (Unit))) :=
  if i0 < (list.length : Int) then (G (0 ≤ i0) (if (gt list i0) < 0 then ((some (Er.no 7)).map fun v => Sum.inr (Sum.inl v)) else (((z_search_nodes First To Weight).bind fun y77 => if (gt list i0) ≥ y77 then ((some (Er.no 7)).map fun v => Sum.inr (Sum.inl v)) else (G ((i0 + 1) ≤ 9223372036854775807) (some (Sum.inl (i0 + 1)))))))) else (some (Sum.inr (Sum.inr ())))
noncomputable def z_search_node (First : List (Int)) (To : List (Int)) (Weight : List (Int)) (list : List (Int)) : Option (Er) :=
  ((z_csr_Check First To Weight).bind fun y18 => if y18 = Er.nil then (((loopO (fun zz_ => z_search_node_l0 First To Weight list zz_) 0).bind (Sum.elim some fun o36 => some Er.nil))) else (some y18))

noncomputable def z_search_free : Option (Unit) :=
  some ()

noncomputable def z_heap_New (n_ : Int) : Option ((Unit) ⊕ (List (Int))) :=
  ((if n_ < 0 then (some true) else (some (decide (n_ > 65536))) : Option (Bool)).bind fun o14 => if o14 = true then (some (Sum.inl ())) else (G (0 ≤ n_ ∧ 8 * n_ ≤ 281474976710656) (some (Sum.inr (List.replicate n_.toNat (0 : Int))))))

noncomputable def z_stamp_New (n_ : Int) (age : Int) : Option ((Unit) ⊕ (List (Int × Int) × Int)) :=
  ((if n_ < 0 then (some true) else (some (decide (n_ > 65536))) : Option (Bool)).bind fun o14 => if o14 = true then (some (Sum.inl ())) else (G (0 ≤ n_ ∧ 16 * n_ ≤ 281474976710656) (some (Sum.inr ((List.replicate n_.toNat (0, 0)), (max age 1))))))

noncomputable def z_stamp_Stamp_Set (s_ : List (Int × Int)) (s_2 : Int) (s_3 : Int) (i : Int) (v_ : Int) : Option (Er × List (Int × Int) × Int) :=
  ((if i < 0 then (some true) else (some (decide (i ≥ (s_.length : Int)))) : Option (Bool)).bind fun o15 => if o15 = true then (some ((Er.no 7), s_, s_3)) else (G (0 ≤ i ∧ i < (s_.length : Int)) (((if ((gt s_ i).2) = s_2 then (some s_3) else (G (-9223372036854775808 ≤ (s_3 + 1) ∧ (s_3 + 1) ≤ 9223372036854775807) (some (s_3 + 1))) : Option (Int)).bind fun o33 => some (Er.nil, (s_.set i.toNat (v_, s_2)), o33)))))

noncomputable def z_heap_Heap_check (h_ : List (Int × Int)) (h_2 : List (Int)) (id_ : Int) : Option (Er) :=
  G (-9223372036854775808 ≤ id_ ∧ id_ ≤ 9223372036854775807) (if id_ ≥ (h_2.length : Int) then (some (Er.no 7)) else (some Er.nil))

noncomputable def z_heap_Heap_put (h_ : List (Int × Int)) (h_2 : List (Int)) (i : Int) (key : Int) (id_ : Int) : Option (List (Int × Int) × List (Int)) :=
  G (0 ≤ i ∧ i < (h_.length : Int)) (G ((i + 1) ≤ 9223372036854775807) (G (0 ≤ id_ ∧ id_ < (h_2.length : Int)) (some ((h_.set i.toNat (key, id_)), (h_2.set id_.toNat (i + 1))))))

noncomputable def z_heap_item_less (key : Int) (id_ : Int) (key_ : Int) (id_2 : Int) : Option (Bool) :=
  if key < key_ then (some true) else (if key = key_ then (some (decide (id_ < id_2))) else (some false))

noncomputable def z_heap_Heap_up_l0 (h_ : List (Int × Int)) (i : Int) (h0 : List (Int × Int)) (h1 : List (Int)) (i2 : Int) : Option ((List (Int × Int) × List (Int) × Int) ⊕ (List (Int × Int) × List (Int) × Int)) :=
  if i2 > 0 then (G (-9223372036854775808 ≤ (i2 - 1) ∧ (i2 - 1) ≤ 9223372036854775807) (G (-9223372036854775808 ≤ (Int.tdiv (i2 - 1) 4) ∧ (Int.tdiv (i2 - 1) 4) ≤ 9223372036854775807) (G (0 ≤ (Int.tdiv (i2 - 1) 4) ∧ (Int.tdiv (i2 - 1) 4) < (h0.length : Int)) (((z_heap_item_less ((gt h_ i).1) ((gt h_ i).2) ((gt h0 (Int.tdiv (i2 - 1) 4)).1) ((gt h0 (Int.tdiv (i2 - 1) 4)).2)).bind fun y62 => if (!y62) = true then (some (Sum.inr (h0, h1, i2))) else (((z_heap_Heap_put h0 h1 i2 ((gt h0 (Int.tdiv (i2 - 1) 4)).1) ((gt h0 (Int.tdiv (i2 - 1) 4)).2)).bind fun y76 => some (Sum.inl (y76.1, y76.2, (Int.tdiv (i2 - 1) 4)))))))))) else (some (Sum.inr (h0, h1, i2)))
noncomputable def z_heap_Heap_up (h_ : List (Int × Int)) (h_2 : List (Int)) (i : Int) : Option (List (Int × Int) × List (Int)) :=
  G (0 ≤ i ∧ i < (h_.length : Int)) (((loopO (fun zz_ => z_heap_Heap_up_l0 h_ i zz_.1 zz_.2.1 zz_.2.2) (h_, h_2, i)).bind fun o19 => ((z_heap_Heap_put o19.1 o19.2.1 o19.2.2 ((gt h_ i).1) ((gt h_ i).2)).bind fun y86 => some (y86.1, y86.2))))

noncomputable def z_heap_Heap_down_l0 (h2 : List (Int × Int)) (i4 : Int) (i0 : Int) (best1 : Int) : Option ((Int × Int) ⊕ (Int)) :=
  if i0 < 4 then (G (-9223372036854775808 ≤ (i4 * 4) ∧ (i4 * 4) ≤ 9223372036854775807) (G (-9223372036854775808 ≤ ((i4 * 4) + 1) ∧ ((i4 * 4) + 1) ≤ 9223372036854775807) (G (-9223372036854775808 ≤ (((i4 * 4) + 1) + i0) ∧ (((i4 * 4) + 1) + i0) ≤ 9223372036854775807) (if (((i4 * 4) + 1) + i0) < (h2.length : Int) then (if best1 < 0 then (G (-9223372036854775808 ≤ (i0 + 1) ∧ (i0 + 1) ≤ 9223372036854775807) (some (Sum.inl ((i0 + 1), (((i4 * 4) + 1) + i0))))) else (G (0 ≤ (((i4 * 4) + 1) + i0)) (G (0 ≤ best1 ∧ best1 < (h2.length : Int)) (((z_heap_item_less ((gt h2 (((i4 * 4) + 1) + i0)).1) ((gt h2 (((i4 * 4) + 1) + i0)).2) ((gt h2 best1).1) ((gt h2 best1).2)).bind fun y95 => if y95 = true then (G (-9223372036854775808 ≤ (i0 + 1) ∧ (i0 + 1) ≤ 9223372036854775807) (some (Sum.inl ((i0 + 1), (((i4 * 4) + 1) + i0))))) else (G (-9223372036854775808 ≤ (i0 + 1) ∧ (i0 + 1) ≤ 9223372036854775807) (some (Sum.inl ((i0 + 1), best1))))))))) else (G (-9223372036854775808 ≤ (i0 + 1) ∧ (i0 + 1) ≤ 9223372036854775807) (some (Sum.inl ((i0 + 1), best1)))))))) else (some (Sum.inr best1))
noncomputable def z_heap_Heap_down_l1 (h_ : List (Int × Int)) (i : Int) (h2 : List (Int × Int)) (h3 : List (Int)) (i4 : Int) : Option ((List (Int × Int) × List (Int) × Int) ⊕ (List (Int × Int) × List (Int) × Int)) :=
  ((loopO (fun zz_ => z_heap_Heap_down_l0 h2 i4 zz_.1 zz_.2) (0, (-1))).bind fun o50 => ((if o50 < 0 then (some true) else (G (0 ≤ o50 ∧ o50 < (h2.length : Int)) (((z_heap_item_less ((gt h2 o50).1) ((gt h2 o50).2) ((gt h_ i).1) ((gt h_ i).2)).bind fun y128 => some (!y128)))) : Option (Bool)).bind fun o113 => if o113 = true then (some (Sum.inr (h2, h3, i4))) else (G (0 ≤ o50 ∧ o50 < (h2.length : Int)) (((z_heap_Heap_put h2 h3 i4 ((gt h2 o50).1) ((gt h2 o50).2)).bind fun y144 => some (Sum.inl (y144.1, y144.2, o50)))))))
noncomputable def z_heap_Heap_down (h_ : List (Int × Int)) (h_2 : List (Int)) (i : Int) : Option (List (Int × Int) × List (Int)) :=
  G (0 ≤ i ∧ i < (h_.length : Int)) (((loopO (fun zz_ => z_heap_Heap_down_l1 h_ i zz_.1 zz_.2.1 zz_.2.2) (h_, h_2, i)).bind fun o19 => ((z_heap_Heap_put o19.1 o19.2.1 o19.2.2 ((gt h_ i).1) ((gt h_ i).2)).bind fun y153 => some (y153.1, y153.2))))

noncomputable def z_heap_Heap_Set (h_ : List (Int × Int)) (h_2 : List (Int)) (id_ : Int) (key : Int) : Option (Er × List (Int) × List (Int × Int)) :=
  ((z_heap_Heap_check h_ h_2 id_).bind fun y19 => if y19 = Er.nil then (G (0 ≤ id_ ∧ id_ < (h_2.length : Int)) (G (-9223372036854775808 ≤ ((gt h_2 id_) - 1) ∧ ((gt h_2 id_) - 1) ≤ 9223372036854775807) (((if ((gt h_2 id_) - 1) < 0 then (G (h_.length + 1 ≤ 8796093021952) (some ((h_ ++ [(0, 0)]), (h_.length : Int)))) else (some (h_, ((gt h_2 id_) - 1))) : Option (List (Int × Int) × Int)).bind fun o41 => ((z_heap_Heap_put o41.1 h_2 o41.2 key id_).bind fun y94 => ((z_heap_Heap_up y94.1 y94.2 o41.2).bind fun y103 => G (id_ < (y103.2.length : Int)) (G (-9223372036854775808 ≤ ((gt y103.2 id_) - 1) ∧ ((gt y103.2 id_) - 1) ≤ 9223372036854775807) (((z_heap_Heap_down y103.1 y103.2 ((gt y103.2 id_) - 1)).bind fun y116 => some (Er.nil, y116.2, y116.1)))))))))) else (some (y19, h_2, h_)))

noncomputable def z_search_state_label (st_ : List (Int)) (st_2 : List (Int)) (st_3 : List (Int)) (st_5 : List (Int × Int)) (st_6 : List (Int)) (st_8 : List (Int × Int)) (st_9 : Int) (st_10 : Int) (st_11 : List (Int)) (st_12 : List (Bool)) (v_ : Int) (d : Int) (hops : Int) : Option (List (Int) × List (Int × Int) × List (Int × Int) × Int × List (Int)) :=
  ((z_stamp_Stamp_Set st_8 st_9 st_10 v_ d).bind fun y17 => G (0 ≤ v_ ∧ v_ < (st_11.length : Int)) (G (v_ ≤ 4294967295) (((z_heap_Heap_Set st_5 st_6 v_ d).bind fun y44 => some (y44.2.1, y44.2.2, y17.2.1, y17.2.2, (st_11.set v_.toNat hops))))))

noncomputable def z_heap_Heap_Top (h_ : List (Int × Int)) (h_2 : List (Int)) : Option (Int × Int × Bool) :=
  if (h_.length : Int) = 0 then (some (0, 0, false)) else (G ((0 : Int) < (h_.length : Int)) (some ((gt h_ 0).2, (gt h_ 0).1, true)))

noncomputable def z_heap_Heap_Key (h_ : List (Int × Int)) (h_2 : List (Int)) (id_ : Int) : Option (Int × Bool) :=
  ((((z_heap_Heap_check h_ h_2 id_).bind fun y11 => if y11 = Er.nil then (G (0 ≤ id_ ∧ id_ < (h_2.length : Int)) (some (decide ((gt h_2 id_) = 0)))) else (some true)) : Option (Bool)).bind fun o4 => if o4 = true then (some (0, false)) else (G (0 ≤ id_ ∧ id_ < (h_2.length : Int)) (G (-9223372036854775808 ≤ ((gt h_2 id_) - 1) ∧ ((gt h_2 id_) - 1) ≤ 9223372036854775807) (G (0 ≤ ((gt h_2 id_) - 1) ∧ ((gt h_2 id_) - 1) < (h_.length : Int)) (some ((gt h_ ((gt h_2 id_) - 1)).1, true))))))

noncomputable def z_heap_Heap_Remove (h_ : List (Int × Int)) (h_2 : List (Int)) (id_ : Int) : Option (Bool × List (Int) × List (Int × Int)) :=
  ((z_heap_Heap_Key h_ h_2 id_).bind fun y11 => if (!y11.2) = true then (some (false, h_2, h_)) else (G (0 ≤ id_ ∧ id_ < (h_2.length : Int)) (G (-9223372036854775808 ≤ ((gt h_2 id_) - 1) ∧ ((gt h_2 id_) - 1) ≤ 9223372036854775807) (G (-9223372036854775808 ≤ ((h_.length : Int) - 1) ∧ ((h_.length : Int) - 1) ≤ 9223372036854775807) (G (0 ≤ ((h_.length : Int) - 1) ∧ ((h_.length : Int) - 1) < (h_.length : Int)) (G (0 ≤ ((h_.length : Int) - 1) ∧ ((h_.length : Int) - 1) ≤ (h_.length : Int)) (if ((gt h_2 id_) - 1) < ((h_.length : Int) - 1) then (((z_heap_Heap_put (h_.take ((h_.length : Int) - 1).toNat) (h_2.set id_.toNat 0) ((gt h_2 id_) - 1) ((gt h_ ((h_.length : Int) - 1)).1) ((gt h_ ((h_.length : Int) - 1)).2)).bind fun y71 => ((z_heap_Heap_up y71.1 y71.2 ((gt h_2 id_) - 1)).bind fun y80 => G (0 ≤ (gt h_ ((h_.length : Int) - 1)).2 ∧ (gt h_ ((h_.length : Int) - 1)).2 < (y80.2.length : Int)) (G (-9223372036854775808 ≤ ((gt y80.2 ((gt h_ ((h_.length : Int) - 1)).2)) - 1) ∧ ((gt y80.2 ((gt h_ ((h_.length : Int) - 1)).2)) - 1) ≤ 9223372036854775807) (((z_heap_Heap_down y80.1 y80.2 ((gt y80.2 ((gt h_ ((h_.length : Int) - 1)).2)) - 1)).bind fun y93 => some (true, y93.2, y93.1))))))) else (some (true, (h_2.set id_.toNat 0), (h_.take ((h_.length : Int) - 1).toNat))))))))))

noncomputable def z_heap_Heap_Pop (h_ : List (Int × Int)) (h_2 : List (Int)) : Option (Int × Int × Bool × List (Int) × List (Int × Int)) :=
  ((z_heap_Heap_Top h_ h_2).bind fun y10 => if y10.2.2 = true then (((z_heap_Heap_Remove h_ h_2 y10.1).bind fun y19 => some (y10.1, y10.2.1, y10.2.2, y19.2.1, y19.2.2))) else (some (y10.1, y10.2.1, y10.2.2, h_2, h_)))

noncomputable def z_stamp_Stamp_Get (s_ : List (Int × Int)) (s_2 : Int) (s_3 : Int) (i : Int) : Option (Int × Bool) :=
  ((if i < 0 then (some true) else (if i ≥ (s_.length : Int) then (some true) else (G (0 ≤ i ∧ i < (s_.length : Int)) (some (!decide (((gt s_ i).2) = s_2))))) : Option (Bool)).bind fun o4 => if o4 = true then (some (0, false)) else (G (0 ≤ i ∧ i < (s_.length : Int)) (some ((gt s_ i).1, true))))

noncomputable def z_search_state_settle_l0 (st_ : List (Int)) (st_2 : List (Int)) (st_3 : List (Int)) (st_9 : Int) (st_12 : List (Bool)) (v_ : Int) (d : Int) (st0 : List (Int × Int)) (st1 : List (Int)) (st2 : List (Int × Int)) (st3 : Int) (st4 : List (Int)) (i5 : Int) : Option ((List (Int × Int) × List (Int) × List (Int × Int) × Int × List (Int) × Int) ⊕ (List (Int) × List (Int × Int) × List (Int × Int) × Int × List (Int))) :=
  G ((v_ + 1) ≤ 9223372036854775807) (G (0 ≤ (v_ + 1) ∧ (v_ + 1) < (st_.length : Int)) (if i5 < (gt st_ (v_ + 1)) then (G (0 ≤ i5 ∧ i5 < (st_2.length : Int)) (G (i5 < (st_3.length : Int)) (G (0 ≤ (gt st_3 i5) ∧ (gt st_3 i5) ≤ 18446744073709551615) (G (0 ≤ (d + (gt st_3 i5)) ∧ (d + (gt st_3 i5)) ≤ 18446744073709551615) (((z_stamp_Stamp_Get st2 st_9 st3 (gt st_2 i5)).bind fun y122 => ((G (0 ≤ (gt st_2 i5) ∧ (gt st_2 i5) < ((st_12.set v_.toNat true).length : Int)) (if (!(gt (st_12.set v_.toNat true) (gt st_2 i5))) = true then (if (!y122.2) = true then (some true) else (some (decide ((d + (gt st_3 i5)) < y122.1)))) else (some false)) : Option (Bool)).bind fun o128 => if o128 = true then (G (v_ < (st4.length : Int)) (G (-9223372036854775808 ≤ ((gt st4 v_) + 1) ∧ ((gt st4 v_) + 1) ≤ 9223372036854775807) (((z_search_state_label st_ st_2 st_3 st0 st1 st2 st_9 st3 st4 (st_12.set v_.toNat true) (gt st_2 i5) (d + (gt st_3 i5)) ((gt st4 v_) + 1)).bind fun y151 => G ((i5 + 1) ≤ 9223372036854775807) (some (Sum.inl (y151.2.1, y151.1, y151.2.2.1, y151.2.2.2.1, y151.2.2.2.2, (i5 + 1)))))))) else (G ((i5 + 1) ≤ 9223372036854775807) (some (Sum.inl (st0, st1, st2, st3, st4, (i5 + 1)))))))))))) else (some (Sum.inr (st1, st0, st2, st3, st4)))))
noncomputable def z_search_state_settle (st_ : List (Int)) (st_2 : List (Int)) (st_3 : List (Int)) (st_5 : List (Int × Int)) (st_6 : List (Int)) (st_8 : List (Int × Int)) (st_9 : Int) (st_10 : Int) (st_11 : List (Int)) (st_12 : List (Bool)) (v_ : Int) (d : Int) (hops : Int) : Option (List (Int) × List (Int × Int) × List (Int × Int) × Int × List (Int) × List (Bool)) :=
  G (0 ≤ v_ ∧ v_ < (st_12.length : Int)) (G (v_ < (st_11.length : Int)) (if (gt st_11 v_) ≥ hops then (some (st_6, st_5, st_8, st_10, st_11, (st_12.set v_.toNat true))) else (G (v_ < (st_.length : Int)) (((loopO (fun zz_ => z_search_state_settle_l0 st_ st_2 st_3 st_9 st_12 v_ d zz_.1 zz_.2.1 zz_.2.2.1 zz_.2.2.2.1 zz_.2.2.2.2.1 zz_.2.2.2.2.2) (st_5, st_6, st_8, st_10, st_11, (gt st_ v_))).bind fun o43 => some (o43.1, o43.2.1, o43.2.2.1, o43.2.2.2.1, o43.2.2.2.2, (st_12.set v_.toNat true)))))))

noncomputable def z_search_run_l0 (First : List (Int)) (To : List (Int)) (Weight : List (Int)) (hops : Int) (settles : Int) (most : Int) (y157 : List (Int × Int) × Int) (st0 : List (Int × Int)) (st1 : List (Int)) (st2 : List (Int × Int)) (st3 : Int) (st4 : List (Int)) (st5 : List (Bool)) (count6 : Int) : Option ((List (Int × Int) × List (Int) × List (Int × Int) × Int × List (Int) × List (Bool) × Int) ⊕ (List (Int × Int) × List (Int) × List (Int × Int) × Int × List (Int) × List (Bool))) :=
  if count6 < settles then (((z_heap_Heap_Top st0 st1).bind fun y273 => ((if (!y273.2.2) = true then (some true) else (some (decide (y273.2.1 > most))) : Option (Bool)).bind fun o280 => if o280 = true then (some (Sum.inr (st0, st1, st2, st3, st4, st5))) else (((z_heap_Heap_Pop st0 st1).bind fun y294 => G (-9223372036854775808 ≤ y273.1 ∧ y273.1 ≤ 9223372036854775807) (((z_search_state_settle First To Weight y294.2.2.2.2 y294.2.2.2.1 st2 y157.2 st3 st4 st5 y273.1 y273.2.1 hops).bind fun y318 => G (-9223372036854775808 ≤ (count6 + 1) ∧ (count6 + 1) ≤ 9223372036854775807) (some (Sum.inl (y318.2.1, y318.1, y318.2.2.1, y318.2.2.2.1, y318.2.2.2.2.1, y318.2.2.2.2.2, (count6 + 1))))))))))) else (some (Sum.inr (st0, st1, st2, st3, st4, st5)))
noncomputable def z_search_run (First : List (Int)) (To : List (Int)) (Weight : List (Int)) (s : Int) (hops : Int) (settles : Int) (most : Int) : Option (List (Int × Int) × List (Int) × List (Int × Int) × Int × Int × List (Int) × List (Bool)) :=
  ((z_search_nodes First To Weight).bind fun y84 => G (0 ≤ y84 ∧ 8 * y84 ≤ 281474976710656) (G (0 ≤ y84 ∧ 1 * y84 ≤ 281474976710656) (((z_heap_New y84).bind (Sum.elim (fun (_ : Unit) => none) (fun (y130 : List (Int)) => ((z_stamp_New y84 1).bind (Sum.elim (fun (_ : Unit) => none) (fun (y157 : List (Int × Int) × Int) => ((z_search_state_label First To Weight [] y130 y157.1 y157.2 0 (List.replicate y84.toNat (0 : Int)) (List.replicate y84.toNat (false : Bool)) s 0 0).bind fun y189 => ((loopO (fun zz_ => z_search_run_l0 First To Weight hops settles most y157 zz_.1 zz_.2.1 zz_.2.2.1 zz_.2.2.2.1 zz_.2.2.2.2.1 zz_.2.2.2.2.2.1 zz_.2.2.2.2.2.2) (y189.2.1, y189.1, y189.2.2.1, y189.2.2.2.1, y189.2.2.2.2, (List.replicate y84.toNat (false : Bool)), 0)).bind fun o209 => some (o209.1, o209.2.1, o209.2.2.1, y157.2, o209.2.2.2.1, o209.2.2.2.2.1, o209.2.2.2.2.2))))))))))))

noncomputable def z_search_state_all_l0 (st_8 : List (Int × Int)) (st_9 : Int) (st_10 : Int) (y8 : Int) (i0 : Int) (l1 : List (Int)) : Option ((Int × List (Int)) ⊕ (List (Int))) :=
  if i0 < ((List.replicate y8.toNat (0 : Int)).length : Int) then (((z_stamp_Stamp_Get st_8 st_9 st_10 i0).bind fun y59 => if (!y59.2) = true then (G (0 ≤ i0 ∧ i0 < (l1.length : Int)) (G ((i0 + 1) ≤ 9223372036854775807) (some (Sum.inl ((i0 + 1), (l1.set i0.toNat 18446744073709551615)))))) else (G (0 ≤ i0 ∧ i0 < (l1.length : Int)) (G ((i0 + 1) ≤ 9223372036854775807) (some (Sum.inl ((i0 + 1), (l1.set i0.toNat y59.1)))))))) else (some (Sum.inr l1))
noncomputable def z_search_state_all (st_ : List (Int)) (st_2 : List (Int)) (st_3 : List (Int)) (st_5 : List (Int × Int)) (st_6 : List (Int)) (st_8 : List (Int × Int)) (st_9 : Int) (st_10 : Int) (st_11 : List (Int)) (st_12 : List (Bool)) : Option (List (Int)) :=
  ((z_search_nodes st_ st_2 st_3).bind fun y8 => G (0 ≤ y8 ∧ 8 * y8 ≤ 281474976710656) (((loopO (fun zz_ => z_search_state_all_l0 st_8 st_9 st_10 y8 zz_.1 zz_.2) (0, (List.replicate y8.toNat (0 : Int)))).bind fun o27 => some o27)))

noncomputable def z_search_From (First : List (Int)) (To : List (Int)) (Weight : List (Int)) (s : Int) : Option (List (Int) × Er) :=
  ((z_search_node First To Weight [s]).bind fun y34 => if y34 = Er.nil then (((z_search_free).bind fun y51 => ((z_search_run First To Weight s 4611686018427387904 4611686018427387904 18446744073709551615).bind fun y60 => ((z_search_state_all First To Weight y60.1 y60.2.1 y60.2.2.1 y60.2.2.2.1 y60.2.2.2.2.1 y60.2.2.2.2.2.1 y60.2.2.2.2.2.2).bind fun y148 => some (y148, Er.nil))))) else (some ([], y34)))

noncomputable def z_walk_Shortest (First : List (Int)) (To : List (Int)) (Weight : List (Int)) (list : List (Int)) : Option (Bool × Er) :=
  ((z_walk_Length First To Weight list).bind fun y18 => if y18.2 = Er.nil then (G ((0 : Int) < (list.length : Int)) (((z_search_From First To Weight (gt list 0)).bind fun y42 => if y42.2 = Er.nil then (G (-9223372036854775808 ≤ ((list.length : Int) - 1) ∧ ((list.length : Int) - 1) ≤ 9223372036854775807) (G (0 ≤ ((list.length : Int) - 1) ∧ ((list.length : Int) - 1) < (list.length : Int)) (G (0 ≤ (gt list ((list.length : Int) - 1)) ∧ (gt list ((list.length : Int) - 1)) < (y42.1.length : Int)) (some ((decide ((gt y42.1 (gt list ((list.length : Int) - 1))) = y18.1)), Er.nil))))) else (some (false, y42.2))))) else (some (false, y18.2)))

noncomputable def z_viaductref02_SameInts_l0 (a : List (Int)) (b : List (Int)) (i0 : Int) : Option ((Int) ⊕ ((Bool) ⊕ (Unit))) :=
  if i0 < (a.length : Int) then (G (0 ≤ i0) (G (i0 < (b.length : Int)) (if (gt a i0) = (gt b i0) then (G ((i0 + 1) ≤ 9223372036854775807) (some (Sum.inl (i0 + 1)))) else ((some false).map fun v => Sum.inr (Sum.inl v))))) else (some (Sum.inr (Sum.inr ())))
noncomputable def z_viaductref02_SameInts (a : List (Int)) (b : List (Int)) : Option (Bool) :=
  if (a.length : Int) = (b.length : Int) then (((loopO (fun zz_ => z_viaductref02_SameInts_l0 a b zz_) 0).bind (Sum.elim some fun o10 => some true))) else (some false)

noncomputable def z_viaductlaw09_WalkJoins (N_ : Int) (Arcs : List (Int × Int × Int)) (l : List (Int)) (k : Int) : Option (Bool) :=
  ((((z_viaductref04_Few N_ Arcs 25).bind fun y20 => if y20 = true then (if (l.length : Int) > 200 then (some true) else (if k < 0 then (some true) else (some (decide (k ≥ (l.length : Int)))))) else (some true)) : Option (Bool)).bind fun o12 => if o12 = true then (some true) else (((z_csr_Build N_ Arcs).bind fun y44 => ((z_csr_Back N_ Arcs).bind fun y100 => ((if y44.2.2.2 = Er.nil then (if y100.2.2.2 = Er.nil then (some false) else (some true)) else (some true) : Option (Bool)).bind fun o155 => if o155 = true then (some false) else (((z_viaductref02_TwinInts l).bind fun y181 => ((z_walk_Length y44.1 y44.2.1 y44.2.2.1 y181).bind fun y198 => if y198.2 = Er.nil then (G (-9223372036854775808 ≤ (k + 1) ∧ (k + 1) ≤ 9223372036854775807) (G (0 ≤ (k + 1) ∧ (k + 1) ≤ (l.length : Int)) (G (0 ≤ k ∧ k ≤ (l.length : Int)) (((z_viaductref02_TwinInts ((l.take (k + 1).toNat).drop 0)).bind fun y238 => ((z_viaductref02_TwinInts ((l.take l.length).drop k.toNat)).bind fun y253 => ((z_walk_Length y44.1 y44.2.1 y44.2.2.1 y238).bind fun y272 => ((z_walk_Length y44.1 y44.2.1 y44.2.2.1 y253).bind fun y288 => ((z_walk_Join y238 y253).bind fun y301 => ((z_viaductref02_TwinInts l).bind fun y323 => ((z_walk_Back y323).bind fun y337 => ((z_walk_Length y100.1 y100.2.1 y100.2.2.1 y337).bind fun y354 => ((z_viaductref02_TwinInts l).bind fun y367 => ((z_walk_Shortest y44.1 y44.2.1 y44.2.2.1 y367).bind fun y384 => ((z_walk_Shortest y44.1 y44.2.1 y44.2.2.1 y238).bind fun y400 => ((if y272.2 = Er.nil then (if y288.2 = Er.nil then (if y301.2 = Er.nil then (if y354.2 = Er.nil then (if y384.2 = Er.nil then (if y400.2 = Er.nil then (some false) else (some true)) else (some true)) else (some true)) else (some true)) else (some true)) else (some true) : Option (Bool)).bind fun o412 => if o412 = true then (some false) else (G (0 ≤ (y272.1 + y288.1) ∧ (y272.1 + y288.1) ≤ 18446744073709551615) (if (y272.1 + y288.1) = y198.1 then (if y354.1 = y198.1 then (((z_viaductref02_SameInts y301.1 l).bind fun y467 => if y467 = true then (if (!y384.1) = true then (some true) else (some y400.1)) else (some false))) else (some false)) else (some false))))))))))))))))))) else (some (decide (y198.1 = 0)))))))))))

end Go.Vd
