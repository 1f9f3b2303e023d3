/- What the functions come to, as plain functions (printed by a program of ours). -/
import Derived.Test.YtccnpeeakadnoaaVpA
import Derived.Test.YtccnpeeakadnoaaSo0
set_option maxRecDepth 100000
set_option linter.unusedVariables false
namespace Go.Vd
def enc_i64_i64 (x : Int × Int) : List Value := [.int .i64 x.1, .int .i64 x.2]
def enc_i64_i64_i64 (x : Int × Int × Int) : List Value := [.int .i64 x.1, .int .i64 x.2.1, .int .i64 x.2.2]


noncomputable def z_viaductlaw05_great (N_ : Int) (Arcs : List (Int × Int × Int)) : Option (Bool) :=
  if (Arcs.length : Int) > 3000 then (some (decide ((Arcs.length : Int) ≤ 262144))) else (some false)

noncomputable def z_viaductref03_Spare (N_ : Int) (Arcs : List (Int × Int × Int)) : Option (Int × List (Int × Int × Int) × List (Int × Int × Int)) :=
  G (((Arcs.length : Int) + 2) ≤ 9223372036854775807) (G ((0 : Int) ≤ 0 ∧ 0 ≤ ((Arcs.length : Int) + 2) ∧ 24 * ((Arcs.length : Int) + 2) ≤ 281474976710656) (G ((List.replicate (0 : Int).toNat ((0, 0, 0) : Int × Int × Int)).length + Arcs.length ≤ ((Arcs.length : Int) + 2).toNat) (G (((List.replicate (0 : Int).toNat ((0, 0, 0) : Int × Int × Int)) ++ Arcs).length + [(41, 0, 0), (42, 0, 0)].length ≤ ((Arcs.length : Int) + 2).toNat) (G (0 ≤ (Arcs.length : Int) ∧ (Arcs.length : Int) ≤ ((((List.replicate (0 : Int).toNat ((0, 0, 0) : Int × Int × Int)) ++ Arcs) ++ [(41, 0, 0), (42, 0, 0)]).length : Int)) (some (N_, ((((List.replicate (0 : Int).toNat ((0, 0, 0) : Int × Int × Int)) ++ Arcs) ++ [(41, 0, 0), (42, 0, 0)]).take Arcs.length), (((List.replicate (0 : Int).toNat ((0, 0, 0) : Int × Int × Int)) ++ Arcs) ++ [(41, 0, 0), (42, 0, 0)])))))))

noncomputable def z_gtext_within (x : Int) (n_ : Int) : Option (Bool) :=
  if x ≥ 0 then (some (decide (x < n_))) else (some false)

noncomputable def z_gtext_arc (From : Int) (To : Int) (Weight : Int) (n_ : Int) : Option (Er) :=
  ((((z_gtext_within From n_).bind fun y22 => if y22 = true then (((z_gtext_within To n_).bind fun y30 => some (!y30))) else (some true)) : Option (Bool)).bind fun o15 => if o15 = true then (some (Er.no 7)) else (if Weight < 0 then (some (Er.no 8)) else (if Weight > 2147483647 then (some (Er.no 8)) else (some Er.nil))))

noncomputable def z_fault_At (kind : Int) (at_ : Int) (err : Er) : Option (Er) :=
  if err = Er.nil then (some Er.nil) else (some (Er.at kind at_ err))

noncomputable def z_gtext_Check_l0 (N_ : Int) (Arcs : List (Int × Int × Int)) (i0 : Int) : Option ((Int) ⊕ ((Er) ⊕ (Unit))) :=
  if i0 < (Arcs.length : Int) then (G (0 ≤ i0) (((z_gtext_arc ((gt Arcs i0).1) ((gt Arcs i0).2.1) ((gt Arcs i0).2.2) N_).bind fun y76 => if y76 = Er.nil then (G ((i0 + 1) ≤ 9223372036854775807) (some (Sum.inl (i0 + 1)))) else (((z_fault_At 4 i0 y76).bind fun y95 => (some y95).map fun v => Sum.inr (Sum.inl v)))))) else (some (Sum.inr (Sum.inr ())))
noncomputable def z_gtext_Check (N_ : Int) (Arcs : List (Int × Int × Int)) : Option (Er) :=
  ((if N_ < 0 then (some true) else (if N_ > 65536 then (some true) else (some (decide ((Arcs.length : Int) > 262144)))) : Option (Bool)).bind fun o15 => if o15 = true then (some (Er.no 9)) else (((loopO (fun zz_ => z_gtext_Check_l0 N_ Arcs zz_) 0).bind (Sum.elim some fun o36 => some Er.nil))))

noncomputable def z_cmp_isNaN (x : Int) : Option (Bool) :=
  some (!decide (x = x))

noncomputable def z_cmp_Compare (x : Int) (y : Int) : Option (Int) :=
  ((z_cmp_isNaN x).bind fun y3 => ((z_cmp_isNaN y).bind fun y9 => if y3 = true then (if y9 = true then (some 0) else (some (-1))) else (if y9 = true then (some 1) else (if x < y then (some (-1)) else (if x > y then (some 1) else (some 0))))))

noncomputable def z_cmp_Or_l0 (vals : List (Int)) (i0 : Int) : Option ((Int) ⊕ ((Int) ⊕ (Unit))) :=
  if i0 < (vals.length : Int) then (G (0 ≤ i0) (if (gt vals i0) = 0 then (G ((i0 + 1) ≤ 9223372036854775807) (some (Sum.inl (i0 + 1)))) else ((some (gt vals i0)).map fun v => Sum.inr (Sum.inl v)))) else (some (Sum.inr (Sum.inr ())))
noncomputable def z_cmp_Or (vals : List (Int)) : Option (Int) :=
  ((loopO (fun zz_ => z_cmp_Or_l0 vals zz_) 0).bind (Sum.elim some fun o5 => some 0))

noncomputable def z_normal_order (From : Int) (To : Int) (Weight : Int) (From_ : Int) (To_ : Int) (Weight_ : Int) : Option (Int) :=
  ((z_cmp_Compare From From_).bind fun y16 => ((z_cmp_Compare To To_).bind fun y21 => ((z_cmp_Compare Weight Weight_).bind fun y26 => ((z_cmp_Or [y16, y21, y26]).bind fun y41 => some y41))))

noncomputable def z_normal_Of_1 (From : Int) (To : Int) (Weight : Int) (From_ : Int) (To_ : Int) (Weight_ : Int) : Option (Bool) :=
  if From = From_ then (some (decide (To = To_))) else (some false)

noncomputable def z_slices_CompactFunc_l0 (k3 : Int) (s0 : List (Int × Int × Int)) (k1 : Int) (k22 : Int) : Option ((List (Int × Int × Int) × Int × Int) ⊕ (List (Int × Int × Int) × Int)) :=
  if k22 < ((s0.drop k3.toNat).length : Int) then (G (0 ≤ k22) (G (-9223372036854775808 ≤ (k22 - 1) ∧ (k22 - 1) ≤ 9223372036854775807) (G (0 ≤ (k22 - 1) ∧ (k22 - 1) < ((s0.drop k3.toNat).length : Int)) (((z_normal_Of_1 ((gt (s0.drop k3.toNat) k22).1) ((gt (s0.drop k3.toNat) k22).2.1) ((gt (s0.drop k3.toNat) k22).2.2) ((gt (s0.drop k3.toNat) (k22 - 1)).1) ((gt (s0.drop k3.toNat) (k22 - 1)).2.1) ((gt (s0.drop k3.toNat) (k22 - 1)).2.2)).bind fun y109 => if (!y109) = true then (G (0 ≤ k1 ∧ k1 < (s0.length : Int)) (G ((k1 + 1) ≤ 9223372036854775807) (G ((k22 + 1) ≤ 9223372036854775807) (some (Sum.inl ((s0.set k1.toNat ((gt (s0.drop k3.toNat) k22).1, (gt (s0.drop k3.toNat) k22).2.1, (gt (s0.drop k3.toNat) k22).2.2)), (k1 + 1), (k22 + 1))))))) else (G ((k22 + 1) ≤ 9223372036854775807) (some (Sum.inl (s0, k1, (k22 + 1)))))))))) else (some (Sum.inr (s0, k1)))
noncomputable def z_slices_CompactFunc_l1 (s : List (Int × Int × Int)) (k3 : Int) : Option ((Int) ⊕ ((List (Int × Int × Int) × List (Int × Int × Int)) ⊕ (Unit))) :=
  if k3 < (s.length : Int) then (G (0 ≤ k3) (G (-9223372036854775808 ≤ (k3 - 1) ∧ (k3 - 1) ≤ 9223372036854775807) (G (0 ≤ (k3 - 1) ∧ (k3 - 1) < (s.length : Int)) (((z_normal_Of_1 ((gt s k3).1) ((gt s k3).2.1) ((gt s k3).2.2) ((gt s (k3 - 1)).1) ((gt s (k3 - 1)).2.1) ((gt s (k3 - 1)).2.2)).bind fun y47 => if y47 = true then (G (0 ≤ k3 ∧ k3 ≤ (s.length : Int)) (((loopO (fun zz_ => z_slices_CompactFunc_l0 k3 zz_.1 zz_.2.1 zz_.2.2) (s, k3, 1)).bind fun o66 => G (0 ≤ o66.2 ∧ o66.2 ≤ (o66.1.length : Int)) (G ((0 : Int) < (o66.1.length : Int)) (G (0 ≤ o66.2 ∧ o66.2 ≤ ((o66.1.take o66.2.toNat ++ List.replicate (o66.1.length - o66.2.toNat) ((0, 0, 0) : Int × Int × Int)).length : Int)) ((some (((o66.1.take o66.2.toNat ++ List.replicate (o66.1.length - o66.2.toNat) ((0, 0, 0) : Int × Int × Int)).take o66.2.toNat), (o66.1.take o66.2.toNat ++ List.replicate (o66.1.length - o66.2.toNat) ((0, 0, 0) : Int × Int × Int)))).map fun v => Sum.inr (Sum.inl v))))))) else (G ((k3 + 1) ≤ 9223372036854775807) (some (Sum.inl (k3 + 1))))))))) else (some (Sum.inr (Sum.inr ())))
noncomputable def z_slices_CompactFunc (s : List (Int × Int × Int)) : Option (List (Int × Int × Int) × List (Int × Int × Int)) :=
  if (s.length : Int) < 2 then (some (s, s)) else (((loopO (fun zz_ => z_slices_CompactFunc_l1 s zz_) 1).bind (Sum.elim some fun o15 => some (s, s))))

noncomputable def z_normal_Of_l0 (Arcs : List (Int × Int × Int)) (i0 : Int) (c1 : List (Int × Int × Int)) : Option ((Int × List (Int × Int × Int)) ⊕ (List (Int × Int × Int))) :=
  if i0 < (Arcs.length : Int) then (G (0 ≤ i0) (if ((gt Arcs i0).1) = ((gt Arcs i0).2.1) then (G ((i0 + 1) ≤ 9223372036854775807) (some (Sum.inl ((i0 + 1), c1)))) else (G (c1.length + 1 ≤ 9382499223278) (G ((i0 + 1) ≤ 9223372036854775807) (some (Sum.inl ((i0 + 1), (c1 ++ [((gt Arcs i0).1, (gt Arcs i0).2.1, (gt Arcs i0).2.2)])))))))) else (some (Sum.inr c1))
noncomputable def z_normal_Of (N_ : Int) (Arcs : List (Int × Int × Int)) : Option (Int × List (Int × Int × Int) × Er) :=
  ((z_gtext_Check N_ Arcs).bind fun y29 => if y29 = Er.nil then (((loopO (fun zz_ => z_normal_Of_l0 Arcs zz_.1 zz_.2) (0, [])).bind fun o60 => G (o60.length ≤ 1000000000000) (((sortO (fun (a_ b_ : Int × Int × Int) => z_normal_order a_.1 a_.2.1 a_.2.2 b_.1 b_.2.1 b_.2.2) o60).bind fun y162 => ((z_slices_CompactFunc y162).bind fun y170 => some (N_, y170.1, Er.nil)))))) else (some (0, [], y29)))

noncomputable def z_csr_flat_l0 (Arcs : List (Int × Int × Int)) (i0 : Int) (c1 : List (Int)) (c2 : List (Int)) (c3 : List (Int)) : Option ((Int × List (Int) × List (Int) × List (Int)) ⊕ (List (Int) × List (Int) × List (Int))) :=
  if i0 < (Arcs.length : Int) then (G (0 ≤ i0) (G (-9223372036854775808 ≤ (((gt Arcs i0).1) + 1) ∧ (((gt Arcs i0).1) + 1) ≤ 9223372036854775807) (G (0 ≤ (((gt Arcs i0).1) + 1) ∧ (((gt Arcs i0).1) + 1) < (c1.length : Int)) (G (-9223372036854775808 ≤ ((gt c1 (((gt Arcs i0).1) + 1)) + 1) ∧ ((gt c1 (((gt Arcs i0).1) + 1)) + 1) ≤ 9223372036854775807) (G (c2.length + 1 ≤ 28147497670656) (G (c3.length + 1 ≤ 28147497670656) (G ((i0 + 1) ≤ 9223372036854775807) (some (Sum.inl ((i0 + 1), (c1.set (((gt Arcs i0).1) + 1).toNat ((gt c1 (((gt Arcs i0).1) + 1)) + 1)), (c2 ++ [(gt Arcs i0).2.1]), (c3 ++ [(gt Arcs i0).2.2]))))))))))) else (some (Sum.inr (c1, c2, c3)))
noncomputable def z_csr_flat_l1 (N_ : Int) (c4 : List (Int)) (i5 : Int) : Option ((List (Int) × Int) ⊕ (List (Int))) :=
  if i5 < N_ then (G (-9223372036854775808 ≤ (i5 + 1) ∧ (i5 + 1) ≤ 9223372036854775807) (G (0 ≤ (i5 + 1) ∧ (i5 + 1) < (c4.length : Int)) (G (0 ≤ i5 ∧ i5 < (c4.length : Int)) (G (-9223372036854775808 ≤ ((gt c4 (i5 + 1)) + (gt c4 i5)) ∧ ((gt c4 (i5 + 1)) + (gt c4 i5)) ≤ 9223372036854775807) (G ((i5 + 1) ≤ 9223372036854775807) (some (Sum.inl ((c4.set (i5 + 1).toNat ((gt c4 (i5 + 1)) + (gt c4 i5))), (i5 + 1))))))))) else (some (Sum.inr c4))
noncomputable def z_csr_flat (N_ : Int) (Arcs : List (Int × Int × Int)) : Option (List (Int) × List (Int) × List (Int)) :=
  G (-9223372036854775808 ≤ (N_ + 1) ∧ (N_ + 1) ≤ 9223372036854775807) (G (0 ≤ (N_ + 1) ∧ 8 * (N_ + 1) ≤ 281474976710656) (((loopO (fun zz_ => z_csr_flat_l0 Arcs zz_.1 zz_.2.1 zz_.2.2.1 zz_.2.2.2) (0, (List.replicate (N_ + 1).toNat (0 : Int)), [], [])).bind fun o63 => ((loopO (fun zz_ => z_csr_flat_l1 N_ zz_.1 zz_.2) (o63.1, 0)).bind fun o227 => some (o227, o63.2.1, o63.2.2)))))

noncomputable def z_csr_Build (N_ : Int) (Arcs : List (Int × Int × Int)) : Option (List (Int) × List (Int) × List (Int) × Er) :=
  ((z_normal_Of N_ Arcs).bind fun y43 => if y43.2.2 = Er.nil then (((z_csr_flat y43.1 y43.2.1).bind fun y82 => some (y82.1, y82.2.1, y82.2.2, Er.nil))) else (some ([], [], [], y43.2.2)))

noncomputable def z_csr_Csr_nodes (First : List (Int)) (To : List (Int)) (Weight : List (Int)) : Option (Int) :=
  G (-9223372036854775808 ≤ ((First.length : Int) - 1) ∧ ((First.length : Int) - 1) ≤ 9223372036854775807) (some ((First.length : Int) - 1))

noncomputable def z_csr_Csr_arc (First : List (Int)) (To : List (Int)) (Weight : List (Int)) (v_ : Int) (i : Int) : Option (Er) :=
  G (0 ≤ i ∧ i < (To.length : Int)) (((if (gt To i) < 0 then (some true) else (((z_csr_Csr_nodes First To Weight).bind fun y31 => some (decide ((gt To i) ≥ y31)))) : Option (Bool)).bind fun o19 => if o19 = true then (some (Er.no 7)) else (((if (gt To i) = v_ then (some true) else (G (0 ≤ v_ ∧ v_ < (First.length : Int)) (if i > (gt First v_) then (G (-9223372036854775808 ≤ (i - 1) ∧ (i - 1) ≤ 9223372036854775807) (G (0 ≤ (i - 1) ∧ (i - 1) < (To.length : Int)) (some (decide ((gt To i) ≤ (gt To (i - 1))))))) else (some false))) : Option (Bool)).bind fun o41 => if o41 = true then (some (Er.no 14)) else (G (i < (Weight.length : Int)) (if (gt Weight i) < 0 then (some (Er.no 8)) else (if (gt Weight i) > 2147483647 then (some (Er.no 8)) else (some Er.nil))))))))

noncomputable def z_csr_Check_l0 (First : List (Int)) (y17 : Int) (i0 : Int) : Option ((Int) ⊕ ((Er) ⊕ (Unit))) :=
  if i0 < y17 then (G (-9223372036854775808 ≤ (i0 + 1) ∧ (i0 + 1) ≤ 9223372036854775807) (G (0 ≤ (i0 + 1) ∧ (i0 + 1) < (First.length : Int)) (G (0 ≤ i0 ∧ i0 < (First.length : Int)) (if (gt First (i0 + 1)) < (gt First i0) then (((z_fault_At 3 i0 (Er.no 14)).bind fun y108 => (some y108).map fun v => Sum.inr (Sum.inl v))) else (G ((i0 + 1) ≤ 9223372036854775807) (some (Sum.inl (i0 + 1)))))))) else (some (Sum.inr (Sum.inr ())))
noncomputable def z_csr_Check_l1 (First : List (Int)) (To : List (Int)) (Weight : List (Int)) (i2 : Int) (i1 : Int) : Option ((Int) ⊕ (((Int) ⊕ ((Er) ⊕ (Unit))) ⊕ (Unit))) :=
  G ((i2 + 1) ≤ 9223372036854775807) (G (0 ≤ (i2 + 1) ∧ (i2 + 1) < (First.length : Int)) (if i1 < (gt First (i2 + 1)) then (((z_csr_Csr_arc First To Weight i2 i1).bind fun y192 => if y192 = Er.nil then (G (-9223372036854775808 ≤ (i1 + 1) ∧ (i1 + 1) ≤ 9223372036854775807) (some (Sum.inl (i1 + 1)))) else (((z_fault_At 4 i1 y192).bind fun y211 => ((some y211).map fun v => Sum.inr (Sum.inl v)).map fun v => Sum.inr (Sum.inl v))))) else (some (Sum.inr (Sum.inr ())))))
noncomputable def z_csr_Check_l2 (First : List (Int)) (To : List (Int)) (Weight : List (Int)) (y17 : Int) (i2 : Int) : Option ((Int) ⊕ ((Er) ⊕ (Unit))) :=
  if i2 < y17 then (G (0 ≤ i2 ∧ i2 < (First.length : Int)) (((loopO (fun zz_ => z_csr_Check_l1 First To Weight i2 zz_) (gt First i2)).bind (Sum.elim some fun o159 => G ((i2 + 1) ≤ 9223372036854775807) (some (Sum.inl (i2 + 1))))))) else (some (Sum.inr (Sum.inr ())))
noncomputable def z_csr_Check (First : List (Int)) (To : List (Int)) (Weight : List (Int)) : Option (Er) :=
  ((z_csr_Csr_nodes First To Weight).bind fun y17 => ((if y17 < 0 then (some true) else (G ((0 : Int) < (First.length : Int)) (if (gt First 0) = 0 then (G (0 ≤ y17 ∧ y17 < (First.length : Int)) (if (gt First y17) = (To.length : Int) then (some (!decide ((To.length : Int) = (Weight.length : Int)))) else (some true))) else (some true))) : Option (Bool)).bind fun o24 => if o24 = true then (some (Er.no 14)) else (((if y17 > 65536 then (some true) else (some (decide ((To.length : Int) > 262144))) : Option (Bool)).bind fun o53 => if o53 = true then (some (Er.no 9)) else (((loopO (fun zz_ => z_csr_Check_l0 First y17 zz_) 0).bind (Sum.elim some fun o71 => ((loopO (fun zz_ => z_csr_Check_l2 First To Weight y17 zz_) 0).bind (Sum.elim some fun o129 => some Er.nil)))))))))

noncomputable def z_csr_Csr_row_l0 (First : List (Int)) (To : List (Int)) (Weight : List (Int)) (v_ : Int) (l0 : List (Int × Int × Int)) (i1 : Int) : Option ((List (Int × Int × Int) × Int) ⊕ (List (Int × Int × Int))) :=
  G ((v_ + 1) ≤ 9223372036854775807) (G (0 ≤ (v_ + 1) ∧ (v_ + 1) < (First.length : Int)) (if i1 < (gt First (v_ + 1)) then (G (0 ≤ i1 ∧ i1 < (To.length : Int)) (G (i1 < (Weight.length : Int)) (G (l0.length + [(v_, (gt To i1), (gt Weight i1))].length ≤ 9382499223278) (G ((i1 + 1) ≤ 9223372036854775807) (some (Sum.inl ((l0 ++ [(v_, (gt To i1), (gt Weight i1))]), (i1 + 1)))))))) else (some (Sum.inr l0))))
noncomputable def z_csr_Csr_row (First : List (Int)) (To : List (Int)) (Weight : List (Int)) (v_ : Int) : Option (List (Int × Int × Int)) :=
  G (0 ≤ v_ ∧ v_ < (First.length : Int)) (((loopO (fun zz_ => z_csr_Csr_row_l0 First To Weight v_ zz_.1 zz_.2) ([], (gt First v_))).bind fun o19 => some o19))

noncomputable def z_csr_Graph_l0 (First : List (Int)) (To : List (Int)) (Weight : List (Int)) (y51 : Int) (i0 : Int) (g1 : List (Int × Int × Int)) : Option ((Int × List (Int × Int × Int)) ⊕ (List (Int × Int × Int))) :=
  if i0 < y51 then (((z_csr_Csr_row First To Weight i0).bind fun y113 => G (g1.length + y113.length ≤ 9382499223278) (G (-9223372036854775808 ≤ (i0 + 1) ∧ (i0 + 1) ≤ 9223372036854775807) (some (Sum.inl ((i0 + 1), (g1 ++ y113))))))) else (some (Sum.inr g1))
noncomputable def z_csr_Graph (First : List (Int)) (To : List (Int)) (Weight : List (Int)) : Option (Int × List (Int × Int × Int) × Er) :=
  ((z_csr_Check First To Weight).bind fun y31 => if y31 = Er.nil then (((z_csr_Csr_nodes First To Weight).bind fun y51 => ((loopO (fun zz_ => z_csr_Graph_l0 First To Weight y51 zz_.1 zz_.2) (0, [])).bind fun o68 => some (y51, o68, Er.nil)))) else (some (0, [], y31)))

noncomputable def z_csr_Row (First : List (Int)) (To : List (Int)) (Weight : List (Int)) (v_ : Int) : Option (List (Int × Int × Int) × Er) :=
  ((z_csr_Check First To Weight).bind fun y24 => if y24 = Er.nil then (((if v_ < 0 then (some true) else (((z_csr_Csr_nodes First To Weight).bind fun y55 => some (decide (v_ ≥ y55)))) : Option (Bool)).bind fun o41 => if o41 = true then (some ([], (Er.no 7))) else (((z_csr_Csr_row First To Weight v_).bind fun y69 => some (y69, Er.nil))))) else (some ([], y24)))

noncomputable def z_viaductref03_SameArcs_l0 (a : List (Int × Int × Int)) (b : List (Int × Int × Int)) (i0 : Int) : Option ((Int) ⊕ ((Bool) ⊕ (Unit))) :=
  if i0 < (a.length : Int) then (G (0 ≤ i0) (G (i0 < (b.length : Int)) (if ((gt a i0).1) = ((gt b i0).1) ∧ ((gt a i0).2.1) = ((gt b i0).2.1) ∧ ((gt a i0).2.2) = ((gt b i0).2.2) then (G ((i0 + 1) ≤ 9223372036854775807) (some (Sum.inl (i0 + 1)))) else ((some false).map fun v => Sum.inr (Sum.inl v))))) else (some (Sum.inr (Sum.inr ())))
noncomputable def z_viaductref03_SameArcs (a : List (Int × Int × Int)) (b : List (Int × Int × Int)) : Option (Bool) :=
  if (a.length : Int) = (b.length : Int) then (((loopO (fun zz_ => z_viaductref03_SameArcs_l0 a b zz_) 0).bind (Sum.elim some fun o10 => some true))) else (some false)

noncomputable def z_viaductref03_Kept (N_ : Int) (Arcs : List (Int × Int × Int)) (full : List (Int × Int × Int)) : Option (Bool) :=
  G (((Arcs.length : Int) + 2) ≤ 9223372036854775807) (if (full.length : Int) = ((Arcs.length : Int) + 2) then (G (0 ≤ (Arcs.length : Int) ∧ (Arcs.length : Int) ≤ (full.length : Int)) (((z_viaductref03_SameArcs ((full.take Arcs.length).drop 0) Arcs).bind fun y25 => if y25 = true then (G (0 ≤ (Arcs.length : Int) ∧ (Arcs.length : Int) < (full.length : Int)) (if ((gt full (Arcs.length : Int)).1) = 41 ∧ ((gt full (Arcs.length : Int)).2.1) = 0 ∧ ((gt full (Arcs.length : Int)).2.2) = 0 then (G (((Arcs.length : Int) + 1) ≤ 9223372036854775807) (G (0 ≤ ((Arcs.length : Int) + 1) ∧ ((Arcs.length : Int) + 1) < (full.length : Int)) (some (decide (((gt full ((Arcs.length : Int) + 1)).1) = 42 ∧ ((gt full ((Arcs.length : Int) + 1)).2.1) = 0 ∧ ((gt full ((Arcs.length : Int) + 1)).2.2) = 0))))) else (some false))) else (some false)))) else (some false))

noncomputable def z_viaductref01_E (n_ : Int) : Option (Int) :=
  some n_

noncomputable def z_viaductref01_At (kind : Int) (at_ : Int) (Code : Int) (Places : List (Int × Int)) : Option (Int × List (Int × Int)) :=
  G ([(kind, at_)].length + Places.length ≤ 14073748835123) (some (Code, ([(kind, at_)] ++ Places)))

noncomputable def z_viaductref03_DocCheck_l0 (N_ : Int) (Arcs : List (Int × Int × Int)) (i0 : Int) : Option ((Int) ⊕ ((Int × List (Int × Int)) ⊕ (Unit))) :=
  if i0 < (Arcs.length : Int) then (G (0 ≤ i0) (((if ((gt Arcs i0).1) < 0 then (some true) else (if ((gt Arcs i0).1) ≥ N_ then (some true) else (if ((gt Arcs i0).2.1) < 0 then (some true) else (some (decide (((gt Arcs i0).2.1) ≥ N_))))) : Option (Bool)).bind fun o94 => if o94 = true then (((z_viaductref01_E 7).bind fun y114 => ((z_viaductref01_At 4 i0 y114 []).bind fun y119 => (some (y119.1, y119.2)).map fun v => Sum.inr (Sum.inl v)))) else (((if ((gt Arcs i0).2.2) < 0 then (some true) else (some (decide (((gt Arcs i0).2.2) > 2147483647))) : Option (Bool)).bind fun o144 => if o144 = true then (((z_viaductref01_E 8).bind fun y157 => ((z_viaductref01_At 4 i0 y157 []).bind fun y162 => (some (y162.1, y162.2)).map fun v => Sum.inr (Sum.inl v)))) else (G ((i0 + 1) ≤ 9223372036854775807) (some (Sum.inl (i0 + 1))))))))) else (some (Sum.inr (Sum.inr ())))
noncomputable def z_viaductref03_DocCheck (N_ : Int) (Arcs : List (Int × Int × Int)) : Option (Int × List (Int × Int)) :=
  ((if N_ < 0 then (some true) else (if N_ > 65536 then (some true) else (some (decide ((Arcs.length : Int) > 262144)))) : Option (Bool)).bind fun o21 => if o21 = true then (((z_viaductref01_E 9).bind fun y39 => some (y39, []))) else (((loopO (fun zz_ => z_viaductref03_DocCheck_l0 N_ Arcs zz_) 0).bind (Sum.elim some fun o54 => some (0, [])))))

noncomputable def z_viaductref01_Err_Bad (Code : Int) (Places : List (Int × Int)) : Option (Bool) :=
  if Code = 0 then (some (decide ((Places.length : Int) > 0))) else (some true)

noncomputable def z_viaductref04_less (From : Int) (To : Int) (Weight : Int) (From_ : Int) (To_ : Int) (Weight_ : Int) : Option (Bool) :=
  if From < From_ then (some true) else (if From = From_ then (some (decide (To < To_))) else (some false))

noncomputable def z_viaductref04_Put_l0 (l : List (Int × Int × Int)) (From : Int) (To : Int) (Weight : Int) (i0 : Int) : Option ((Int) ⊕ (Int)) :=
  if i0 < (l.length : Int) then (G (0 ≤ i0) (((z_viaductref04_less ((gt l i0).1) ((gt l i0).2.1) ((gt l i0).2.2) From To Weight).bind fun y41 => if y41 = true then (G ((i0 + 1) ≤ 9223372036854775807) (some (Sum.inl (i0 + 1)))) else (some (Sum.inr i0))))) else (some (Sum.inr i0))
noncomputable def z_viaductref04_Put (l : List (Int × Int × Int)) (From : Int) (To : Int) (Weight : Int) : Option (List (Int × Int × Int)) :=
  ((loopO (fun zz_ => z_viaductref04_Put_l0 l From To Weight zz_) 0).bind fun o15 => G (0 ≤ o15 ∧ o15 ≤ (l.length : Int)) (G (0 + ((l.take o15.toNat).drop 0).length ≤ 9382499223278) (((if o15 < (l.length : Int) then (G (0 ≤ o15) (if ((gt l o15).1) = From then (some (decide (((gt l o15).2.1) = To))) else (some false))) else (some false) : Option (Bool)).bind fun o79 => if o79 = true then (G (0 ≤ o15 ∧ o15 < (l.length : Int)) (G (([] ++ ((l.take o15.toNat).drop 0)).length + 1 ≤ 9382499223278) (G ((o15 + 1) ≤ 9223372036854775807) (G (0 ≤ (o15 + 1) ∧ (o15 + 1) ≤ (l.length : Int)) (G ((([] ++ ((l.take o15.toNat).drop 0)) ++ [(From, To, (min Weight ((gt l o15).2.2)))]).length + ((l.take l.length).drop (o15 + 1).toNat).length ≤ 9382499223278) (some ((([] ++ ((l.take o15.toNat).drop 0)) ++ [(From, To, (min Weight ((gt l o15).2.2)))]) ++ ((l.take l.length).drop (o15 + 1).toNat)))))))) else (G (([] ++ ((l.take o15.toNat).drop 0)).length + 1 ≤ 9382499223278) (G ((([] ++ ((l.take o15.toNat).drop 0)) ++ [(From, To, Weight)]).length + ((l.take l.length).drop o15.toNat).length ≤ 9382499223278) (some ((([] ++ ((l.take o15.toNat).drop 0)) ++ [(From, To, Weight)]) ++ ((l.take l.length).drop o15.toNat)))))))))

noncomputable def z_viaductref04_Of_l0 (Arcs : List (Int × Int × Int)) (i0 : Int) (c1 : List (Int × Int × Int)) : Option ((Int × List (Int × Int × Int)) ⊕ (List (Int × Int × Int))) :=
  if i0 < (Arcs.length : Int) then (G (0 ≤ i0) (if ((gt Arcs i0).1) = ((gt Arcs i0).2.1) then (G ((i0 + 1) ≤ 9223372036854775807) (some (Sum.inl ((i0 + 1), c1)))) else (((z_viaductref04_Put c1 ((gt Arcs i0).1) ((gt Arcs i0).2.1) ((gt Arcs i0).2.2)).bind fun y94 => G ((i0 + 1) ≤ 9223372036854775807) (some (Sum.inl ((i0 + 1), y94))))))) else (some (Sum.inr c1))
noncomputable def z_viaductref04_Of (N_ : Int) (Arcs : List (Int × Int × Int)) : Option (Int × List (Int × Int × Int)) :=
  ((loopO (fun zz_ => z_viaductref04_Of_l0 Arcs zz_.1 zz_.2) (0, [])).bind fun o35 => some (N_, o35))

noncomputable def z_viaductref04_DocOf (N_ : Int) (Arcs : List (Int × Int × Int)) : Option (Int × List (Int × Int × Int) × Int × List (Int × Int)) :=
  ((z_viaductref03_DocCheck N_ Arcs).bind fun y35 => ((z_viaductref01_Err_Bad y35.1 y35.2).bind fun y61 => if y61 = true then (some (0, [], y35.1, y35.2)) else (((z_viaductref04_Of N_ Arcs).bind fun y88 => some (y88.1, y88.2, 0, [])))))

noncomputable def z_viaductref05_Build_l0 (Arcs : List (Int × Int × Int)) (v7 : Int) (c0 : List (Int)) (c1 : List (Int)) (i2 : Int) : Option ((List (Int) × List (Int) × Int) ⊕ (List (Int) × List (Int) × Int)) :=
  ((if i2 < (Arcs.length : Int) then (G (0 ≤ i2) (some (decide (((gt Arcs i2).1) = v7)))) else (some false) : Option (Bool)).bind fun o184 => if o184 = true then (G (0 ≤ i2 ∧ i2 < (Arcs.length : Int)) (G (c0.length + 1 ≤ 28147497670656) (G (c1.length + 1 ≤ 28147497670656) (G ((i2 + 1) ≤ 9223372036854775807) (some (Sum.inl ((c0 ++ [(gt Arcs i2).2.1]), (c1 ++ [(gt Arcs i2).2.2]), (i2 + 1)))))))) else (some (Sum.inr (c0, c1, i2))))
noncomputable def z_viaductref05_Build_l1 (N_ : Int) (Arcs : List (Int × Int × Int)) (c3 : List (Int)) (c4 : List (Int)) (c5 : List (Int)) (i6 : Int) (v7 : Int) : Option ((List (Int) × List (Int) × List (Int) × Int × Int) ⊕ (List (Int) × List (Int) × List (Int))) :=
  if v7 < N_ then (((loopO (fun zz_ => z_viaductref05_Build_l0 Arcs v7 zz_.1 zz_.2.1 zz_.2.2) (c4, c5, i6)).bind fun o132 => G (c3.length + 1 ≤ 28147497670656) (G (-9223372036854775808 ≤ (v7 + 1) ∧ (v7 + 1) ≤ 9223372036854775807) (some (Sum.inl ((c3 ++ [o132.2.2]), o132.1, o132.2.1, o132.2.2, (v7 + 1))))))) else (some (Sum.inr (c3, c4, c5)))
noncomputable def z_viaductref05_Build (N_ : Int) (Arcs : List (Int × Int × Int)) : Option (List (Int) × List (Int) × List (Int)) :=
  ((loopO (fun zz_ => z_viaductref05_Build_l1 N_ Arcs zz_.1 zz_.2.1 zz_.2.2.1 zz_.2.2.2.1 zz_.2.2.2.2) ([0], [], [], 0, 0)).bind fun o57 => some (o57.1, o57.2.1, o57.2.2))

noncomputable def z_viaductref05_DocBuild (N_ : Int) (Arcs : List (Int × Int × Int)) : Option (List (Int) × List (Int) × List (Int) × Int × List (Int × Int)) :=
  ((z_viaductref04_DocOf N_ Arcs).bind fun y49 => ((z_viaductref01_Err_Bad y49.2.2.1 y49.2.2.2).bind fun y98 => if y98 = true then (some ([], [], [], y49.2.2.1, y49.2.2.2)) else (((z_viaductref05_Build y49.1 y49.2.1).bind fun y126 => some (y126.1, y126.2.1, y126.2.2, y49.2.2.1, y49.2.2.2)))))

noncomputable def z_viaductref05_DocCheck_l0 (First : List (Int)) (v0 : Int) : Option ((Int) ⊕ ((Int × List (Int × Int)) ⊕ (Unit))) :=
  if v0 < ((First.length : Int) - 1) then (G (-9223372036854775808 ≤ (v0 + 1) ∧ (v0 + 1) ≤ 9223372036854775807) (G (0 ≤ (v0 + 1) ∧ (v0 + 1) < (First.length : Int)) (G (0 ≤ v0 ∧ v0 < (First.length : Int)) (if (gt First (v0 + 1)) < (gt First v0) then (((z_viaductref01_E 14).bind fun y124 => ((z_viaductref01_At 3 v0 y124 []).bind fun y129 => (some (y129.1, y129.2)).map fun v => Sum.inr (Sum.inl v)))) else (G ((v0 + 1) ≤ 9223372036854775807) (some (Sum.inl (v0 + 1)))))))) else (some (Sum.inr (Sum.inr ())))
noncomputable def z_viaductref05_DocCheck_l1 (First : List (Int)) (i3 : Int) (v1 : Int) : Option ((Int) ⊕ (Int)) :=
  G (-9223372036854775808 ≤ (v1 + 1) ∧ (v1 + 1) ≤ 9223372036854775807) (G (0 ≤ (v1 + 1) ∧ (v1 + 1) < (First.length : Int)) (if (gt First (v1 + 1)) ≤ i3 then (G ((v1 + 1) ≤ 9223372036854775807) (some (Sum.inl (v1 + 1)))) else (some (Sum.inr v1))))
noncomputable def z_viaductref05_DocCheck_l2 (First : List (Int)) (To : List (Int)) (Weight : List (Int)) (v2 : Int) (i3 : Int) : Option ((Int × Int) ⊕ ((Int × List (Int × Int)) ⊕ (Unit))) :=
  if i3 < (To.length : Int) then (((loopO (fun zz_ => z_viaductref05_DocCheck_l1 First i3 zz_) v2).bind fun o185 => ((G (0 ≤ i3) (if (gt To i3) < 0 then (some true) else (some (decide ((gt To i3) ≥ ((First.length : Int) - 1))))) : Option (Bool)).bind fun o217 => ((if o217 = true then (some 7) else (((G (0 ≤ i3) (if (gt To i3) = o185 then (some true) else (G (0 ≤ o185 ∧ o185 < (First.length : Int)) (if i3 > (gt First o185) then (G (-9223372036854775808 ≤ (i3 - 1) ∧ (i3 - 1) ≤ 9223372036854775807) (G (0 ≤ (i3 - 1) ∧ (i3 - 1) < (To.length : Int)) (some (decide ((gt To i3) ≤ (gt To (i3 - 1))))))) else (some false)))) : Option (Bool)).bind fun o240 => if o240 = true then (some 14) else (G (0 ≤ i3 ∧ i3 < (Weight.length : Int)) (if (gt Weight i3) < 0 then (some 8) else (if (gt Weight i3) > 2147483647 then (some 8) else (some 0)))))) : Option (Int)).bind fun o229 => if o229 = 0 then (G (-9223372036854775808 ≤ (i3 + 1) ∧ (i3 + 1) ≤ 9223372036854775807) (some (Sum.inl (o185, (i3 + 1))))) else (((z_viaductref01_E o229).bind fun y278 => ((z_viaductref01_At 4 i3 y278 []).bind fun y283 => (some (y283.1, y283.2)).map fun v => Sum.inr (Sum.inl v)))))))) else (some (Sum.inr (Sum.inr ())))
noncomputable def z_viaductref05_DocCheck (First : List (Int)) (To : List (Int)) (Weight : List (Int)) : Option (Int × List (Int × Int)) :=
  G (-9223372036854775808 ≤ ((First.length : Int) - 1) ∧ ((First.length : Int) - 1) ≤ 9223372036854775807) (((if ((First.length : Int) - 1) < 0 then (some true) else (G ((0 : Int) < (First.length : Int)) (if (gt First 0) = 0 then (G (0 ≤ ((First.length : Int) - 1) ∧ ((First.length : Int) - 1) < (First.length : Int)) (if (gt First ((First.length : Int) - 1)) = (To.length : Int) then (some (!decide ((Weight.length : Int) = (To.length : Int)))) else (some true))) else (some true))) : Option (Bool)).bind fun o27 => if o27 = true then (((z_viaductref01_E 14).bind fun y51 => some (y51, []))) else (((if ((First.length : Int) - 1) > 65536 then (some true) else (some (decide ((To.length : Int) > 262144))) : Option (Bool)).bind fun o64 => if o64 = true then (((z_viaductref01_E 9).bind fun y77 => some (y77, []))) else (((loopO (fun zz_ => z_viaductref05_DocCheck_l0 First zz_) 0).bind (Sum.elim some fun o90 => ((loopO (fun zz_ => z_viaductref05_DocCheck_l2 First To Weight zz_.1 zz_.2) (0, 0)).bind (Sum.elim some fun o160 => some (0, []))))))))))

noncomputable def z_viaductref05_Row_l0 (First : List (Int)) (To : List (Int)) (Weight : List (Int)) (v_ : Int) (l0 : List (Int × Int × Int)) (i1 : Int) : Option ((List (Int × Int × Int) × Int) ⊕ (List (Int × Int × Int))) :=
  G ((v_ + 1) ≤ 9223372036854775807) (G (0 ≤ (v_ + 1) ∧ (v_ + 1) < (First.length : Int)) (if i1 < (gt First (v_ + 1)) then (G (0 ≤ i1 ∧ i1 < (To.length : Int)) (G (i1 < (Weight.length : Int)) (G (l0.length + [(v_, (gt To i1), (gt Weight i1))].length ≤ 9382499223278) (G ((i1 + 1) ≤ 9223372036854775807) (some (Sum.inl ((l0 ++ [(v_, (gt To i1), (gt Weight i1))]), (i1 + 1)))))))) else (some (Sum.inr l0))))
noncomputable def z_viaductref05_Row (First : List (Int)) (To : List (Int)) (Weight : List (Int)) (v_ : Int) : Option (List (Int × Int × Int)) :=
  G (0 ≤ v_ ∧ v_ < (First.length : Int)) (((loopO (fun zz_ => z_viaductref05_Row_l0 First To Weight v_ zz_.1 zz_.2) ([], (gt First v_))).bind fun o19 => some o19))

noncomputable def z_viaductref05_Graph_l0 (First : List (Int)) (To : List (Int)) (Weight : List (Int)) (g0 : List (Int × Int × Int)) (v1 : Int) : Option ((List (Int × Int × Int) × Int) ⊕ (List (Int × Int × Int))) :=
  if v1 < ((First.length : Int) - 1) then (((z_viaductref05_Row First To Weight v1).bind fun y80 => G (g0.length + y80.length ≤ 9382499223278) (G (-9223372036854775808 ≤ (v1 + 1) ∧ (v1 + 1) ≤ 9223372036854775807) (some (Sum.inl ((g0 ++ y80), (v1 + 1))))))) else (some (Sum.inr g0))
noncomputable def z_viaductref05_Graph (First : List (Int)) (To : List (Int)) (Weight : List (Int)) : Option (Int × List (Int × Int × Int)) :=
  G (-9223372036854775808 ≤ ((First.length : Int) - 1) ∧ ((First.length : Int) - 1) ≤ 9223372036854775807) (((loopO (fun zz_ => z_viaductref05_Graph_l0 First To Weight zz_.1 zz_.2) ([], 0)).bind fun o36 => some (((First.length : Int) - 1), o36)))

noncomputable def z_viaductref05_DocGraph (First : List (Int)) (To : List (Int)) (Weight : List (Int)) : Option (Int × List (Int × Int × Int) × Int × List (Int × Int)) :=
  ((z_viaductref05_DocCheck First To Weight).bind fun y37 => ((z_viaductref01_Err_Bad y37.1 y37.2).bind fun y63 => if y63 = true then (some (0, [], y37.1, y37.2)) else (((z_viaductref05_Graph First To Weight).bind fun y92 => some (y92.1, y92.2, 0, [])))))

noncomputable def z_viaductlaw05_of (First : List (Int)) (To : List (Int)) (Weight : List (Int)) : Option (Unit) :=
  some ()

noncomputable def z_viaductref02_SameInts_l0 (a : List (Int)) (b : List (Int)) (i0 : Int) : Option ((Int) ⊕ ((Bool) ⊕ (Unit))) :=
  if i0 < (a.length : Int) then (G (0 ≤ i0) (G (i0 < (b.length : Int)) (if (gt a i0) = (gt b i0) then (G ((i0 + 1) ≤ 9223372036854775807) (some (Sum.inl (i0 + 1)))) else ((some false).map fun v => Sum.inr (Sum.inl v))))) else (some (Sum.inr (Sum.inr ())))
noncomputable def z_viaductref02_SameInts (a : List (Int)) (b : List (Int)) : Option (Bool) :=
  if (a.length : Int) = (b.length : Int) then (((loopO (fun zz_ => z_viaductref02_SameInts_l0 a b zz_) 0).bind (Sum.elim some fun o10 => some true))) else (some false)

noncomputable def z_viaductref05_Same (First : List (Int)) (To : List (Int)) (Weight : List (Int)) (First_ : List (Int)) (To_ : List (Int)) (Weight_ : List (Int)) : Option (Bool) :=
  ((z_viaductref02_SameInts First First_).bind fun y21 => if y21 = true then (((z_viaductref02_SameInts To To_).bind fun y31 => if y31 = true then (((z_viaductref02_SameInts Weight Weight_).bind fun y41 => some y41)) else (some false))) else (some false))

noncomputable def z_viaductref03_Same (N_ : Int) (Arcs : List (Int × Int × Int)) (N_2 : Int) (Arcs_ : List (Int × Int × Int)) : Option (Bool) :=
  if N_ = N_2 then (((z_viaductref03_SameArcs Arcs Arcs_).bind fun y21 => some y21)) else (some false)

noncomputable def z_viaductlaw05_CsrMemory_l0 (y57 : List (Int) × List (Int) × List (Int) × Er) (m0 : List (Int)) (i1 : Int) : Option ((List (Int) × Int) ⊕ (List (Int))) :=
  if i1 < (y57.1.length : Int) then (G (0 ≤ i1 ∧ i1 < (m0.length : Int)) (G ((i1 + 1) ≤ 9223372036854775807) (some (Sum.inl ((m0.set i1.toNat (-7)), (i1 + 1)))))) else (some (Sum.inr m0))
noncomputable def z_viaductlaw05_CsrMemory_l1 (y57 : List (Int) × List (Int) × List (Int) × Er) (m2 : List (Int)) (i3 : Int) : Option ((List (Int) × Int) ⊕ (List (Int))) :=
  if i3 < (y57.2.1.length : Int) then (G (0 ≤ i3 ∧ i3 < (m2.length : Int)) (G ((i3 + 1) ≤ 9223372036854775807) (some (Sum.inl ((m2.set i3.toNat (-7)), (i3 + 1)))))) else (some (Sum.inr m2))
noncomputable def z_viaductlaw05_CsrMemory_l2 (y57 : List (Int) × List (Int) × List (Int) × Er) (m4 : List (Int)) (i5 : Int) : Option ((List (Int) × Int) ⊕ (List (Int))) :=
  if i5 < (y57.2.2.1.length : Int) then (G (0 ≤ i5 ∧ i5 < (m4.length : Int)) (G ((i5 + 1) ≤ 9223372036854775807) (some (Sum.inl ((m4.set i5.toNat (-7)), (i5 + 1)))))) else (some (Sum.inr m4))
noncomputable def z_viaductlaw05_CsrMemory_l3 (y170 : Int × List (Int × Int × Int) × Er) (h6 : List (Int × Int × Int)) (i7 : Int) : Option ((List (Int × Int × Int) × Int) ⊕ (Unit)) :=
  if i7 < (y170.2.1.length : Int) then (G (0 ≤ i7 ∧ i7 < (h6.length : Int)) (G ((i7 + 1) ≤ 9223372036854775807) (some (Sum.inl ((h6.set i7.toNat ((gt h6 i7).1, (gt h6 i7).2.1, (-7))), (i7 + 1)))))) else (some (Sum.inr ()))
noncomputable def z_viaductlaw05_CsrMemory_l4 (y205 : List (Int × Int × Int) × Er) (i8 : Int) (l9 : List (Int × Int × Int)) : Option ((Int × List (Int × Int × Int)) ⊕ (Unit)) :=
  if i8 < (y205.1.length : Int) then (G (0 ≤ i8 ∧ i8 < (l9.length : Int)) (G ((i8 + 1) ≤ 9223372036854775807) (some (Sum.inl ((i8 + 1), (l9.set i8.toNat ((gt l9 i8).1, (gt l9 i8).2.1, (-7)))))))) else (some (Sum.inr ()))
noncomputable def z_viaductlaw05_CsrMemory (N_ : Int) (Arcs : List (Int × Int × Int)) : Option (Bool) :=
  ((z_viaductlaw05_great N_ Arcs).bind fun y13 => if y13 = true then (some true) else (((z_viaductref03_Spare N_ Arcs).bind fun y25 => ((z_csr_Build y25.1 y25.2.1).bind fun y57 => ((z_csr_Build y25.1 y25.2.1).bind fun y113 => ((z_csr_Graph y113.1 y113.2.1 y113.2.2.1).bind fun y170 => ((z_csr_Row y113.1 y113.2.1 y113.2.2.1 0).bind fun y205 => ((z_viaductref03_Kept N_ Arcs y25.2.2).bind fun y229 => if (!y229) = true then (some false) else (((loopO (fun zz_ => z_viaductlaw05_CsrMemory_l0 y57 zz_.1 zz_.2) (y57.1, 0)).bind fun o257 => G (o257.length + [1, 2].length ≤ 28147497670656) (G (((o257.length : Int) + 2) ≤ 9223372036854775807) (if ((o257 ++ [1, 2]).length : Int) = ((o257.length : Int) + 2) then (((loopO (fun zz_ => z_viaductlaw05_CsrMemory_l1 y57 zz_.1 zz_.2) (y57.2.1, 0)).bind fun o340 => G (o340.length + [1, 2].length ≤ 28147497670656) (G (((o340.length : Int) + 2) ≤ 9223372036854775807) (if ((o340 ++ [1, 2]).length : Int) = ((o340.length : Int) + 2) then (((loopO (fun zz_ => z_viaductlaw05_CsrMemory_l2 y57 zz_.1 zz_.2) (y57.2.2.1, 0)).bind fun o423 => G (o423.length + [1, 2].length ≤ 28147497670656) (G (((o423.length : Int) + 2) ≤ 9223372036854775807) (if ((o423 ++ [1, 2]).length : Int) = ((o423.length : Int) + 2) then (((loopO (fun zz_ => z_viaductlaw05_CsrMemory_l3 y170 zz_.1 zz_.2) (y170.2.1, 0)).bind fun o506 => ((loopO (fun zz_ => z_viaductlaw05_CsrMemory_l4 y205 zz_.1 zz_.2) (0, y205.1)).bind fun o545 => ((z_viaductref05_DocBuild N_ Arcs).bind fun y583 => ((z_csr_Graph y113.1 y113.2.1 y113.2.2.1).bind fun y658 => ((z_viaductref05_DocGraph y583.1 y583.2.1 y583.2.2.1).bind fun y693 => ((z_viaductlaw05_of y113.1 y113.2.1 y113.2.2.1).bind fun y746 => ((z_viaductref05_Same y113.1 y113.2.1 y113.2.2.1 y583.1 y583.2.1 y583.2.2.1).bind fun y758 => if y758 = true then (((z_viaductref03_Same y658.1 y658.2.1 y693.1 y693.2.1).bind fun y770 => if y770 = true then (if (o257.length : Int) = 0 then (some true) else (G (0 ≤ 1 ∧ 1 ≤ (o257.length : Int)) (((z_viaductref02_SameInts (o257.take (1 : Int).toNat) [(-7)]).bind fun y807 => some y807)))) else (some false))) else (some false))))))))) else (some false))))) else (some false))))) else (some false)))))))))))))

end Go.Vd
