/- What the functions come to, as plain functions (printed by a program of ours). -/
import Derived.Test.YtjfplpkmbijfpaaDoorVpA
set_option maxRecDepth 100000
set_option linter.unusedVariables false
namespace Go.Vd
def enc_i64_i64 (x : Int × Int) : List Value := [.int .i64 x.1, .int .i64 x.2]
def enc_i64_i64_i64 (x : Int × Int × Int) : List Value := [.int .i64 x.1, .int .i64 x.2.1, .int .i64 x.2.2]


noncomputable def z_viaductref02_TwinInts_l0 (l : List (Int)) (m0 : List (Int)) (i1 : Int) : Option ((List (Int) × Int) ⊕ (List (Int))) :=
  if i1 < (l.length : Int) then (G (0 ≤ i1) (G (m0.length + 1 ≤ 17592186044160) (G ((i1 + 1) ≤ 9223372036854775807) (some (Sum.inl ((m0 ++ [(gt l i1)]), (i1 + 1))))))) else (some (Sum.inr m0))
noncomputable def z_viaductref02_TwinInts (l : List (Int)) : Option (List (Int)) :=
  ((loopO (fun zz_ => z_viaductref02_TwinInts_l0 l zz_.1 zz_.2) ([], 0)).bind fun o10 => some o10)

noncomputable def z_viaductref05_Twin (First : List (Int)) (To : List (Int)) (Weight : List (Int)) : Option (List (Int) × List (Int) × List (Int)) :=
  ((z_viaductref02_TwinInts First).bind fun y35 => ((z_viaductref02_TwinInts To).bind fun y50 => ((z_viaductref02_TwinInts Weight).bind fun y65 => some (y35, y50, y65))))

noncomputable def z_viaductlaw05_to (First : List (Int)) (To : List (Int)) (Weight : List (Int)) : Option (List (Int) × List (Int) × List (Int)) :=
  ((z_viaductref05_Twin First To Weight).bind fun y37 => some (y37.1, y37.2.1, y37.2.2))

noncomputable def z_csr_Csr_nodes (First : List (Int)) (To : List (Int)) (Weight : List (Int)) : Option (Int) :=
  G (-9223372036854775808 ≤ ((First.length : Int) - 1) ∧ ((First.length : Int) - 1) ≤ 9223372036854775807) (some ((First.length : Int) - 1))

noncomputable def z_fault_At (kind : Int) (at_ : Int) (err : Er) : Option (Er) :=
  if err = Er.nil then (some Er.nil) else (some (Er.at kind at_ err))

noncomputable def z_csr_Csr_arc (First : List (Int)) (To : List (Int)) (Weight : List (Int)) (v_ : Int) (i : Int) : Option (Er) :=
  G (0 ≤ i ∧ i < (To.length : Int)) (((if (gt To i) < 0 then (some true) else (((z_csr_Csr_nodes First To Weight).bind fun y31 => some (decide ((gt To i) ≥ y31)))) : Option (Bool)).bind fun o19 => if o19 = true then (some (Er.no 7)) else (((if (gt To i) = v_ then (some true) else (G (0 ≤ v_ ∧ v_ < (First.length : Int)) (if i > (gt First v_) then (G (-9223372036854775808 ≤ (i - 1) ∧ (i - 1) ≤ 9223372036854775807) (G (0 ≤ (i - 1) ∧ (i - 1) < (To.length : Int)) (some (decide ((gt To i) ≤ (gt To (i - 1))))))) else (some false))) : Option (Bool)).bind fun o41 => if o41 = true then (some (Er.no 14)) else (G (i < (Weight.length : Int)) (if (gt Weight i) < 0 then (some (Er.no 8)) else (if (gt Weight i) > 2147483647 then (some (Er.no 8)) else (some Er.nil))))))))

noncomputable def z_csr_Check_l0 (First : List (Int)) (y17 : Int) (i0 : Int) : Option ((Int) ⊕ ((Er) ⊕ (Unit))) :=
  if i0 < y17 then (G (-9223372036854775808 ≤ (i0 + 1) ∧ (i0 + 1) ≤ 9223372036854775807) (G (0 ≤ (i0 + 1) ∧ (i0 + 1) < (First.length : Int)) (G (0 ≤ i0 ∧ i0 < (First.length : Int)) (if (gt First (i0 + 1)) < (gt First i0) then (((z_fault_At 3 i0 (Er.no 14)).bind fun y108 => (some y108).map fun v => Sum.inr (Sum.inl v))) else (G ((i0 + 1) ≤ 9223372036854775807) (some (Sum.inl (i0 + 1)))))))) else (some (Sum.inr (Sum.inr ())))
noncomputable def z_csr_Check_l1 (First : List (Int)) (To : List (Int)) (Weight : List (Int)) (i2 : Int) (i1 : Int) : Option ((Int) ⊕ (((Int) ⊕ ((Er) ⊕ (Unit))) ⊕ (Unit))) :=
  G ((i2 + 1) ≤ 9223372036854775807) (G (0 ≤ (i2 + 1) ∧ (i2 + 1) < (First.length : Int)) (if i1 < (gt First (i2 + 1)) then (((z_csr_Csr_arc First To Weight i2 i1).bind fun y192 => if y192 = Er.nil then (G (-9223372036854775808 ≤ (i1 + 1) ∧ (i1 + 1) ≤ 9223372036854775807) (some (Sum.inl (i1 + 1)))) else (((z_fault_At 4 i1 y192).bind fun y211 => ((some y211).map fun v => Sum.inr (Sum.inl v)).map fun v => Sum.inr (Sum.inl v))))) else (some (Sum.inr (Sum.inr ())))))
noncomputable def z_csr_Check_l2 (First : List (Int)) (To : List (Int)) (Weight : List (Int)) (y17 : Int) (i2 : Int) : Option ((Int) ⊕ ((Er) ⊕ (Unit))) :=
  if i2 < y17 then (G (0 ≤ i2 ∧ i2 < (First.length : Int)) (((loopO (fun zz_ => z_csr_Check_l1 First To Weight i2 zz_) (gt First i2)).bind (Sum.elim some fun o159 => G ((i2 + 1) ≤ 9223372036854775807) (some (Sum.inl (i2 + 1))))))) else (some (Sum.inr (Sum.inr ())))
noncomputable def z_csr_Check (First : List (Int)) (To : List (Int)) (Weight : List (Int)) : Option (Er) :=
  ((z_csr_Csr_nodes First To Weight).bind fun y17 => ((if y17 < 0 then (some true) else (G ((0 : Int) < (First.length : Int)) (if (gt First 0) = 0 then (G (0 ≤ y17 ∧ y17 < (First.length : Int)) (if (gt First y17) = (To.length : Int) then (some (!decide ((To.length : Int) = (Weight.length : Int)))) else (some true))) else (some true))) : Option (Bool)).bind fun o24 => if o24 = true then (some (Er.no 14)) else (((if y17 > 65536 then (some true) else (some (decide ((To.length : Int) > 262144))) : Option (Bool)).bind fun o53 => if o53 = true then (some (Er.no 9)) else (((loopO (fun zz_ => z_csr_Check_l0 First y17 zz_) 0).bind (Sum.elim some fun o71 => ((loopO (fun zz_ => z_csr_Check_l2 First To Weight y17 zz_) 0).bind (Sum.elim some fun o129 => some Er.nil)))))))))

noncomputable def z_viaductref01_E (n_ : Int) : Option (Int) :=
  some n_

noncomputable def z_viaductref01_At (kind : Int) (at_ : Int) (Code : Int) (Places : List (Int × Int)) : Option (Int × List (Int × Int)) :=
  G ([(kind, at_)].length + Places.length ≤ 8796093021952) (some (Code, ([(kind, at_)] ++ Places)))

noncomputable def z_viaductref05_DocCheck_l0 (First : List (Int)) (v0 : Int) : Option ((Int) ⊕ ((Int × List (Int × Int)) ⊕ (Unit))) :=
  if v0 < ((First.length : Int) - 1) then (G (-9223372036854775808 ≤ (v0 + 1) ∧ (v0 + 1) ≤ 9223372036854775807) (G (0 ≤ (v0 + 1) ∧ (v0 + 1) < (First.length : Int)) (G (0 ≤ v0 ∧ v0 < (First.length : Int)) (if (gt First (v0 + 1)) < (gt First v0) then (((z_viaductref01_E 14).bind fun y124 => ((z_viaductref01_At 3 v0 y124 []).bind fun y129 => (some (y129.1, y129.2)).map fun v => Sum.inr (Sum.inl v)))) else (G ((v0 + 1) ≤ 9223372036854775807) (some (Sum.inl (v0 + 1)))))))) else (some (Sum.inr (Sum.inr ())))
noncomputable def z_viaductref05_DocCheck_l1 (First : List (Int)) (i3 : Int) (v1 : Int) : Option ((Int) ⊕ (Int)) :=
  G (-9223372036854775808 ≤ (v1 + 1) ∧ (v1 + 1) ≤ 9223372036854775807) (G (0 ≤ (v1 + 1) ∧ (v1 + 1) < (First.length : Int)) (if (gt First (v1 + 1)) ≤ i3 then (G ((v1 + 1) ≤ 9223372036854775807) (some (Sum.inl (v1 + 1)))) else (some (Sum.inr v1))))
noncomputable def z_viaductref05_DocCheck_l2 (First : List (Int)) (To : List (Int)) (Weight : List (Int)) (v2 : Int) (i3 : Int) : Option ((Int × Int) ⊕ ((Int × List (Int × Int)) ⊕ (Unit))) :=
  if i3 < (To.length : Int) then (((loopO (fun zz_ => z_viaductref05_DocCheck_l1 First i3 zz_) v2).bind fun o185 => ((G (0 ≤ i3) (if (gt To i3) < 0 then (some true) else (some (decide ((gt To i3) ≥ ((First.length : Int) - 1))))) : Option (Bool)).bind fun o217 => ((if o217 = true then (some 7) else (((G (0 ≤ i3) (if (gt To i3) = o185 then (some true) else (G (0 ≤ o185 ∧ o185 < (First.length : Int)) (if i3 > (gt First o185) then (G (-9223372036854775808 ≤ (i3 - 1) ∧ (i3 - 1) ≤ 9223372036854775807) (G (0 ≤ (i3 - 1) ∧ (i3 - 1) < (To.length : Int)) (some (decide ((gt To i3) ≤ (gt To (i3 - 1))))))) else (some false)))) : Option (Bool)).bind fun o240 => if o240 = true then (some 14) else (G (0 ≤ i3 ∧ i3 < (Weight.length : Int)) (if (gt Weight i3) < 0 then (some 8) else (if (gt Weight i3) > 2147483647 then (some 8) else (some 0)))))) : Option (Int)).bind fun o229 => if o229 = 0 then (G (-9223372036854775808 ≤ (i3 + 1) ∧ (i3 + 1) ≤ 9223372036854775807) (some (Sum.inl (o185, (i3 + 1))))) else (((z_viaductref01_E o229).bind fun y278 => ((z_viaductref01_At 4 i3 y278 []).bind fun y283 => (some (y283.1, y283.2)).map fun v => Sum.inr (Sum.inl v)))))))) else (some (Sum.inr (Sum.inr ())))
noncomputable def z_viaductref05_DocCheck (First : List (Int)) (To : List (Int)) (Weight : List (Int)) : Option (Int × List (Int × Int)) :=
  G (-9223372036854775808 ≤ ((First.length : Int) - 1) ∧ ((First.length : Int) - 1) ≤ 9223372036854775807) (((if ((First.length : Int) - 1) < 0 then (some true) else (G ((0 : Int) < (First.length : Int)) (if (gt First 0) = 0 then (G (0 ≤ ((First.length : Int) - 1) ∧ ((First.length : Int) - 1) < (First.length : Int)) (if (gt First ((First.length : Int) - 1)) = (To.length : Int) then (some (!decide ((Weight.length : Int) = (To.length : Int)))) else (some true))) else (some true))) : Option (Bool)).bind fun o27 => if o27 = true then (((z_viaductref01_E 14).bind fun y51 => some (y51, []))) else (((if ((First.length : Int) - 1) > 65536 then (some true) else (some (decide ((To.length : Int) > 262144))) : Option (Bool)).bind fun o64 => if o64 = true then (((z_viaductref01_E 9).bind fun y77 => some (y77, []))) else (((loopO (fun zz_ => z_viaductref05_DocCheck_l0 First zz_) 0).bind (Sum.elim some fun o90 => ((loopO (fun zz_ => z_viaductref05_DocCheck_l2 First To Weight zz_.1 zz_.2) (0, 0)).bind (Sum.elim some fun o160 => some (0, []))))))))))

noncomputable def z_viaductref01_Err_Bad (Code : Int) (Places : List (Int × Int)) : Option (Bool) :=
  if Code = 0 then (some (decide ((Places.length : Int) > 0))) else (some true)

noncomputable def z_viaductseen_Same_l0 (Places : List (Int × Int)) (i0 : Int) (e1 : Er) : Option ((Int × Er) ⊕ ((Bool) ⊕ (Er))) :=
  if i0 < (Places.length : Int) then (G (0 ≤ i0) (if Er.isAt e1 = true then (if (Er.fk e1) = ((gt Places i0).1) ∧ (Er.fi e1) = ((gt Places i0).2) then (G ((i0 + 1) ≤ 9223372036854775807) (some (Sum.inl ((i0 + 1), (Er.fe e1))))) else ((some false).map fun v => Sum.inr (Sum.inl v))) else ((some false).map fun v => Sum.inr (Sum.inl v)))) else (some (Sum.inr (Sum.inr e1)))
noncomputable def z_viaductseen_Same_l1 (err : Er) (Code : Int) (i2 : Int) : Option ((Int) ⊕ ((Bool) ⊕ (Unit))) :=
  if i2 ≤ 20 then (if (decide (Er.num err = some i2)) = (decide (i2 = Code)) then (G (-9223372036854775808 ≤ (i2 + 1) ∧ (i2 + 1) ≤ 9223372036854775807) (some (Sum.inl (i2 + 1)))) else ((some false).map fun v => Sum.inr (Sum.inl v))) else (some (Sum.inr (Sum.inr ())))
noncomputable def z_viaductseen_Same (err : Er) (Code : Int) (Places : List (Int × Int)) : Option (Bool) :=
  ((z_viaductref01_Err_Bad Code Places).bind fun y11 => if (!y11) = true then (if err = Er.nil then (some true) else (some false)) else (if err = Er.nil then (some false) else (((loopO (fun zz_ => z_viaductseen_Same_l0 Places zz_.1 zz_.2) (0, err)).bind (Sum.elim some fun o40 => if Er.isAt o40 = true then (some false) else (((if (Er.num err).isSome = true then (some (!decide (((Er.num err).getD 0) = Code))) else (some true) : Option (Bool)).bind fun o160 => if o160 = true then (some false) else (((loopO (fun zz_ => z_viaductseen_Same_l1 err Code zz_) 1).bind (Sum.elim some fun o185 => some true))))))))))

noncomputable def z_csr_Csr_row_l0 (First : List (Int)) (To : List (Int)) (Weight : List (Int)) (v_ : Int) (l0 : List (Int × Int × Int)) (i1 : Int) : Option ((List (Int × Int × Int) × Int) ⊕ (List (Int × Int × Int))) :=
  G ((v_ + 1) ≤ 9223372036854775807) (G (0 ≤ (v_ + 1) ∧ (v_ + 1) < (First.length : Int)) (if i1 < (gt First (v_ + 1)) then (G (0 ≤ i1 ∧ i1 < (To.length : Int)) (G (i1 < (Weight.length : Int)) (G (l0.length + [(v_, (gt To i1), (gt Weight i1))].length ≤ 5864062014549) (G ((i1 + 1) ≤ 9223372036854775807) (some (Sum.inl ((l0 ++ [(v_, (gt To i1), (gt Weight i1))]), (i1 + 1)))))))) else (some (Sum.inr l0))))
noncomputable def z_csr_Csr_row (First : List (Int)) (To : List (Int)) (Weight : List (Int)) (v_ : Int) : Option (List (Int × Int × Int)) :=
  G (0 ≤ v_ ∧ v_ < (First.length : Int)) (((loopO (fun zz_ => z_csr_Csr_row_l0 First To Weight v_ zz_.1 zz_.2) ([], (gt First v_))).bind fun o19 => some o19))

noncomputable def z_csr_Graph_l0 (First : List (Int)) (To : List (Int)) (Weight : List (Int)) (y51 : Int) (i0 : Int) (g1 : List (Int × Int × Int)) : Option ((Int × List (Int × Int × Int)) ⊕ (List (Int × Int × Int))) :=
  if i0 < y51 then (((z_csr_Csr_row First To Weight i0).bind fun y113 => G (g1.length + y113.length ≤ 5864062014549) (G (-9223372036854775808 ≤ (i0 + 1) ∧ (i0 + 1) ≤ 9223372036854775807) (some (Sum.inl ((i0 + 1), (g1 ++ y113))))))) else (some (Sum.inr g1))
noncomputable def z_csr_Graph (First : List (Int)) (To : List (Int)) (Weight : List (Int)) : Option (Int × List (Int × Int × Int) × Er) :=
  ((z_csr_Check First To Weight).bind fun y31 => if y31 = Er.nil then (((z_csr_Csr_nodes First To Weight).bind fun y51 => ((loopO (fun zz_ => z_csr_Graph_l0 First To Weight y51 zz_.1 zz_.2) (0, [])).bind fun o68 => some (y51, o68, Er.nil)))) else (some (0, [], y31)))

noncomputable def z_viaductref05_Row_l0 (First : List (Int)) (To : List (Int)) (Weight : List (Int)) (v_ : Int) (l0 : List (Int × Int × Int)) (i1 : Int) : Option ((List (Int × Int × Int) × Int) ⊕ (List (Int × Int × Int))) :=
  G ((v_ + 1) ≤ 9223372036854775807) (G (0 ≤ (v_ + 1) ∧ (v_ + 1) < (First.length : Int)) (if i1 < (gt First (v_ + 1)) then (G (0 ≤ i1 ∧ i1 < (To.length : Int)) (G (i1 < (Weight.length : Int)) (G (l0.length + [(v_, (gt To i1), (gt Weight i1))].length ≤ 5864062014549) (G ((i1 + 1) ≤ 9223372036854775807) (some (Sum.inl ((l0 ++ [(v_, (gt To i1), (gt Weight i1))]), (i1 + 1)))))))) else (some (Sum.inr l0))))
noncomputable def z_viaductref05_Row (First : List (Int)) (To : List (Int)) (Weight : List (Int)) (v_ : Int) : Option (List (Int × Int × Int)) :=
  G (0 ≤ v_ ∧ v_ < (First.length : Int)) (((loopO (fun zz_ => z_viaductref05_Row_l0 First To Weight v_ zz_.1 zz_.2) ([], (gt First v_))).bind fun o19 => some o19))

noncomputable def z_viaductref05_Graph_l0 (First : List (Int)) (To : List (Int)) (Weight : List (Int)) (g0 : List (Int × Int × Int)) (v1 : Int) : Option ((List (Int × Int × Int) × Int) ⊕ (List (Int × Int × Int))) :=
  if v1 < ((First.length : Int) - 1) then (((z_viaductref05_Row First To Weight v1).bind fun y80 => G (g0.length + y80.length ≤ 5864062014549) (G (-9223372036854775808 ≤ (v1 + 1) ∧ (v1 + 1) ≤ 9223372036854775807) (some (Sum.inl ((g0 ++ y80), (v1 + 1))))))) else (some (Sum.inr g0))
noncomputable def z_viaductref05_Graph (First : List (Int)) (To : List (Int)) (Weight : List (Int)) : Option (Int × List (Int × Int × Int)) :=
  G (-9223372036854775808 ≤ ((First.length : Int) - 1) ∧ ((First.length : Int) - 1) ≤ 9223372036854775807) (((loopO (fun zz_ => z_viaductref05_Graph_l0 First To Weight zz_.1 zz_.2) ([], 0)).bind fun o36 => some (((First.length : Int) - 1), o36)))

noncomputable def z_viaductref05_DocGraph (First : List (Int)) (To : List (Int)) (Weight : List (Int)) : Option (Int × List (Int × Int × Int) × Int × List (Int × Int)) :=
  ((z_viaductref05_DocCheck First To Weight).bind fun y37 => ((z_viaductref01_Err_Bad y37.1 y37.2).bind fun y63 => if y63 = true then (some (0, [], y37.1, y37.2)) else (((z_viaductref05_Graph First To Weight).bind fun y92 => some (y92.1, y92.2, 0, [])))))

noncomputable def z_viaductref03_SameArcs_l0 (a : List (Int × Int × Int)) (b : List (Int × Int × Int)) (i0 : Int) : Option ((Int) ⊕ ((Bool) ⊕ (Unit))) :=
  if i0 < (a.length : Int) then (G (0 ≤ i0) (G (i0 < (b.length : Int)) (if ((gt a i0).1) = ((gt b i0).1) ∧ ((gt a i0).2.1) = ((gt b i0).2.1) ∧ ((gt a i0).2.2) = ((gt b i0).2.2) then (G ((i0 + 1) ≤ 9223372036854775807) (some (Sum.inl (i0 + 1)))) else ((some false).map fun v => Sum.inr (Sum.inl v))))) else (some (Sum.inr (Sum.inr ())))
noncomputable def z_viaductref03_SameArcs (a : List (Int × Int × Int)) (b : List (Int × Int × Int)) : Option (Bool) :=
  if (a.length : Int) = (b.length : Int) then (((loopO (fun zz_ => z_viaductref03_SameArcs_l0 a b zz_) 0).bind (Sum.elim some fun o10 => some true))) else (some false)

noncomputable def z_viaductref03_Same (N_ : Int) (Arcs : List (Int × Int × Int)) (N_2 : Int) (Arcs_ : List (Int × Int × Int)) : Option (Bool) :=
  if N_ = N_2 then (((z_viaductref03_SameArcs Arcs Arcs_).bind fun y21 => some y21)) else (some false)

noncomputable def z_csr_Row (First : List (Int)) (To : List (Int)) (Weight : List (Int)) (v_ : Int) : Option (List (Int × Int × Int) × Er) :=
  ((z_csr_Check First To Weight).bind fun y24 => if y24 = Er.nil then (((if v_ < 0 then (some true) else (((z_csr_Csr_nodes First To Weight).bind fun y55 => some (decide (v_ ≥ y55)))) : Option (Bool)).bind fun o41 => if o41 = true then (some ([], (Er.no 7))) else (((z_csr_Csr_row First To Weight v_).bind fun y69 => some (y69, Er.nil))))) else (some ([], y24)))

noncomputable def z_viaductref05_Node (First : List (Int)) (To : List (Int)) (Weight : List (Int)) (v_ : Int) : Option (Bool) :=
  if v_ ≥ 0 then (G (-9223372036854775808 ≤ ((First.length : Int) - 1) ∧ ((First.length : Int) - 1) ≤ 9223372036854775807) (some (decide (v_ < ((First.length : Int) - 1))))) else (some false)

noncomputable def z_viaductref05_DocRow (First : List (Int)) (To : List (Int)) (Weight : List (Int)) (v_ : Int) : Option (List (Int × Int × Int) × Int × List (Int × Int)) :=
  ((z_viaductref05_DocCheck First To Weight).bind fun y30 => ((((z_viaductref01_Err_Bad y30.1 y30.2).bind fun y64 => if y64 = true then (some false) else (((z_viaductref05_Node First To Weight v_).bind fun y78 => some (!y78)))) : Option (Bool)).bind fun o56 => ((if o56 = true then (((z_viaductref01_E 7).bind fun y99 => some (y99, []))) else (some (y30.1, y30.2)) : Option (Int × List (Int × Int))).bind fun o83 => ((z_viaductref01_Err_Bad o83.1 o83.2).bind fun y117 => if y117 = true then (some ([], o83.1, o83.2)) else (((z_viaductref05_Row First To Weight v_).bind fun y140 => some (y140, o83.1, o83.2)))))))

noncomputable def z_csr_Find_1 (From : Int) (To : Int) (Weight : Int) (w : Int) : Option (Int) :=
  G (-9223372036854775808 ≤ (To - w) ∧ (To - w) ≤ 9223372036854775807) (some (To - w))

noncomputable def z_slices_BinarySearchFunc_l0 (x : List (Int × Int × Int)) (target : Int) (j0 : Int) (i1 : Int) : Option ((Int × Int) ⊕ (Int)) :=
  if i1 < j0 then (G (-9223372036854775808 ≤ (i1 + j0) ∧ (i1 + j0) ≤ 9223372036854775807) (G (0 ≤ (i1 + j0) ∧ (i1 + j0) ≤ 18446744073709551615) (G (-9223372036854775808 ≤ ((i1 + j0) / 2) ∧ ((i1 + j0) / 2) ≤ 9223372036854775807) (G (0 ≤ ((i1 + j0) / 2) ∧ ((i1 + j0) / 2) < (x.length : Int)) (((z_csr_Find_1 ((gt x ((i1 + j0) / 2)).1) ((gt x ((i1 + j0) / 2)).2.1) ((gt x ((i1 + j0) / 2)).2.2) target).bind fun y38 => if y38 < 0 then (G ((((i1 + j0) / 2) + 1) ≤ 9223372036854775807) (some (Sum.inl (j0, (((i1 + j0) / 2) + 1))))) else (some (Sum.inl (((i1 + j0) / 2), i1))))))))) else (some (Sum.inr i1))
noncomputable def z_slices_BinarySearchFunc (x : List (Int × Int × Int)) (target : Int) : Option (Int × Bool) :=
  ((loopO (fun zz_ => z_slices_BinarySearchFunc_l0 x target zz_.1 zz_.2) ((x.length : Int), 0)).bind fun o5 => if o5 < (x.length : Int) then (G (0 ≤ o5) (((z_csr_Find_1 ((gt x o5).1) ((gt x o5).2.1) ((gt x o5).2.2) target).bind fun y55 => some (o5, (decide (y55 = 0)))))) else (some (o5, false)))

noncomputable def z_csr_Find (First : List (Int)) (To : List (Int)) (Weight : List (Int)) (v_ : Int) (w : Int) : Option (Int × Er) :=
  ((z_csr_Row First To Weight v_).bind fun y17 => if y17.2 = Er.nil then (((if w < 0 then (some true) else (((z_csr_Csr_nodes First To Weight).bind fun y58 => some (decide (w ≥ y58)))) : Option (Bool)).bind fun o44 => if o44 = true then (some (0, (Er.no 7))) else (((z_slices_BinarySearchFunc y17.1 w).bind fun y69 => if (!y69.2) = true then (some (0, (Er.no 16))) else (G (0 ≤ y69.1 ∧ y69.1 < (y17.1.length : Int)) (some ((gt y17.1 y69.1).2.2, Er.nil))))))) else (some (0, y17.2)))

noncomputable def z_viaductref05_DocFind_l0 (w : Int) (y24 : List (Int × Int × Int) × Int × List (Int × Int)) (o86 : Int × List (Int × Int)) (i0 : Int) : Option ((Int) ⊕ ((Int × Int × List (Int × Int)) ⊕ (Unit))) :=
  if i0 < (y24.1.length : Int) then (G (0 ≤ i0) (if ((gt y24.1 i0).2.1) = w then ((some ((gt y24.1 i0).2.2, o86.1, o86.2)).map fun v => Sum.inr (Sum.inl v)) else (G ((i0 + 1) ≤ 9223372036854775807) (some (Sum.inl (i0 + 1)))))) else (some (Sum.inr (Sum.inr ())))
noncomputable def z_viaductref05_DocFind (First : List (Int)) (To : List (Int)) (Weight : List (Int)) (v_ : Int) (w : Int) : Option (Int × Int × List (Int × Int)) :=
  ((z_viaductref05_DocRow First To Weight v_).bind fun y24 => ((((z_viaductref01_Err_Bad y24.2.1 y24.2.2).bind fun y67 => if y67 = true then (some false) else (((z_viaductref05_Node First To Weight w).bind fun y81 => some (!y81)))) : Option (Bool)).bind fun o59 => ((if o59 = true then (((z_viaductref01_E 7).bind fun y102 => some (y102, []))) else (some (y24.2.1, y24.2.2)) : Option (Int × List (Int × Int))).bind fun o86 => ((z_viaductref01_Err_Bad o86.1 o86.2).bind fun y120 => if y120 = true then (some (0, o86.1, o86.2)) else (((loopO (fun zz_ => z_viaductref05_DocFind_l0 w y24 o86 zz_) 0).bind (Sum.elim some fun o140 => ((z_viaductref01_E 16).bind fun y200 => some (0, y200, [])))))))))

noncomputable def z_viaductlaw05_CsrChecks (First : List (Int)) (To : List (Int)) (Weight : List (Int)) (v_ : Int) (w : Int) : Option (Bool) :=
  ((z_viaductlaw05_to First To Weight).bind fun y15 => ((z_csr_Check y15.1 y15.2.1 y15.2.2).bind fun y48 => ((z_viaductref05_DocCheck First To Weight).bind fun y62 => ((z_viaductseen_Same y48 y62.1 y62.2).bind fun y76 => if (!y76) = true then (some false) else (((z_viaductlaw05_to First To Weight).bind fun y90 => ((z_csr_Graph y90.1 y90.2.1 y90.2.2).bind fun y122 => ((z_viaductref05_DocGraph First To Weight).bind fun y157 => ((((z_viaductref03_Same y122.1 y122.2.1 y157.1 y157.2.1).bind fun y216 => if y216 = true then (((z_viaductseen_Same y122.2.2 y157.2.2.1 y157.2.2.2).bind fun y227 => some (!y227))) else (some true)) : Option (Bool)).bind fun o205 => if o205 = true then (some false) else (((z_viaductlaw05_to First To Weight).bind fun y243 => ((z_csr_Row y243.1 y243.2.1 y243.2.2 v_).bind fun y275 => ((z_viaductref05_DocRow First To Weight v_).bind fun y299 => ((((z_viaductref03_SameArcs y275.1 y299.1).bind fun y337 => if y337 = true then (((z_viaductseen_Same y275.2 y299.2.1 y299.2.2).bind fun y347 => some (!y347))) else (some true)) : Option (Bool)).bind fun o328 => if o328 = true then (some false) else (((z_viaductlaw05_to First To Weight).bind fun y363 => ((z_csr_Find y363.1 y363.2.1 y363.2.2 v_ w).bind fun y395 => ((z_viaductref05_DocFind First To Weight v_ w).bind fun y410 => if y395.1 = y410.1 then (((z_viaductseen_Same y395.2 y410.2.1 y410.2.2).bind fun y433 => some y433)) else (some false)))))))))))))))))))

end Go.Vd
