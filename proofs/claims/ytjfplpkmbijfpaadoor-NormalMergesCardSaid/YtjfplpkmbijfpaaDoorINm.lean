/- What the functions come to, as plain functions (printed by a program of ours). -/
import Derived.Test.YtjfplpkmbijfpaaDoorVpA
set_option maxRecDepth 100000
set_option linter.unusedVariables false
namespace Go.Vd
def enc_i64_i64 (x : Int × Int) : List Value := [.int .i64 x.1, .int .i64 x.2]
def enc_i64_i64_i64 (x : Int × Int × Int) : List Value := [.int .i64 x.1, .int .i64 x.2.1, .int .i64 x.2.2]


noncomputable def z_gtext_within (x : Int) (n_ : Int) : Option (Bool) :=
  if x ≥ 0 then (some (decide (x < n_))) else (some false)

noncomputable def z_gtext_arc (From : Int) (To : Int) (Weight : Int) (n_ : Int) : Option (Er) :=
  ((((z_gtext_within From n_).bind fun y22 => if y22 = true then (((z_gtext_within To n_).bind fun y30 => some (!y30))) else (some true)) : Option (Bool)).bind fun o15 => if o15 = true then (some (Er.no 7)) else (if Weight < 0 then (some (Er.no 8)) else (if Weight > 2147483647 then (some (Er.no 8)) else (some Er.nil))))

noncomputable def z_fault_At (kind : Int) (at_ : Int) (err : Er) : Option (Er) :=
  if err = Er.nil then (some Er.nil) else (some (Er.at kind at_ err))

noncomputable def z_gtext_Check_l0 (N_ : Int) (Arcs : List (Int × Int × Int)) (i0 : Int) : Option ((Int) ⊕ ((Er) ⊕ (Unit))) :=
  if i0 < (Arcs.length : Int) then (G (0 ≤ i0) (((z_gtext_arc ((gt Arcs i0).1) ((gt Arcs i0).2.1) ((gt Arcs i0).2.2) N_).bind fun y76 => if y76 = Er.nil then (G ((i0 + 1) ≤ 9223372036854775807) (some (Sum.inl (i0 + 1)))) else (((z_fault_At 4 i0 y76).bind fun y95 => (some y95).map fun v => Sum.inr (Sum.inl v)))))) else (some (Sum.inr (Sum.inr ())))
noncomputable def z_gtext_Check (N_ : Int) (Arcs : List (Int × Int × Int)) : Option (Er) :=
  ((if N_ < 0 then (some true) else (if N_ > 65536 then (some true) else (some (decide ((Arcs.length : Int) > 262144)))) : Option (Bool)).bind fun o15 => if o15 = true then (some (Er.no 9)) else (((loopO (fun zz_ => z_gtext_Check_l0 N_ Arcs zz_) 0).bind (Sum.elim some fun o36 => some Er.nil))))

noncomputable def z_slices_Grow (n_ : Int) : Option (List (Int × Int × Int)) :=
  if n_ < 0 then (none) else (G (-9223372036854775808 ≤ (n_ - 0) ∧ (n_ - 0) ≤ 9223372036854775807) (if (n_ - 0) > 0 then (G (0 ≤ (n_ - 0) ∧ (n_ - 0) ≤ 5864062014549) (G (0 ≤ 0 ∧ 0 ≤ (([] ++ List.replicate (n_ - 0).toNat ((0, 0, 0) : Int × Int × Int)).length : Int)) (some (([] ++ List.replicate (n_ - 0).toNat ((0, 0, 0) : Int × Int × Int)).take (0 : Int).toNat)))) else (some [])))

noncomputable def z_slices_Concat (slices_ : List (Int × Int × Int)) (slices_2 : List (Int × Int × Int)) : Option (List (Int × Int × Int)) :=
  G (-9223372036854775808 ≤ (0 + (slices_.length : Int)) ∧ (0 + (slices_.length : Int)) ≤ 9223372036854775807) (if (0 + (slices_.length : Int)) < 0 then (none) else (G (-9223372036854775808 ≤ ((0 + (slices_.length : Int)) + (slices_2.length : Int)) ∧ ((0 + (slices_.length : Int)) + (slices_2.length : Int)) ≤ 9223372036854775807) (if ((0 + (slices_.length : Int)) + (slices_2.length : Int)) < 0 then (none) else (((z_slices_Grow ((0 + (slices_.length : Int)) + (slices_2.length : Int))).bind fun y35 => G (y35.length + slices_.length ≤ 5864062014549) (G ((y35 ++ slices_).length + slices_2.length ≤ 5864062014549) (some ((y35 ++ slices_) ++ slices_2))))))))

noncomputable def z_normal_Merge (N_ : Int) (Arcs : List (Int × Int × Int)) (N_2 : Int) (Arcs_ : List (Int × Int × Int)) : Option (Int × List (Int × Int × Int) × Er) :=
  ((z_gtext_Check N_ Arcs).bind fun y35 => if y35 = Er.nil then (((z_gtext_Check N_2 Arcs_).bind fun y53 => if y53 = Er.nil then (if N_ = N_2 then (G (-9223372036854775808 ≤ ((Arcs.length : Int) + (Arcs_.length : Int)) ∧ ((Arcs.length : Int) + (Arcs_.length : Int)) ≤ 9223372036854775807) (if ((Arcs.length : Int) + (Arcs_.length : Int)) > 262144 then (some (0, [], (Er.no 9))) else (((z_slices_Concat Arcs Arcs_).bind fun y110 => some (N_, y110, Er.nil))))) else (some (0, [], (Er.no 1)))) else (some (0, [], y53)))) else (some (0, [], y35)))

noncomputable def z_viaductref01_E (n_ : Int) : Option (Int) :=
  some n_

noncomputable def z_viaductref01_At (kind : Int) (at_ : Int) (Code : Int) (Places : List (Int × Int)) : Option (Int × List (Int × Int)) :=
  G ([(kind, at_)].length + Places.length ≤ 8796093021952) (some (Code, ([(kind, at_)] ++ Places)))

noncomputable def z_viaductref03_DocCheck_l0 (N_ : Int) (Arcs : List (Int × Int × Int)) (i0 : Int) : Option ((Int) ⊕ ((Int × List (Int × Int)) ⊕ (Unit))) :=
  if i0 < (Arcs.length : Int) then (G (0 ≤ i0) (((if ((gt Arcs i0).1) < 0 then (some true) else (if ((gt Arcs i0).1) ≥ N_ then (some true) else (if ((gt Arcs i0).2.1) < 0 then (some true) else (some (decide (((gt Arcs i0).2.1) ≥ N_))))) : Option (Bool)).bind fun o94 => if o94 = true then (((z_viaductref01_E 7).bind fun y114 => ((z_viaductref01_At 4 i0 y114 []).bind fun y119 => (some (y119.1, y119.2)).map fun v => Sum.inr (Sum.inl v)))) else (((if ((gt Arcs i0).2.2) < 0 then (some true) else (some (decide (((gt Arcs i0).2.2) > 2147483647))) : Option (Bool)).bind fun o144 => if o144 = true then (((z_viaductref01_E 8).bind fun y157 => ((z_viaductref01_At 4 i0 y157 []).bind fun y162 => (some (y162.1, y162.2)).map fun v => Sum.inr (Sum.inl v)))) else (G ((i0 + 1) ≤ 9223372036854775807) (some (Sum.inl (i0 + 1))))))))) else (some (Sum.inr (Sum.inr ())))
noncomputable def z_viaductref03_DocCheck (N_ : Int) (Arcs : List (Int × Int × Int)) : Option (Int × List (Int × Int)) :=
  ((if N_ < 0 then (some true) else (if N_ > 65536 then (some true) else (some (decide ((Arcs.length : Int) > 262144)))) : Option (Bool)).bind fun o21 => if o21 = true then (((z_viaductref01_E 9).bind fun y39 => some (y39, []))) else (((loopO (fun zz_ => z_viaductref03_DocCheck_l0 N_ Arcs zz_) 0).bind (Sum.elim some fun o54 => some (0, [])))))

noncomputable def z_viaductref01_Err_Bad (Code : Int) (Places : List (Int × Int)) : Option (Bool) :=
  if Code = 0 then (some (decide ((Places.length : Int) > 0))) else (some true)

noncomputable def z_viaductref01_First (list_ : Int) (list_2 : List (Int × Int)) (list_3 : Int) (list_4 : List (Int × Int)) : Option (Int × List (Int × Int)) :=
  ((z_viaductref01_Err_Bad list_ list_2).bind fun y33 => if y33 = true then (some (list_, list_2)) else (((z_viaductref01_Err_Bad list_3 list_4).bind fun y68 => if y68 = true then (some (list_3, list_4)) else (some (0, [])))))

noncomputable def z_viaductref03_Twin_l0 (Arcs : List (Int × Int × Int)) (i0 : Int) (c1 : List (Int × Int × Int)) : Option ((Int × List (Int × Int × Int)) ⊕ (List (Int × Int × Int))) :=
  if i0 < (Arcs.length : Int) then (G (0 ≤ i0) (G (c1.length + 1 ≤ 5864062014549) (G ((i0 + 1) ≤ 9223372036854775807) (some (Sum.inl ((i0 + 1), (c1 ++ [((gt Arcs i0).1, (gt Arcs i0).2.1, (gt Arcs i0).2.2)]))))))) else (some (Sum.inr c1))
noncomputable def z_viaductref03_Twin (N_ : Int) (Arcs : List (Int × Int × Int)) : Option (Int × List (Int × Int × Int)) :=
  ((loopO (fun zz_ => z_viaductref03_Twin_l0 Arcs zz_.1 zz_.2) (0, [])).bind fun o35 => some (N_, o35))

noncomputable def z_viaductref04_DocMerge_l0 (Arcs_ : List (Int × Int × Int)) (i0 : Int) (c1 : List (Int × Int × Int)) : Option ((Int × List (Int × Int × Int)) ⊕ (List (Int × Int × Int))) :=
  if i0 < (Arcs_.length : Int) then (G (0 ≤ i0) (G (c1.length + 1 ≤ 5864062014549) (G ((i0 + 1) ≤ 9223372036854775807) (some (Sum.inl ((i0 + 1), (c1 ++ [((gt Arcs_ i0).1, (gt Arcs_ i0).2.1, (gt Arcs_ i0).2.2)]))))))) else (some (Sum.inr c1))
noncomputable def z_viaductref04_DocMerge (N_ : Int) (Arcs : List (Int × Int × Int)) (N_2 : Int) (Arcs_ : List (Int × Int × Int)) : Option (Int × List (Int × Int × Int) × Int × List (Int × Int)) :=
  ((z_viaductref03_DocCheck N_ Arcs).bind fun y48 => ((z_viaductref03_DocCheck N_2 Arcs_).bind fun y63 => ((z_viaductref01_First y48.1 y48.2 y63.1 y63.2).bind fun y85 => ((z_viaductref01_Err_Bad y85.1 y85.2).bind fun y106 => if y106 = true then (some (0, [], y85.1, y85.2)) else (if N_ = N_2 then (G (-9223372036854775808 ≤ ((Arcs.length : Int) + (Arcs_.length : Int)) ∧ ((Arcs.length : Int) + (Arcs_.length : Int)) ≤ 9223372036854775807) (if ((Arcs.length : Int) + (Arcs_.length : Int)) > 262144 then (((z_viaductref01_E 9).bind fun y161 => some (0, [], y161, []))) else (((z_viaductref03_Twin N_ Arcs).bind fun y179 => ((loopO (fun zz_ => z_viaductref04_DocMerge_l0 Arcs_ zz_.1 zz_.2) (0, y179.2)).bind fun o207 => some (y179.1, o207, 0, [])))))) else (((z_viaductref01_E 1).bind fun y136 => some (0, [], y136, []))))))))

noncomputable def z_viaductref03_SameArcs_l0 (a : List (Int × Int × Int)) (b : List (Int × Int × Int)) (i0 : Int) : Option ((Int) ⊕ ((Bool) ⊕ (Unit))) :=
  if i0 < (a.length : Int) then (G (0 ≤ i0) (G (i0 < (b.length : Int)) (if ((gt a i0).1) = ((gt b i0).1) ∧ ((gt a i0).2.1) = ((gt b i0).2.1) ∧ ((gt a i0).2.2) = ((gt b i0).2.2) then (G ((i0 + 1) ≤ 9223372036854775807) (some (Sum.inl (i0 + 1)))) else ((some false).map fun v => Sum.inr (Sum.inl v))))) else (some (Sum.inr (Sum.inr ())))
noncomputable def z_viaductref03_SameArcs (a : List (Int × Int × Int)) (b : List (Int × Int × Int)) : Option (Bool) :=
  if (a.length : Int) = (b.length : Int) then (((loopO (fun zz_ => z_viaductref03_SameArcs_l0 a b zz_) 0).bind (Sum.elim some fun o10 => some true))) else (some false)

noncomputable def z_viaductref03_Same (N_ : Int) (Arcs : List (Int × Int × Int)) (N_2 : Int) (Arcs_ : List (Int × Int × Int)) : Option (Bool) :=
  if N_ = N_2 then (((z_viaductref03_SameArcs Arcs Arcs_).bind fun y21 => some y21)) else (some false)

noncomputable def z_viaductseen_Same_l0 (Places : List (Int × Int)) (i0 : Int) (e1 : Er) : Option ((Int × Er) ⊕ ((Bool) ⊕ (Er))) :=
  if i0 < (Places.length : Int) then (G (0 ≤ i0) (if Er.isAt e1 = true then (if (Er.fk e1) = ((gt Places i0).1) ∧ (Er.fi e1) = ((gt Places i0).2) then (G ((i0 + 1) ≤ 9223372036854775807) (some (Sum.inl ((i0 + 1), (Er.fe e1))))) else ((some false).map fun v => Sum.inr (Sum.inl v))) else ((some false).map fun v => Sum.inr (Sum.inl v)))) else (some (Sum.inr (Sum.inr e1)))
noncomputable def z_viaductseen_Same_l1 (err : Er) (Code : Int) (i2 : Int) : Option ((Int) ⊕ ((Bool) ⊕ (Unit))) :=
  if i2 ≤ 20 then (if (decide (Er.num err = some i2)) = (decide (i2 = Code)) then (G (-9223372036854775808 ≤ (i2 + 1) ∧ (i2 + 1) ≤ 9223372036854775807) (some (Sum.inl (i2 + 1)))) else ((some false).map fun v => Sum.inr (Sum.inl v))) else (some (Sum.inr (Sum.inr ())))
noncomputable def z_viaductseen_Same (err : Er) (Code : Int) (Places : List (Int × Int)) : Option (Bool) :=
  ((z_viaductref01_Err_Bad Code Places).bind fun y11 => if (!y11) = true then (if err = Er.nil then (some true) else (some false)) else (if err = Er.nil then (some false) else (((loopO (fun zz_ => z_viaductseen_Same_l0 Places zz_.1 zz_.2) (0, err)).bind (Sum.elim some fun o40 => if Er.isAt o40 = true then (some false) else (((if (Er.num err).isSome = true then (some (!decide (((Er.num err).getD 0) = Code))) else (some true) : Option (Bool)).bind fun o160 => if o160 = true then (some false) else (((loopO (fun zz_ => z_viaductseen_Same_l1 err Code zz_) 1).bind (Sum.elim some fun o185 => some true))))))))))

noncomputable def z_viaductlaw04_NormalMerges (N_ : Int) (Arcs : List (Int × Int × Int)) (N_2 : Int) (Arcs_ : List (Int × Int × Int)) : Option (Bool) :=
  ((z_normal_Merge N_ Arcs N_2 Arcs_).bind fun y21 => ((z_viaductref04_DocMerge N_ Arcs N_2 Arcs_).bind fun y56 => ((z_viaductref03_Same y21.1 y21.2.1 y56.1 y56.2.1).bind fun y107 => if y107 = true then (((z_viaductseen_Same y21.2.2 y56.2.2.1 y56.2.2.2).bind fun y118 => some y118)) else (some false))))

end Go.Vd
