/- What the functions come to, as plain functions (printed by a program of ours). -/
import Derived.Test.YtodoafhphhbaaaaDoorPofVpA
import Derived.Test.YtodoafhphhbaaaaDoorPofSo0
set_option maxRecDepth 100000
set_option linter.unusedVariables false
namespace Go.Vd
def enc_i64_i64 (x : Int × Int) : List Value := [.int .i64 x.1, .int .i64 x.2]
def enc_i64_i64_i64 (x : Int × Int × Int) : List Value := [.int .i64 x.1, .int .i64 x.2.1, .int .i64 x.2.2]
def enc_i64_u64_i64 (x : Int × Int × Int) : List Value := [.int .i64 x.1, .int .u64 x.2.1, .int .i64 x.2.2]

noncomputable def z_gtext_within (x : Int) (n_ : Int) : Option (Bool) :=
  if x ≥ 0 then (some (decide (x < n_))) else (some false)

noncomputable def z_gtext_arc (From : Int) (To : Int) (Weight : Int) (n_ : Int) : Option (Er) :=
  ((((z_gtext_within From n_).bind fun y22 => if y22 = true then (((z_gtext_within To n_).bind fun y30 => some (!y30))) else (some true)) : Option (Bool)).bind fun o15 => if o15 = true then (some (Er.no 7)) else (if Weight < 0 then (some (Er.no 8)) else (if Weight > 2147483647 then (some (Er.no 8)) else (some Er.nil))))

noncomputable def z_fault_At (kind : Int) (at_ : Int) (err : Er) : Option (Er) :=
  if err = Er.nil then (some Er.nil) else (some (Er.at kind at_ err))

noncomputable def z_gtext_Check_l0 (N_ : Int) (Arcs : List (Int × Int × Int)) (i0 : Int) : Option ((Int) ⊕ ((Er) ⊕ (Unit))) :=
  if i0 < (Arcs.length : Int) then (G (0 ≤ i0) (((z_gtext_arc ((gt Arcs i0).1) ((gt Arcs i0).2.1) ((gt Arcs i0).2.2) N_).bind fun y76 => if y76 = Er.nil then (G ((i0 + 1) ≤ 9223372036854775807) (some (Sum.inl (i0 + 1)))) else (((z_fault_At 4 i0 y76).bind fun y95 => (some y95).map fun v => Sum.inr (Sum.inl v)))))) else (some (Sum.inr (Sum.inr ())))
noncomputable def z_gtext_Check (N_ : Int) (Arcs : List (Int × Int × Int)) : Option (Er) :=
  ((if N_ < 0 then (some true) else (if N_ > 65536 then (some true) else (some (decide ((Arcs.length : Int) > 262144)))) : Option (Bool)).bind fun o15 => if o15 = true then (some (Er.no 9)) else (((loopO (fun zz_ => z_gtext_Check_l0 N_ Arcs zz_) 0).bind (Sum.elim some fun o36 => some Er.nil))))

noncomputable def z_cmp_isNaN (x : Int) : Option (Bool) :=
  some (!decide (x = x))

noncomputable def z_cmp_Compare (x : Int) (y : Int) : Option (Int) :=
  ((z_cmp_isNaN x).bind fun y3 => ((z_cmp_isNaN y).bind fun y9 => if y3 = true then (if y9 = true then (some 0) else (some (-1))) else (if y9 = true then (some 1) else (if x < y then (some (-1)) else (if x > y then (some 1) else (some 0))))))

noncomputable def z_cmp_Or_l0 (vals : List (Int)) (i0 : Int) : Option ((Int) ⊕ ((Int) ⊕ (Unit))) :=
  if i0 < (vals.length : Int) then (G (0 ≤ i0) (if (gt vals i0) = 0 then (G ((i0 + 1) ≤ 9223372036854775807) (some (Sum.inl (i0 + 1)))) else ((some (gt vals i0)).map fun v => Sum.inr (Sum.inl v)))) else (some (Sum.inr (Sum.inr ())))
noncomputable def z_cmp_Or (vals : List (Int)) : Option (Int) :=
  ((loopO (fun zz_ => z_cmp_Or_l0 vals zz_) 0).bind (Sum.elim some fun o5 => some 0))

noncomputable def z_normal_order (From : Int) (To : Int) (Weight : Int) (From_ : Int) (To_ : Int) (Weight_ : Int) : Option (Int) :=
  ((z_cmp_Compare From From_).bind fun y16 => ((z_cmp_Compare To To_).bind fun y21 => ((z_cmp_Compare Weight Weight_).bind fun y26 => ((z_cmp_Or [y16, y21, y26]).bind fun y41 => some y41))))

noncomputable def z_normal_Of_1 (From : Int) (To : Int) (Weight : Int) (From_ : Int) (To_ : Int) (Weight_ : Int) : Option (Bool) :=
  if From = From_ then (some (decide (To = To_))) else (some false)

noncomputable def z_slices_CompactFunc_l0 (k3 : Int) (s0 : List (Int × Int × Int)) (k1 : Int) (k22 : Int) : Option ((List (Int × Int × Int) × Int × Int) ⊕ (List (Int × Int × Int) × Int)) :=
  if k22 < ((s0.drop k3.toNat).length : Int) then (G (0 ≤ k22) (G (-9223372036854775808 ≤ (k22 - 1) ∧ (k22 - 1) ≤ 9223372036854775807) (G (0 ≤ (k22 - 1) ∧ (k22 - 1) < ((s0.drop k3.toNat).length : Int)) (((z_normal_Of_1 ((gt (s0.drop k3.toNat) k22).1) ((gt (s0.drop k3.toNat) k22).2.1) ((gt (s0.drop k3.toNat) k22).2.2) ((gt (s0.drop k3.toNat) (k22 - 1)).1) ((gt (s0.drop k3.toNat) (k22 - 1)).2.1) ((gt (s0.drop k3.toNat) (k22 - 1)).2.2)).bind fun y109 => if (!y109) = true then (G (0 ≤ k1 ∧ k1 < (s0.length : Int)) (G ((k1 + 1) ≤ 9223372036854775807) (G ((k22 + 1) ≤ 9223372036854775807) (some (Sum.inl ((s0.set k1.toNat ((gt (s0.drop k3.toNat) k22).1, (gt (s0.drop k3.toNat) k22).2.1, (gt (s0.drop k3.toNat) k22).2.2)), (k1 + 1), (k22 + 1))))))) else (G ((k22 + 1) ≤ 9223372036854775807) (some (Sum.inl (s0, k1, (k22 + 1)))))))))) else (some (Sum.inr (s0, k1)))
noncomputable def z_slices_CompactFunc_l1 (s : List (Int × Int × Int)) (k3 : Int) : Option ((Int) ⊕ ((List (Int × Int × Int) × List (Int × Int × Int)) ⊕ (Unit))) :=
  if k3 < (s.length : Int) then (G (0 ≤ k3) (G (-9223372036854775808 ≤ (k3 - 1) ∧ (k3 - 1) ≤ 9223372036854775807) (G (0 ≤ (k3 - 1) ∧ (k3 - 1) < (s.length : Int)) (((z_normal_Of_1 ((gt s k3).1) ((gt s k3).2.1) ((gt s k3).2.2) ((gt s (k3 - 1)).1) ((gt s (k3 - 1)).2.1) ((gt s (k3 - 1)).2.2)).bind fun y47 => if y47 = true then (G (0 ≤ k3 ∧ k3 ≤ (s.length : Int)) (((loopO (fun zz_ => z_slices_CompactFunc_l0 k3 zz_.1 zz_.2.1 zz_.2.2) (s, k3, 1)).bind fun o66 => G (0 ≤ o66.2 ∧ o66.2 ≤ (o66.1.length : Int)) (G ((0 : Int) < (o66.1.length : Int)) (G (0 ≤ o66.2 ∧ o66.2 ≤ ((o66.1.take o66.2.toNat ++ List.replicate (o66.1.length - o66.2.toNat) ((0, 0, 0) : Int × Int × Int)).length : Int)) ((some (((o66.1.take o66.2.toNat ++ List.replicate (o66.1.length - o66.2.toNat) ((0, 0, 0) : Int × Int × Int)).take o66.2.toNat), (o66.1.take o66.2.toNat ++ List.replicate (o66.1.length - o66.2.toNat) ((0, 0, 0) : Int × Int × Int)))).map fun v => Sum.inr (Sum.inl v))))))) else (G ((k3 + 1) ≤ 9223372036854775807) (some (Sum.inl (k3 + 1))))))))) else (some (Sum.inr (Sum.inr ())))
noncomputable def z_slices_CompactFunc (s : List (Int × Int × Int)) : Option (List (Int × Int × Int) × List (Int × Int × Int)) :=
  if (s.length : Int) < 2 then (some (s, s)) else (((loopO (fun zz_ => z_slices_CompactFunc_l1 s zz_) 1).bind (Sum.elim some fun o15 => some (s, s))))

noncomputable def z_normal_Of_l0 (Arcs : List (Int × Int × Int)) (i0 : Int) (c1 : List (Int × Int × Int)) : Option ((Int × List (Int × Int × Int)) ⊕ (List (Int × Int × Int))) :=
  if i0 < (Arcs.length : Int) then (G (0 ≤ i0) (if ((gt Arcs i0).1) = ((gt Arcs i0).2.1) then (G ((i0 + 1) ≤ 9223372036854775807) (some (Sum.inl ((i0 + 1), c1)))) else (G (c1.length + 1 ≤ 9382499223278) (G ((i0 + 1) ≤ 9223372036854775807) (some (Sum.inl ((i0 + 1), (c1 ++ [((gt Arcs i0).1, (gt Arcs i0).2.1, (gt Arcs i0).2.2)])))))))) else (some (Sum.inr c1))
noncomputable def z_normal_Of (N_ : Int) (Arcs : List (Int × Int × Int)) : Option (Int × List (Int × Int × Int) × Er) :=
  ((z_gtext_Check N_ Arcs).bind fun y29 => if y29 = Er.nil then (((loopO (fun zz_ => z_normal_Of_l0 Arcs zz_.1 zz_.2) (0, [])).bind fun o60 => G (o60.length ≤ 1000000000000) (((sortO (fun (a_ b_ : Int × Int × Int) => z_normal_order a_.1 a_.2.1 a_.2.2 b_.1 b_.2.1 b_.2.2) o60).bind fun y162 => ((z_slices_CompactFunc y162).bind fun y170 => some (N_, y170.1, Er.nil)))))) else (some (0, [], y29)))

noncomputable def z_overlay_New_l0 (y25 : Int × List (Int × Int × Int) × Er) (i0 : Int) (o1 : List (Bool × List (Int × Int × Int) × List (Int × Int × Int))) : Option ((Int × List (Bool × List (Int × Int × Int) × List (Int × Int × Int))) ⊕ (List (Bool × List (Int × Int × Int) × List (Int × Int × Int)))) :=
  if i0 < (y25.2.1.length : Int) then (G (0 ≤ i0) (G (0 ≤ (gt y25.2.1 i0).1 ∧ (gt y25.2.1 i0).1 < (o1.length : Int)) (G (0 ≤ (gt y25.2.1 i0).2.2 ∧ (gt y25.2.1 i0).2.2 ≤ 18446744073709551615) (G (((gt o1 ((gt y25.2.1 i0).1)).2.1).length + 1 ≤ 9382499223278) (G (0 ≤ (gt y25.2.1 i0).2.1 ∧ (gt y25.2.1 i0).2.1 < ((o1.set ((gt y25.2.1 i0).1).toNat ((gt o1 ((gt y25.2.1 i0).1)).1, ((gt o1 ((gt y25.2.1 i0).1)).2.1 ++ [((gt y25.2.1 i0).2.1, (gt y25.2.1 i0).2.2, (-1))]), (gt o1 ((gt y25.2.1 i0).1)).2.2)).length : Int)) (G ((gt y25.2.1 i0).2.2 ≤ 18446744073709551615) (G (((gt (o1.set ((gt y25.2.1 i0).1).toNat ((gt o1 ((gt y25.2.1 i0).1)).1, ((gt o1 ((gt y25.2.1 i0).1)).2.1 ++ [((gt y25.2.1 i0).2.1, (gt y25.2.1 i0).2.2, (-1))]), (gt o1 ((gt y25.2.1 i0).1)).2.2)) ((gt y25.2.1 i0).2.1)).2.2).length + 1 ≤ 9382499223278) (G ((i0 + 1) ≤ 9223372036854775807) (some (Sum.inl ((i0 + 1), ((o1.set ((gt y25.2.1 i0).1).toNat ((gt o1 ((gt y25.2.1 i0).1)).1, ((gt o1 ((gt y25.2.1 i0).1)).2.1 ++ [((gt y25.2.1 i0).2.1, (gt y25.2.1 i0).2.2, (-1))]), (gt o1 ((gt y25.2.1 i0).1)).2.2)).set ((gt y25.2.1 i0).2.1).toNat ((gt (o1.set ((gt y25.2.1 i0).1).toNat ((gt o1 ((gt y25.2.1 i0).1)).1, ((gt o1 ((gt y25.2.1 i0).1)).2.1 ++ [((gt y25.2.1 i0).2.1, (gt y25.2.1 i0).2.2, (-1))]), (gt o1 ((gt y25.2.1 i0).1)).2.2)) ((gt y25.2.1 i0).2.1)).1, (gt (o1.set ((gt y25.2.1 i0).1).toNat ((gt o1 ((gt y25.2.1 i0).1)).1, ((gt o1 ((gt y25.2.1 i0).1)).2.1 ++ [((gt y25.2.1 i0).2.1, (gt y25.2.1 i0).2.2, (-1))]), (gt o1 ((gt y25.2.1 i0).1)).2.2)) ((gt y25.2.1 i0).2.1)).2.1, ((gt (o1.set ((gt y25.2.1 i0).1).toNat ((gt o1 ((gt y25.2.1 i0).1)).1, ((gt o1 ((gt y25.2.1 i0).1)).2.1 ++ [((gt y25.2.1 i0).2.1, (gt y25.2.1 i0).2.2, (-1))]), (gt o1 ((gt y25.2.1 i0).1)).2.2)) ((gt y25.2.1 i0).2.1)).2.2 ++ [((gt y25.2.1 i0).1, (gt y25.2.1 i0).2.2, (-1))])))))))))))))) else (some (Sum.inr o1))
noncomputable def z_overlay_New (N_ : Int) (Arcs : List (Int × Int × Int)) : Option ((Er) ⊕ (List (Bool × List (Int × Int × Int) × List (Int × Int × Int)) × Int × Int)) :=
  ((z_normal_Of N_ Arcs).bind fun y25 => if y25.2.2 = Er.nil then (G (0 ≤ y25.1 ∧ 56 * y25.1 ≤ 281474976710656) (((loopO (fun zz_ => z_overlay_New_l0 y25 zz_.1 zz_.2) (0, (List.replicate y25.1.toNat (false, [], [])))).bind fun o87 => some (Sum.inr (o87, y25.1, (y25.2.1.length : Int)))))) else (some (Sum.inl y25.2.2)))

noncomputable def z_overlay_Overlay_Len (o_ : List (Bool × List (Int × Int × Int) × List (Int × Int × Int))) (o_2 : Int) (o_3 : Int) : Option (Int) :=
  some o_2

noncomputable def z_overlay_Overlay_Arcs (o_ : List (Bool × List (Int × Int × Int) × List (Int × Int × Int))) (o_2 : Int) (o_3 : Int) : Option (Int) :=
  some o_3

noncomputable def z_overlay_Overlay_Alive (o_ : List (Bool × List (Int × Int × Int) × List (Int × Int × Int))) (o_2 : Int) (o_3 : Int) (v_ : Int) : Option (Bool) :=
  if v_ ≥ 0 then (if v_ < (o_.length : Int) then (G (0 ≤ v_) (some (!(gt o_ v_).1))) else (some false)) else (some false)

noncomputable def z_overlay_find_1 (Node : Int) (Weight : Int) (Via : Int) (v_ : Int) : Option (Int) :=
  some (IntKind.i64.wrap (Node - v_))

noncomputable def z_slices_BinarySearchFunc_l0 (x : List (Int × Int × Int)) (target : Int) (j0 : Int) (i1 : Int) : Option ((Int × Int) ⊕ (Int)) :=
  if i1 < j0 then (G (-9223372036854775808 ≤ (i1 + j0) ∧ (i1 + j0) ≤ 9223372036854775807) (G (0 ≤ (i1 + j0) ∧ (i1 + j0) ≤ 18446744073709551615) (G (-9223372036854775808 ≤ ((i1 + j0) / 2) ∧ ((i1 + j0) / 2) ≤ 9223372036854775807) (G (0 ≤ ((i1 + j0) / 2) ∧ ((i1 + j0) / 2) < (x.length : Int)) (((z_overlay_find_1 ((gt x ((i1 + j0) / 2)).1) ((gt x ((i1 + j0) / 2)).2.1) ((gt x ((i1 + j0) / 2)).2.2) target).bind fun y38 => if y38 < 0 then (G ((((i1 + j0) / 2) + 1) ≤ 9223372036854775807) (some (Sum.inl (j0, (((i1 + j0) / 2) + 1))))) else (some (Sum.inl (((i1 + j0) / 2), i1))))))))) else (some (Sum.inr i1))
noncomputable def z_slices_BinarySearchFunc (x : List (Int × Int × Int)) (target : Int) : Option (Int × Bool) :=
  ((loopO (fun zz_ => z_slices_BinarySearchFunc_l0 x target zz_.1 zz_.2) ((x.length : Int), 0)).bind fun o5 => if o5 < (x.length : Int) then (G (0 ≤ o5) (((z_overlay_find_1 ((gt x o5).1) ((gt x o5).2.1) ((gt x o5).2.2) target).bind fun y55 => some (o5, (decide (y55 = 0)))))) else (some (o5, false)))

noncomputable def z_overlay_find (l : List (Int × Int × Int)) (v_ : Int) : Option (Int × Bool) :=
  ((z_slices_BinarySearchFunc l v_).bind fun y3 => some (y3.1, y3.2))

noncomputable def z_overlay_without (l : List (Int × Int × Int)) (v_ : Int) : Option (List (Int × Int × Int)) :=
  ((z_overlay_find l v_).bind fun y8 => if (!y8.2) = true then (some l) else (G (-9223372036854775808 ≤ (y8.1 + 1) ∧ (y8.1 + 1) ≤ 9223372036854775807) (G (0 ≤ y8.1 ∧ y8.1 ≤ (y8.1 + 1) ∧ (y8.1 + 1) ≤ (l.length : Int) ∧ (l.length : Int) ≤ 1000000000) (some (l.take y8.1.toNat ++ l.drop (y8.1 + 1).toNat)))))

noncomputable def z_overlay_Overlay_Remove_l0 (o_ : List (Bool × List (Int × Int × Int) × List (Int × Int × Int))) (v_ : Int) (o0 : List (Bool × List (Int × Int × Int) × List (Int × Int × Int))) (i1 : Int) : Option ((List (Bool × List (Int × Int × Int) × List (Int × Int × Int)) × Int) ⊕ (List (Bool × List (Int × Int × Int) × List (Int × Int × Int)))) :=
  if i1 < (((gt o_ v_).2.1).length : Int) then (G (0 ≤ i1) (G (0 ≤ (gt ((gt o_ v_).2.1) i1).1 ∧ (gt ((gt o_ v_).2.1) i1).1 < (o0.length : Int)) (G (((gt ((gt o_ v_).2.1) i1).1) ≠ v_) (((z_overlay_without ((gt o0 ((gt ((gt o_ v_).2.1) i1).1)).2.2) v_).bind fun y141 => G ((i1 + 1) ≤ 9223372036854775807) (some (Sum.inl ((o0.set ((gt ((gt o_ v_).2.1) i1).1).toNat ((gt o0 ((gt ((gt o_ v_).2.1) i1).1)).1, (gt o0 ((gt ((gt o_ v_).2.1) i1).1)).2.1, y141)), (i1 + 1))))))))) else (some (Sum.inr o0))
noncomputable def z_overlay_Overlay_Remove_l1 (o_ : List (Bool × List (Int × Int × Int) × List (Int × Int × Int))) (v_ : Int) (o2 : List (Bool × List (Int × Int × Int) × List (Int × Int × Int))) (i3 : Int) : Option ((List (Bool × List (Int × Int × Int) × List (Int × Int × Int)) × Int) ⊕ (List (Bool × List (Int × Int × Int) × List (Int × Int × Int)))) :=
  if i3 < (((gt o_ v_).2.2).length : Int) then (G (0 ≤ i3) (G (0 ≤ (gt ((gt o_ v_).2.2) i3).1 ∧ (gt ((gt o_ v_).2.2) i3).1 < (o2.length : Int)) (G (((gt ((gt o_ v_).2.2) i3).1) ≠ v_) (((z_overlay_without ((gt o2 ((gt ((gt o_ v_).2.2) i3).1)).2.1) v_).bind fun y240 => G ((i3 + 1) ≤ 9223372036854775807) (some (Sum.inl ((o2.set ((gt ((gt o_ v_).2.2) i3).1).toNat ((gt o2 ((gt ((gt o_ v_).2.2) i3).1)).1, y240, (gt o2 ((gt ((gt o_ v_).2.2) i3).1)).2.2)), (i3 + 1))))))))) else (some (Sum.inr o2))
noncomputable def z_overlay_Overlay_Remove (o_ : List (Bool × List (Int × Int × Int) × List (Int × Int × Int))) (o_2 : Int) (o_3 : Int) (v_ : Int) : Option (Er × List (Bool × List (Int × Int × Int) × List (Int × Int × Int)) × Int × Int) :=
  ((z_overlay_Overlay_Alive o_ o_2 o_3 v_).bind fun y18 => if (!y18) = true then (some ((Er.no 7), o_, o_2, o_3)) else (G (0 ≤ v_ ∧ v_ < (o_.length : Int)) (((loopO (fun zz_ => z_overlay_Overlay_Remove_l0 o_ v_ zz_.1 zz_.2) (o_, 0)).bind fun o71 => ((loopO (fun zz_ => z_overlay_Overlay_Remove_l1 o_ v_ zz_.1 zz_.2) (o71, 0)).bind fun o171 => G (-9223372036854775808 ≤ ((((gt o_ v_).2.1).length : Int) + (((gt o_ v_).2.2).length : Int)) ∧ ((((gt o_ v_).2.1).length : Int) + (((gt o_ v_).2.2).length : Int)) ≤ 9223372036854775807) (G (-9223372036854775808 ≤ (o_3 - ((((gt o_ v_).2.1).length : Int) + (((gt o_ v_).2.2).length : Int))) ∧ (o_3 - ((((gt o_ v_).2.1).length : Int) + (((gt o_ v_).2.2).length : Int))) ≤ 9223372036854775807) (G (-9223372036854775808 ≤ (o_2 - 1) ∧ (o_2 - 1) ≤ 9223372036854775807) (G (v_ < (o171.length : Int)) (some (Er.nil, (o171.set v_.toNat (true, [], [])), (o_2 - 1), (o_3 - ((((gt o_ v_).2.1).length : Int) + (((gt o_ v_).2.2).length : Int)))))))))))))

noncomputable def z_overlay_Overlay_Weight (o_ : List (Bool × List (Int × Int × Int) × List (Int × Int × Int))) (o_2 : Int) (o_3 : Int) (u : Int) (w : Int) : Option (Int × Bool) :=
  ((z_overlay_Overlay_Alive o_ o_2 o_3 u).bind fun y4 => if (!y4) = true then (some (0, false)) else (G (0 ≤ u ∧ u < (o_.length : Int)) (((z_overlay_find ((gt o_ u).2.1) w).bind fun y25 => if (!y25.2) = true then (some (0, false)) else (G (0 ≤ y25.1 ∧ y25.1 < (((gt o_ u).2.1).length : Int)) (some ((gt ((gt o_ u).2.1) y25.1).2.1, true)))))))

noncomputable def z_overlay_laid (l : List (Int × Int × Int)) (Node : Int) (Weight : Int) (Via : Int) : Option (List (Int × Int × Int)) :=
  ((z_overlay_find l Node).bind fun y15 => if y15.2 = true then (G (0 ≤ y15.1 ∧ y15.1 < (l.length : Int)) (some (l.set y15.1.toNat (Node, Weight, Via)))) else (G (0 ≤ y15.1 ∧ y15.1 ≤ (l.length : Int) ∧ (l.length : Int) ≤ 1000000000) (some (l.take y15.1.toNat ++ ([(Node, Weight, Via)] ++ l.drop y15.1.toNat)))))

noncomputable def z_overlay_Overlay_Put (o_ : List (Bool × List (Int × Int × Int) × List (Int × Int × Int))) (o_2 : Int) (o_3 : Int) (u : Int) (w : Int) (weight : Int) (via : Int) : Option (Bool × Er × List (Bool × List (Int × Int × Int) × List (Int × Int × Int)) × Int) :=
  ((((z_overlay_Overlay_Alive o_ o_2 o_3 u).bind fun y24 => if y24 = true then (((z_overlay_Overlay_Alive o_ o_2 o_3 w).bind fun y32 => some (!y32))) else (some true)) : Option (Bool)).bind fun o17 => if o17 = true then (some (false, (Er.no 7), o_, o_3)) else (if u = w then (some (false, (Er.no 1), o_, o_3)) else (if weight > 140737488355328 then (some (false, (Er.no 8), o_, o_3)) else (((if via < (-1) then (some true) else (if via ≥ (o_.length : Int) then (some true) else (if via ≥ 0 then (G (0 ≤ via ∧ via < (o_.length : Int)) (some (!(gt o_ via).1))) else (some false))) : Option (Bool)).bind fun o54 => if o54 = true then (some (false, (Er.no 1), o_, o_3)) else (((z_overlay_Overlay_Weight o_ o_2 o_3 u w).bind fun y81 => ((if y81.2 = true then (some (true, (decide (y81.1 ≤ weight)))) else (some (false, false)) : Option (Bool × Bool)).bind fun o88 => if o88.2 = true then (some (false, Er.nil, o_, o_3)) else (((if (!o88.1) = true then (G (-9223372036854775808 ≤ (o_3 + 1) ∧ (o_3 + 1) ≤ 9223372036854775807) (some (o_3 + 1))) else (some o_3) : Option (Int)).bind fun o106 => G (0 ≤ u ∧ u < (o_.length : Int)) (((z_overlay_laid ((gt o_ u).2.1) w weight via).bind fun y148 => G (0 ≤ w ∧ w < ((o_.set u.toNat ((gt o_ u).1, y148, (gt o_ u).2.2)).length : Int)) (((z_overlay_laid ((gt (o_.set u.toNat ((gt o_ u).1, y148, (gt o_ u).2.2)) w).2.2) u weight via).bind fun y192 => some (true, Er.nil, ((o_.set u.toNat ((gt o_ u).1, y148, (gt o_ u).2.2)).set w.toNat ((gt (o_.set u.toNat ((gt o_ u).1, y148, (gt o_ u).2.2)) w).1, (gt (o_.set u.toNat ((gt o_ u).1, y148, (gt o_ u).2.2)) w).2.1, y192)), o106)))))))))))))))

noncomputable def z_slices_Clone (s : List (Int × Int × Int)) : Option (List (Int × Int × Int)) :=
  G (([] : List (Int × Int × Int)).length + s.length ≤ 9382499223278) (some (([] : List (Int × Int × Int)) ++ s))

noncomputable def z_overlay_Overlay_Out (o_ : List (Bool × List (Int × Int × Int) × List (Int × Int × Int))) (o_2 : Int) (o_3 : Int) (v_ : Int) : Option (List (Int × Int × Int)) :=
  ((z_overlay_Overlay_Alive o_ o_2 o_3 v_).bind fun y9 => if (!y9) = true then (some []) else (G (0 ≤ v_ ∧ v_ < (o_.length : Int)) (((z_slices_Clone ((gt o_ v_).2.1)).bind fun y30 => some y30))))

noncomputable def z_viaductlaw11_same_l0 (a : List (Int × Int × Int)) (b : List (Int × Int × Int)) (i0 : Int) : Option ((Int) ⊕ ((Bool) ⊕ (Unit))) :=
  if i0 < (a.length : Int) then (G (0 ≤ i0) (G (i0 < (b.length : Int)) (if ((gt a i0).1) = ((gt b i0).1) then (if ((gt a i0).2.1) = ((gt b i0).2.1) then (if ((gt a i0).2.2) = ((gt b i0).2.2) then (G ((i0 + 1) ≤ 9223372036854775807) (some (Sum.inl (i0 + 1)))) else ((some false).map fun v => Sum.inr (Sum.inl v))) else ((some false).map fun v => Sum.inr (Sum.inl v))) else ((some false).map fun v => Sum.inr (Sum.inl v))))) else (some (Sum.inr (Sum.inr ())))
noncomputable def z_viaductlaw11_same (a : List (Int × Int × Int)) (b : List (Int × Int × Int)) : Option (Bool) :=
  if (a.length : Int) = (b.length : Int) then (((loopO (fun zz_ => z_viaductlaw11_same_l0 a b zz_) 0).bind (Sum.elim some fun o10 => some true))) else (some false)

noncomputable def z_overlay_Overlay_In (o_ : List (Bool × List (Int × Int × Int) × List (Int × Int × Int))) (o_2 : Int) (o_3 : Int) (v_ : Int) : Option (List (Int × Int × Int)) :=
  ((z_overlay_Overlay_Alive o_ o_2 o_3 v_).bind fun y9 => if (!y9) = true then (some []) else (G (0 ≤ v_ ∧ v_ < (o_.length : Int)) (((z_slices_Clone ((gt o_ v_).2.2)).bind fun y30 => some y30))))

noncomputable def z_viaductlaw11_awake : Option (Bool) :=
  ((z_overlay_New 3 [(0, 1, 3), (1, 2, 1)]).bind (Sum.elim (fun (y16 : Er) => ((if y16 = Er.nil then (some ()) else (some ()) : Option (Unit)).bind fun o28 => some false)) (fun (y17 : List (Bool × List (Int × Int × Int) × List (Int × Int × Int)) × Int × Int) => ((((z_overlay_Overlay_Len y17.1 y17.2.1 y17.2.2).bind fun y72 => if y72 = 3 then (((z_overlay_Overlay_Arcs y17.1 y17.2.1 y17.2.2).bind fun y79 => if y79 = 2 then (((z_overlay_Overlay_Remove y17.1 y17.2.1 y17.2.2 1).bind fun y86 => if y86.1 = Er.nil then (some (y86.2.1, y86.2.2.1, y86.2.2.2, false)) else (some (y86.2.1, y86.2.2.1, y86.2.2.2, true)))) else (some (y17.1, y17.2.1, y17.2.2, true)))) else (some (y17.1, y17.2.1, y17.2.2, true))) : Option (List (Bool × List (Int × Int × Int) × List (Int × Int × Int)) × Int × Int × Bool)).bind fun o59 => if o59.2.2.2 = true then (some false) else (((z_overlay_Overlay_Put o59.1 o59.2.1 o59.2.2.1 0 2 4 1).bind fun y113 => if y113.2.1 = Er.nil then (if y113.1 = true then (((z_overlay_Overlay_Out y113.2.2.1 o59.2.1 y113.2.2.2 0).bind fun y135 => ((z_viaductlaw11_same y135 [(2, 4, 1)]).bind fun y159 => if y159 = true then (((z_overlay_Overlay_In y113.2.2.1 o59.2.1 y113.2.2.2 2).bind fun y169 => ((z_viaductlaw11_same y169 [(0, 4, 1)]).bind fun y193 => if y193 = true then (((z_overlay_Overlay_Alive y113.2.2.1 o59.2.1 y113.2.2.2 1).bind fun y203 => some (!y203))) else (some false)))) else (some false)))) else (some false)) else (some false)))))))

noncomputable def z_overlay_Overlay_Alive_1 (v_ : Int) : Option (Unit) :=
  some ()

noncomputable def z_overlay_Overlay_Out_1 (v_ : Int) : Option (Unit) :=
  ((z_overlay_Overlay_Alive_1 v_).bind fun y4 => some ())

noncomputable def z_overlay_Overlay_In_1 (v_ : Int) : Option (Unit) :=
  ((z_overlay_Overlay_Alive_1 v_).bind fun y4 => some ())

noncomputable def z_overlay_Overlay_Arcs_1 : Option (Unit) :=
  some ()

noncomputable def z_viaductref01_E (n_ : Int) : Option (Int) :=
  some n_

noncomputable def z_viaductref01_Err_Bad (Code : Int) (Places : List (Int × Int)) : Option (Bool) :=
  if Code = 0 then (some (decide ((Places.length : Int) > 0))) else (some true)

noncomputable def z_viaductseen_Same_l0 (Places : List (Int × Int)) (i0 : Int) (e1 : Er) : Option ((Int × Er) ⊕ ((Bool) ⊕ (Er))) :=
  if i0 < (Places.length : Int) then (G (0 ≤ i0) (if Er.isAt e1 = true then (if (Er.fk e1) = ((gt Places i0).1) ∧ (Er.fi e1) = ((gt Places i0).2) then (G ((i0 + 1) ≤ 9223372036854775807) (some (Sum.inl ((i0 + 1), (Er.fe e1))))) else ((some false).map fun v => Sum.inr (Sum.inl v))) else ((some false).map fun v => Sum.inr (Sum.inl v)))) else (some (Sum.inr (Sum.inr e1)))
noncomputable def z_viaductseen_Same_l1 (err : Er) (Code : Int) (i2 : Int) : Option ((Int) ⊕ ((Bool) ⊕ (Unit))) :=
  if i2 ≤ 20 then (if (decide (Er.num err = some i2)) = (decide (i2 = Code)) then (G (-9223372036854775808 ≤ (i2 + 1) ∧ (i2 + 1) ≤ 9223372036854775807) (some (Sum.inl (i2 + 1)))) else ((some false).map fun v => Sum.inr (Sum.inl v))) else (some (Sum.inr (Sum.inr ())))
noncomputable def z_viaductseen_Same (err : Er) (Code : Int) (Places : List (Int × Int)) : Option (Bool) :=
  ((z_viaductref01_Err_Bad Code Places).bind fun y11 => if (!y11) = true then (if err = Er.nil then (some true) else (some false)) else (if err = Er.nil then (some false) else (((loopO (fun zz_ => z_viaductseen_Same_l0 Places zz_.1 zz_.2) (0, err)).bind (Sum.elim some fun o40 => if Er.isAt o40 = true then (some false) else (((if (Er.num err).isSome = true then (some (!decide (((Er.num err).getD 0) = Code))) else (some true) : Option (Bool)).bind fun o160 => if o160 = true then (some false) else (((loopO (fun zz_ => z_viaductseen_Same_l1 err Code zz_) 1).bind (Sum.elim some fun o185 => some true))))))))))

noncomputable def z_overlay_Overlay_Put_1 (u : Int) (w : Int) (weight : Int) (via : Int) : Option (Unit) :=
  some ()

noncomputable def z_overlay_Overlay_Weight_1 (u : Int) (w : Int) : Option (Unit) :=
  ((z_overlay_Overlay_Alive_1 u).bind fun y4 => some ())

noncomputable def z_overlay_Overlay_Remove_1 (v_ : Int) : Option (Unit) :=
  some ()

noncomputable def z_overlay_Overlay_Len_1 : Option (Unit) :=
  some ()

noncomputable def z_viaductref01_At (kind : Int) (at_ : Int) (Code : Int) (Places : List (Int × Int)) : Option (Int × List (Int × Int)) :=
  G ([(kind, at_)].length + Places.length ≤ 14073748835123) (some (Code, ([(kind, at_)] ++ Places)))

noncomputable def z_viaductlaw11_OverlayFixed : Option (Bool) :=
  ((z_viaductlaw11_awake).bind fun y4 => if (!y4) = true then (some false) else (((z_overlay_New 3 [(0, 1, 4), (0, 1, 3), (2, 2, 1), (1, 2, 1)]).bind (Sum.elim (fun (y27 : Er) => ((if y27 = Er.nil then (((z_overlay_Overlay_Out_1 0).bind fun y50 => ((z_viaductlaw11_same [] [(1, 3, (-1))]).bind fun y65 => if y65 = true then (((z_overlay_Overlay_In_1 2).bind fun y73 => ((z_viaductlaw11_same [] [(1, 1, (-1))]).bind fun y88 => if y88 = true then (((z_overlay_Overlay_Arcs_1).bind fun y96 => some ())) else (some ())))) else (some ())))) else (some ()) : Option (Unit)).bind fun o39 => some false)) (fun (y28 : List (Bool × List (Int × Int × Int) × List (Int × Int × Int)) × Int × Int) => ((((z_overlay_Overlay_Out y28.1 y28.2.1 y28.2.2 0).bind fun y138 => ((z_viaductlaw11_same y138 [(1, 3, (-1))]).bind fun y162 => if y162 = true then (((z_overlay_Overlay_In y28.1 y28.2.1 y28.2.2 2).bind fun y172 => ((z_viaductlaw11_same y172 [(1, 1, (-1))]).bind fun y196 => if y196 = true then (((z_overlay_Overlay_Arcs y28.1 y28.2.1 y28.2.2).bind fun y206 => if y206 = 2 then (((z_overlay_Overlay_Remove y28.1 y28.2.1 y28.2.2 1).bind fun y213 => if y213.1 = Er.nil then (((z_overlay_Overlay_Out y213.2.1 y213.2.2.1 y213.2.2.2 0).bind fun y232 => if (y232.length : Int) = 0 then (((z_overlay_Overlay_Arcs y213.2.1 y213.2.2.1 y213.2.2.2).bind fun y249 => some (y213.2.1, y213.2.2.1, y213.2.2.2, (!decide (y249 = 0))))) else (some (y213.2.1, y213.2.2.1, y213.2.2.2, true)))) else (some (y213.2.1, y213.2.2.1, y213.2.2.2, true)))) else (some (y28.1, y28.2.1, y28.2.2, true)))) else (some (y28.1, y28.2.1, y28.2.2, true))))) else (some (y28.1, y28.2.1, y28.2.2, true)))) : Option (List (Bool × List (Int × Int × Int) × List (Int × Int × Int)) × Int × Int × Bool)).bind fun o125 => if o125.2.2.2 = true then (some false) else (((z_overlay_Overlay_Put o125.1 o125.2.1 o125.2.2.1 0 2 4 1).bind fun y272 => ((z_overlay_Overlay_Put y272.2.2.1 o125.2.1 y272.2.2.2 0 2 4 1).bind fun y288 => ((z_overlay_Overlay_Put y288.2.2.1 o125.2.1 y288.2.2.2 0 2 5 (-1)).bind fun y304 => ((z_overlay_Overlay_Put y304.2.2.1 o125.2.1 y304.2.2.2 0 2 3 (-1)).bind fun y320 => ((if y272.2.1 = Er.nil then (if y288.2.1 = Er.nil then (if y304.2.1 = Er.nil then (if y320.2.1 = Er.nil then (if (!y272.1) = true then (some true) else (if y288.1 = true then (some true) else (if y304.1 = true then (some true) else (if (!y320.1) = true then (some true) else (((z_overlay_Overlay_Out y320.2.2.1 o125.2.1 y320.2.2.2 0).bind fun y375 => ((z_viaductlaw11_same y375 [(2, 3, (-1))]).bind fun y399 => some (!y399)))))))) else (some true)) else (some true)) else (some true)) else (some true) : Option (Bool)).bind fun o337 => if o337 = true then (some false) else (((z_overlay_Overlay_Put y320.2.2.1 o125.2.1 y320.2.2.2 0 1 1125899906842624 7).bind fun y415 => ((z_overlay_Overlay_Put y415.2.2.1 o125.2.1 y415.2.2.2 0 0 1125899906842624 7).bind fun y431 => ((z_overlay_Overlay_Put y431.2.2.1 o125.2.1 y431.2.2.2 0 2 1 2).bind fun y447 => ((z_overlay_Overlay_Put y447.2.2.1 o125.2.1 y447.2.2.2 0 2 140737488355329 9).bind fun y463 => ((z_overlay_Overlay_Put y463.2.2.1 o125.2.1 y463.2.2.2 0 2 140737488355328 3).bind fun y479 => ((z_overlay_Overlay_Put y479.2.2.1 o125.2.1 y479.2.2.2 0 2 1 (-2)).bind fun y495 => ((z_overlay_Overlay_Put y495.2.2.1 o125.2.1 y495.2.2.2 2 0 140737488355328 1).bind fun y511 => ((((z_viaductref01_E 7).bind fun y535 => ((z_viaductseen_Same y415.2.1 y535 []).bind fun y541 => if y541 = true then (((z_viaductref01_E 1).bind fun y549 => ((z_viaductseen_Same y431.2.1 y549 []).bind fun y555 => if y555 = true then (((z_viaductref01_E 1).bind fun y563 => ((z_viaductseen_Same y447.2.1 y563 []).bind fun y569 => if y569 = true then (((z_viaductref01_E 8).bind fun y577 => ((z_viaductseen_Same y463.2.1 y577 []).bind fun y583 => if y583 = true then (((z_viaductref01_E 1).bind fun y591 => ((z_viaductseen_Same y479.2.1 y591 []).bind fun y597 => if y597 = true then (((z_viaductref01_E 1).bind fun y605 => ((z_viaductseen_Same y495.2.1 y605 []).bind fun y611 => if y611 = true then (if y511.2.1 = Er.nil then (if (!y511.1) = true then (some true) else (((z_overlay_Overlay_Remove y511.2.2.1 o125.2.1 y511.2.2.2 1).bind fun y629 => ((z_viaductref01_E 7).bind fun y644 => ((z_viaductseen_Same y629.1 y644 []).bind fun y650 => if y650 = true then (((z_overlay_Overlay_Remove y629.2.1 y629.2.2.1 y629.2.2.2 7).bind fun y662 => ((z_viaductref01_E 7).bind fun y677 => ((z_viaductseen_Same y662.1 y677 []).bind fun y683 => some (!y683))))) else (some true)))))) else (some true)) else (some true)))) else (some true)))) else (some true)))) else (some true)))) else (some true)))) else (some true))) : Option (Bool)).bind fun o528 => if o528 = true then (some false) else (((z_overlay_Overlay_Put_1 0 0 0 9).bind fun y709 => ((z_overlay_Overlay_Weight_1 0 1).bind fun y715 => ((z_overlay_New 1 [(0, 1, 0)]).bind (Sum.elim (fun (y734 : Er) => ((z_viaductref01_E 19).bind fun y745 => ((z_viaductseen_Same (Er.no 19) y745 []).bind fun y750 => if y750 = true then (((z_overlay_Overlay_Remove_1 0).bind fun y758 => ((z_viaductref01_E 19).bind fun y763 => ((z_viaductseen_Same (Er.no 19) y763 []).bind fun y768 => if y768 = true then (((z_overlay_Overlay_Out_1 0).bind fun y776 => ((z_overlay_Overlay_In_1 0).bind fun y781 => ((z_overlay_Overlay_Alive_1 0).bind fun y786 => ((z_overlay_Overlay_Len_1).bind fun y791 => ((z_overlay_Overlay_Arcs_1).bind fun y796 => ((z_viaductref01_E 7).bind fun y801 => ((z_viaductref01_At 4 0 y801 []).bind fun y806 => ((z_viaductseen_Same y734 y806.1 y806.2).bind fun y820 => some y820))))))))) else (some false))))) else (some false)))) (fun (y735 : List (Bool × List (Int × Int × Int) × List (Int × Int × Int)) × Int × Int) => ((z_viaductref01_E 19).bind fun y847 => ((z_viaductseen_Same (Er.no 19) y847 []).bind fun y852 => if y852 = true then (((z_overlay_Overlay_Remove_1 0).bind fun y860 => ((z_viaductref01_E 19).bind fun y865 => ((z_viaductseen_Same (Er.no 19) y865 []).bind fun y870 => if y870 = true then (((z_overlay_Overlay_Out_1 0).bind fun y878 => ((z_overlay_Overlay_In_1 0).bind fun y883 => ((z_overlay_Overlay_Alive_1 0).bind fun y888 => ((z_overlay_Overlay_Len_1).bind fun y893 => ((z_overlay_Overlay_Arcs_1).bind fun y898 => some false)))))) else (some false))))) else (some false))))))))))))))))))))))))))))))

end Go.Vd
