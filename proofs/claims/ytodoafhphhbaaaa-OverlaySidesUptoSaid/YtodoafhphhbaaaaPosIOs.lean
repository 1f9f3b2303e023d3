/- What the functions come to, as plain functions (printed by a program of ours). -/
import Derived.Test.YtodoafhphhbaaaaPosVpA
import Derived.Test.YtodoafhphhbaaaaPosSo0
set_option maxRecDepth 100000
set_option linter.unusedVariables false
namespace Go.Vd
def enc_i64_i64 (x : Int × Int) : List Value := [.int .i64 x.1, .int .i64 x.2]
def enc_i64_i64_i64 (x : Int × Int × Int) : List Value := [.int .i64 x.1, .int .i64 x.2.1, .int .i64 x.2.2]
def enc_i64_u64_i64 (x : Int × Int × Int) : List Value := [.int .i64 x.1, .int .u64 x.2.1, .int .i64 x.2.2]
def enc_u8_i64_i64_u64_i64 (x : Int × Int × Int × Int × Int) : List Value := [.int .u8 x.1, .int .i64 x.2.1, .int .i64 x.2.2.1, .int .u64 x.2.2.2.1, .int .i64 x.2.2.2.2]

noncomputable def z_gtext_within (x : Int) (n_ : Int) : Option (Bool) :=
  if x ≥ 0 then (some (decide (x < n_))) else (some false)

noncomputable def z_gtext_arc (From : Int) (To : Int) (Weight : Int) (n_ : Int) : Option (Er) :=
  ((((z_gtext_within From n_).bind fun y22 => if y22 = true then (((z_gtext_within To n_).bind fun y30 => some (!y30))) else (some true)) : Option (Bool)).bind fun o15 => if o15 = true then (some (Er.no 7)) else (if Weight < 0 then (some (Er.no 8)) else (if Weight > 2147483647 then (some (Er.no 8)) else (some Er.nil))))

noncomputable def z_fault_At (kind : Int) (at_ : Int) (err : Er) : Option (Er) :=
  if err = Er.nil then (some Er.nil) else (some (Er.at kind at_ err))

noncomputable def z_gtext_Check_l0 (N_ : Int) (Arcs : List (Int × Int × Int)) (i0 : Int) : Option ((Int) ⊕ ((Er) ⊕ (Unit))) :=
  if i0 < (Arcs.length : Int) then (G (0 ≤ i0) (((z_gtext_arc ((gt Arcs i0).1) ((gt Arcs i0).2.1) ((gt Arcs i0).2.2) N_).bind fun y76 => if y76 = Er.nil then (G ((i0 + 1) ≤ 9223372036854775807) (some (Sum.inl (i0 + 1)))) else (((z_fault_At 4 i0 y76).bind fun y95 => (some y95).map fun v => Sum.inr (Sum.inl v)))))) else (some (Sum.inr (Sum.inr ())))
noncomputable def z_gtext_Check (N_ : Int) (Arcs : List (Int × Int × Int)) : Option (Er) :=
  ((if N_ < 0 then (some true) else (if N_ > 65536 then (some true) else (some (decide ((Arcs.length : Int) > 262144)))) : Option (Bool)).bind fun o15 => if o15 = true then (some (Er.no 9)) else (((loopO (fun zz_ => z_gtext_Check_l0 N_ Arcs zz_) 0).bind (Sum.elim some fun o36 => some Er.nil))))

noncomputable def z_cmp_isNaN (x : Int) : Option (Bool) :=
  some (!decide (x = x))

noncomputable def z_cmp_Compare (x : Int) (y : Int) : Option (Int) :=
  ((z_cmp_isNaN x).bind fun y3 => ((z_cmp_isNaN y).bind fun y9 => if y3 = true then (if y9 = true then (some 0) else (some (-1))) else (if y9 = true then (some 1) else (if x < y then (some (-1)) else (if x > y then (some 1) else (some 0))))))

noncomputable def z_cmp_Or_l0 (vals : List (Int)) (i0 : Int) : Option ((Int) ⊕ ((Int) ⊕ (Unit))) :=
  if i0 < (vals.length : Int) then (G (0 ≤ i0) (if (gt vals i0) = 0 then (G ((i0 + 1) ≤ 9223372036854775807) (some (Sum.inl (i0 + 1)))) else ((some (gt vals i0)).map fun v => Sum.inr (Sum.inl v)))) else (some (Sum.inr (Sum.inr ())))
noncomputable def z_cmp_Or (vals : List (Int)) : Option (Int) :=
  ((loopO (fun zz_ => z_cmp_Or_l0 vals zz_) 0).bind (Sum.elim some fun o5 => some 0))

noncomputable def z_normal_order (From : Int) (To : Int) (Weight : Int) (From_ : Int) (To_ : Int) (Weight_ : Int) : Option (Int) :=
  ((z_cmp_Compare From From_).bind fun y16 => ((z_cmp_Compare To To_).bind fun y21 => ((z_cmp_Compare Weight Weight_).bind fun y26 => ((z_cmp_Or [y16, y21, y26]).bind fun y41 => some y41))))

noncomputable def z_normal_Of_1 (From : Int) (To : Int) (Weight : Int) (From_ : Int) (To_ : Int) (Weight_ : Int) : Option (Bool) :=
  if From = From_ then (some (decide (To = To_))) else (some false)

noncomputable def z_slices_CompactFunc_l0 (k3 : Int) (s0 : List (Int × Int × Int)) (k1 : Int) (k22 : Int) : Option ((List (Int × Int × Int) × Int × Int) ⊕ (List (Int × Int × Int) × Int)) :=
  if k22 < ((s0.drop k3.toNat).length : Int) then (G (0 ≤ k22) (G (-9223372036854775808 ≤ (k22 - 1) ∧ (k22 - 1) ≤ 9223372036854775807) (G (0 ≤ (k22 - 1) ∧ (k22 - 1) < ((s0.drop k3.toNat).length : Int)) (((z_normal_Of_1 ((gt (s0.drop k3.toNat) k22).1) ((gt (s0.drop k3.toNat) k22).2.1) ((gt (s0.drop k3.toNat) k22).2.2) ((gt (s0.drop k3.toNat) (k22 - 1)).1) ((gt (s0.drop k3.toNat) (k22 - 1)).2.1) ((gt (s0.drop k3.toNat) (k22 - 1)).2.2)).bind fun y109 => if (!y109) = true then (G (0 ≤ k1 ∧ k1 < (s0.length : Int)) (G ((k1 + 1) ≤ 9223372036854775807) (G ((k22 + 1) ≤ 9223372036854775807) (some (Sum.inl ((s0.set k1.toNat ((gt (s0.drop k3.toNat) k22).1, (gt (s0.drop k3.toNat) k22).2.1, (gt (s0.drop k3.toNat) k22).2.2)), (k1 + 1), (k22 + 1))))))) else (G ((k22 + 1) ≤ 9223372036854775807) (some (Sum.inl (s0, k1, (k22 + 1)))))))))) else (some (Sum.inr (s0, k1)))
noncomputable def z_slices_CompactFunc_l1 (s : List (Int × Int × Int)) (k3 : Int) : Option ((Int) ⊕ ((List (Int × Int × Int) × List (Int × Int × Int)) ⊕ (Unit))) :=
  if k3 < (s.length : Int) then (G (0 ≤ k3) (G (-9223372036854775808 ≤ (k3 - 1) ∧ (k3 - 1) ≤ 9223372036854775807) (G (0 ≤ (k3 - 1) ∧ (k3 - 1) < (s.length : Int)) (((z_normal_Of_1 ((gt s k3).1) ((gt s k3).2.1) ((gt s k3).2.2) ((gt s (k3 - 1)).1) ((gt s (k3 - 1)).2.1) ((gt s (k3 - 1)).2.2)).bind fun y47 => if y47 = true then (G (0 ≤ k3 ∧ k3 ≤ (s.length : Int)) (((loopO (fun zz_ => z_slices_CompactFunc_l0 k3 zz_.1 zz_.2.1 zz_.2.2) (s, k3, 1)).bind fun o66 => G (0 ≤ o66.2 ∧ o66.2 ≤ (o66.1.length : Int)) (G ((0 : Int) < (o66.1.length : Int)) (G (0 ≤ o66.2 ∧ o66.2 ≤ ((o66.1.take o66.2.toNat ++ List.replicate (o66.1.length - o66.2.toNat) ((0, 0, 0) : Int × Int × Int)).length : Int)) ((some (((o66.1.take o66.2.toNat ++ List.replicate (o66.1.length - o66.2.toNat) ((0, 0, 0) : Int × Int × Int)).take o66.2.toNat), (o66.1.take o66.2.toNat ++ List.replicate (o66.1.length - o66.2.toNat) ((0, 0, 0) : Int × Int × Int)))).map fun v => Sum.inr (Sum.inl v))))))) else (G ((k3 + 1) ≤ 9223372036854775807) (some (Sum.inl (k3 + 1))))))))) else (some (Sum.inr (Sum.inr ())))
noncomputable def z_slices_CompactFunc (s : List (Int × Int × Int)) : Option (List (Int × Int × Int) × List (Int × Int × Int)) :=
  if (s.length : Int) < 2 then (some (s, s)) else (((loopO (fun zz_ => z_slices_CompactFunc_l1 s zz_) 1).bind (Sum.elim some fun o15 => some (s, s))))

noncomputable def z_normal_Of_l0 (Arcs : List (Int × Int × Int)) (i0 : Int) (c1 : List (Int × Int × Int)) : Option ((Int × List (Int × Int × Int)) ⊕ (List (Int × Int × Int))) :=
  if i0 < (Arcs.length : Int) then (G (0 ≤ i0) (if ((gt Arcs i0).1) = ((gt Arcs i0).2.1) then (G ((i0 + 1) ≤ 9223372036854775807) (some (Sum.inl ((i0 + 1), c1)))) else (G (c1.length + 1 ≤ 9382499223278) (G ((i0 + 1) ≤ 9223372036854775807) (some (Sum.inl ((i0 + 1), (c1 ++ [((gt Arcs i0).1, (gt Arcs i0).2.1, (gt Arcs i0).2.2)])))))))) else (some (Sum.inr c1))
noncomputable def z_normal_Of (N_ : Int) (Arcs : List (Int × Int × Int)) : Option (Int × List (Int × Int × Int) × Er) :=
  ((z_gtext_Check N_ Arcs).bind fun y29 => if y29 = Er.nil then (((loopO (fun zz_ => z_normal_Of_l0 Arcs zz_.1 zz_.2) (0, [])).bind fun o60 => G (o60.length ≤ 1000000000000) (((sortO (fun (a_ b_ : Int × Int × Int) => z_normal_order a_.1 a_.2.1 a_.2.2 b_.1 b_.2.1 b_.2.2) o60).bind fun y162 => ((z_slices_CompactFunc y162).bind fun y170 => some (N_, y170.1, Er.nil)))))) else (some (0, [], y29)))

noncomputable def z_overlay_New_l0 (y25 : Int × List (Int × Int × Int) × Er) (i0 : Int) (o1 : List (Bool × List (Int × Int × Int) × List (Int × Int × Int))) : Option ((Int × List (Bool × List (Int × Int × Int) × List (Int × Int × Int))) ⊕ (List (Bool × List (Int × Int × Int) × List (Int × Int × Int)))) :=
  if i0 < (y25.2.1.length : Int) then (G (0 ≤ i0) (G (0 ≤ (gt y25.2.1 i0).1 ∧ (gt y25.2.1 i0).1 < (o1.length : Int)) (G (0 ≤ (gt y25.2.1 i0).2.2 ∧ (gt y25.2.1 i0).2.2 ≤ 18446744073709551615) (G (((gt o1 ((gt y25.2.1 i0).1)).2.1).length + 1 ≤ 9382499223278) (G (0 ≤ (gt y25.2.1 i0).2.1 ∧ (gt y25.2.1 i0).2.1 < ((o1.set ((gt y25.2.1 i0).1).toNat ((gt o1 ((gt y25.2.1 i0).1)).1, ((gt o1 ((gt y25.2.1 i0).1)).2.1 ++ [((gt y25.2.1 i0).2.1, (gt y25.2.1 i0).2.2, (-1))]), (gt o1 ((gt y25.2.1 i0).1)).2.2)).length : Int)) (G ((gt y25.2.1 i0).2.2 ≤ 18446744073709551615) (G (((gt (o1.set ((gt y25.2.1 i0).1).toNat ((gt o1 ((gt y25.2.1 i0).1)).1, ((gt o1 ((gt y25.2.1 i0).1)).2.1 ++ [((gt y25.2.1 i0).2.1, (gt y25.2.1 i0).2.2, (-1))]), (gt o1 ((gt y25.2.1 i0).1)).2.2)) ((gt y25.2.1 i0).2.1)).2.2).length + 1 ≤ 9382499223278) (G ((i0 + 1) ≤ 9223372036854775807) (some (Sum.inl ((i0 + 1), ((o1.set ((gt y25.2.1 i0).1).toNat ((gt o1 ((gt y25.2.1 i0).1)).1, ((gt o1 ((gt y25.2.1 i0).1)).2.1 ++ [((gt y25.2.1 i0).2.1, (gt y25.2.1 i0).2.2, (-1))]), (gt o1 ((gt y25.2.1 i0).1)).2.2)).set ((gt y25.2.1 i0).2.1).toNat ((gt (o1.set ((gt y25.2.1 i0).1).toNat ((gt o1 ((gt y25.2.1 i0).1)).1, ((gt o1 ((gt y25.2.1 i0).1)).2.1 ++ [((gt y25.2.1 i0).2.1, (gt y25.2.1 i0).2.2, (-1))]), (gt o1 ((gt y25.2.1 i0).1)).2.2)) ((gt y25.2.1 i0).2.1)).1, (gt (o1.set ((gt y25.2.1 i0).1).toNat ((gt o1 ((gt y25.2.1 i0).1)).1, ((gt o1 ((gt y25.2.1 i0).1)).2.1 ++ [((gt y25.2.1 i0).2.1, (gt y25.2.1 i0).2.2, (-1))]), (gt o1 ((gt y25.2.1 i0).1)).2.2)) ((gt y25.2.1 i0).2.1)).2.1, ((gt (o1.set ((gt y25.2.1 i0).1).toNat ((gt o1 ((gt y25.2.1 i0).1)).1, ((gt o1 ((gt y25.2.1 i0).1)).2.1 ++ [((gt y25.2.1 i0).2.1, (gt y25.2.1 i0).2.2, (-1))]), (gt o1 ((gt y25.2.1 i0).1)).2.2)) ((gt y25.2.1 i0).2.1)).2.2 ++ [((gt y25.2.1 i0).1, (gt y25.2.1 i0).2.2, (-1))])))))))))))))) else (some (Sum.inr o1))
noncomputable def z_overlay_New (N_ : Int) (Arcs : List (Int × Int × Int)) : Option ((Er) ⊕ (List (Bool × List (Int × Int × Int) × List (Int × Int × Int)) × Int × Int)) :=
  ((z_normal_Of N_ Arcs).bind fun y25 => if y25.2.2 = Er.nil then (G (0 ≤ y25.1 ∧ 56 * y25.1 ≤ 281474976710656) (((loopO (fun zz_ => z_overlay_New_l0 y25 zz_.1 zz_.2) (0, (List.replicate y25.1.toNat (false, [], [])))).bind fun o87 => some (Sum.inr (o87, y25.1, (y25.2.1.length : Int)))))) else (some (Sum.inl y25.2.2)))

noncomputable def z_overlay_Overlay_Len (o_ : List (Bool × List (Int × Int × Int) × List (Int × Int × Int))) (o_2 : Int) (o_3 : Int) : Option (Int) :=
  some o_2

noncomputable def z_overlay_Overlay_Arcs (o_ : List (Bool × List (Int × Int × Int) × List (Int × Int × Int))) (o_2 : Int) (o_3 : Int) : Option (Int) :=
  some o_3

noncomputable def z_overlay_Overlay_Alive (o_ : List (Bool × List (Int × Int × Int) × List (Int × Int × Int))) (o_2 : Int) (o_3 : Int) (v_ : Int) : Option (Bool) :=
  if v_ ≥ 0 then (if v_ < (o_.length : Int) then (G (0 ≤ v_) (some (!(gt o_ v_).1))) else (some false)) else (some false)

noncomputable def z_overlay_find_1 (Node : Int) (Weight : Int) (Via : Int) (v_ : Int) : Option (Int) :=
  some (IntKind.i64.wrap (Node - v_))

noncomputable def z_slices_BinarySearchFunc_l0 (x : List (Int × Int × Int)) (target : Int) (j0 : Int) (i1 : Int) : Option ((Int × Int) ⊕ (Int)) :=
  if i1 < j0 then (G (-9223372036854775808 ≤ (i1 + j0) ∧ (i1 + j0) ≤ 9223372036854775807) (G (0 ≤ (i1 + j0) ∧ (i1 + j0) ≤ 18446744073709551615) (G (-9223372036854775808 ≤ ((i1 + j0) / 2) ∧ ((i1 + j0) / 2) ≤ 9223372036854775807) (G (0 ≤ ((i1 + j0) / 2) ∧ ((i1 + j0) / 2) < (x.length : Int)) (((z_overlay_find_1 ((gt x ((i1 + j0) / 2)).1) ((gt x ((i1 + j0) / 2)).2.1) ((gt x ((i1 + j0) / 2)).2.2) target).bind fun y38 => if y38 < 0 then (G ((((i1 + j0) / 2) + 1) ≤ 9223372036854775807) (some (Sum.inl (j0, (((i1 + j0) / 2) + 1))))) else (some (Sum.inl (((i1 + j0) / 2), i1))))))))) else (some (Sum.inr i1))
noncomputable def z_slices_BinarySearchFunc (x : List (Int × Int × Int)) (target : Int) : Option (Int × Bool) :=
  ((loopO (fun zz_ => z_slices_BinarySearchFunc_l0 x target zz_.1 zz_.2) ((x.length : Int), 0)).bind fun o5 => if o5 < (x.length : Int) then (G (0 ≤ o5) (((z_overlay_find_1 ((gt x o5).1) ((gt x o5).2.1) ((gt x o5).2.2) target).bind fun y55 => some (o5, (decide (y55 = 0)))))) else (some (o5, false)))

noncomputable def z_overlay_find (l : List (Int × Int × Int)) (v_ : Int) : Option (Int × Bool) :=
  ((z_slices_BinarySearchFunc l v_).bind fun y3 => some (y3.1, y3.2))

noncomputable def z_overlay_without (l : List (Int × Int × Int)) (v_ : Int) : Option (List (Int × Int × Int)) :=
  ((z_overlay_find l v_).bind fun y8 => if (!y8.2) = true then (some l) else (G (-9223372036854775808 ≤ (y8.1 + 1) ∧ (y8.1 + 1) ≤ 9223372036854775807) (G (0 ≤ y8.1 ∧ y8.1 ≤ (y8.1 + 1) ∧ (y8.1 + 1) ≤ (l.length : Int) ∧ (l.length : Int) ≤ 1000000000) (some (l.take y8.1.toNat ++ l.drop (y8.1 + 1).toNat)))))

noncomputable def z_overlay_Overlay_Remove_l0 (o_ : List (Bool × List (Int × Int × Int) × List (Int × Int × Int))) (v_ : Int) (o0 : List (Bool × List (Int × Int × Int) × List (Int × Int × Int))) (i1 : Int) : Option ((List (Bool × List (Int × Int × Int) × List (Int × Int × Int)) × Int) ⊕ (List (Bool × List (Int × Int × Int) × List (Int × Int × Int)))) :=
  if i1 < (((gt o_ v_).2.1).length : Int) then (G (0 ≤ i1) (G (0 ≤ (gt ((gt o_ v_).2.1) i1).1 ∧ (gt ((gt o_ v_).2.1) i1).1 < (o0.length : Int)) (G (((gt ((gt o_ v_).2.1) i1).1) ≠ v_) (((z_overlay_without ((gt o0 ((gt ((gt o_ v_).2.1) i1).1)).2.2) v_).bind fun y141 => G ((i1 + 1) ≤ 9223372036854775807) (some (Sum.inl ((o0.set ((gt ((gt o_ v_).2.1) i1).1).toNat ((gt o0 ((gt ((gt o_ v_).2.1) i1).1)).1, (gt o0 ((gt ((gt o_ v_).2.1) i1).1)).2.1, y141)), (i1 + 1))))))))) else (some (Sum.inr o0))
noncomputable def z_overlay_Overlay_Remove_l1 (o_ : List (Bool × List (Int × Int × Int) × List (Int × Int × Int))) (v_ : Int) (o2 : List (Bool × List (Int × Int × Int) × List (Int × Int × Int))) (i3 : Int) : Option ((List (Bool × List (Int × Int × Int) × List (Int × Int × Int)) × Int) ⊕ (List (Bool × List (Int × Int × Int) × List (Int × Int × Int)))) :=
  if i3 < (((gt o_ v_).2.2).length : Int) then (G (0 ≤ i3) (G (0 ≤ (gt ((gt o_ v_).2.2) i3).1 ∧ (gt ((gt o_ v_).2.2) i3).1 < (o2.length : Int)) (G (((gt ((gt o_ v_).2.2) i3).1) ≠ v_) (((z_overlay_without ((gt o2 ((gt ((gt o_ v_).2.2) i3).1)).2.1) v_).bind fun y240 => G ((i3 + 1) ≤ 9223372036854775807) (some (Sum.inl ((o2.set ((gt ((gt o_ v_).2.2) i3).1).toNat ((gt o2 ((gt ((gt o_ v_).2.2) i3).1)).1, y240, (gt o2 ((gt ((gt o_ v_).2.2) i3).1)).2.2)), (i3 + 1))))))))) else (some (Sum.inr o2))
noncomputable def z_overlay_Overlay_Remove (o_ : List (Bool × List (Int × Int × Int) × List (Int × Int × Int))) (o_2 : Int) (o_3 : Int) (v_ : Int) : Option (Er × List (Bool × List (Int × Int × Int) × List (Int × Int × Int)) × Int × Int) :=
  ((z_overlay_Overlay_Alive o_ o_2 o_3 v_).bind fun y18 => if (!y18) = true then (some ((Er.no 7), o_, o_2, o_3)) else (G (0 ≤ v_ ∧ v_ < (o_.length : Int)) (((loopO (fun zz_ => z_overlay_Overlay_Remove_l0 o_ v_ zz_.1 zz_.2) (o_, 0)).bind fun o71 => ((loopO (fun zz_ => z_overlay_Overlay_Remove_l1 o_ v_ zz_.1 zz_.2) (o71, 0)).bind fun o171 => G (-9223372036854775808 ≤ ((((gt o_ v_).2.1).length : Int) + (((gt o_ v_).2.2).length : Int)) ∧ ((((gt o_ v_).2.1).length : Int) + (((gt o_ v_).2.2).length : Int)) ≤ 9223372036854775807) (G (-9223372036854775808 ≤ (o_3 - ((((gt o_ v_).2.1).length : Int) + (((gt o_ v_).2.2).length : Int))) ∧ (o_3 - ((((gt o_ v_).2.1).length : Int) + (((gt o_ v_).2.2).length : Int))) ≤ 9223372036854775807) (G (-9223372036854775808 ≤ (o_2 - 1) ∧ (o_2 - 1) ≤ 9223372036854775807) (G (v_ < (o171.length : Int)) (some (Er.nil, (o171.set v_.toNat (true, [], [])), (o_2 - 1), (o_3 - ((((gt o_ v_).2.1).length : Int) + (((gt o_ v_).2.2).length : Int)))))))))))))

noncomputable def z_overlay_Overlay_Weight (o_ : List (Bool × List (Int × Int × Int) × List (Int × Int × Int))) (o_2 : Int) (o_3 : Int) (u : Int) (w : Int) : Option (Int × Bool) :=
  ((z_overlay_Overlay_Alive o_ o_2 o_3 u).bind fun y4 => if (!y4) = true then (some (0, false)) else (G (0 ≤ u ∧ u < (o_.length : Int)) (((z_overlay_find ((gt o_ u).2.1) w).bind fun y25 => if (!y25.2) = true then (some (0, false)) else (G (0 ≤ y25.1 ∧ y25.1 < (((gt o_ u).2.1).length : Int)) (some ((gt ((gt o_ u).2.1) y25.1).2.1, true)))))))

noncomputable def z_overlay_laid (l : List (Int × Int × Int)) (Node : Int) (Weight : Int) (Via : Int) : Option (List (Int × Int × Int)) :=
  ((z_overlay_find l Node).bind fun y15 => if y15.2 = true then (G (0 ≤ y15.1 ∧ y15.1 < (l.length : Int)) (some (l.set y15.1.toNat (Node, Weight, Via)))) else (G (0 ≤ y15.1 ∧ y15.1 ≤ (l.length : Int) ∧ (l.length : Int) ≤ 1000000000) (some (l.take y15.1.toNat ++ ([(Node, Weight, Via)] ++ l.drop y15.1.toNat)))))

noncomputable def z_overlay_Overlay_Put (o_ : List (Bool × List (Int × Int × Int) × List (Int × Int × Int))) (o_2 : Int) (o_3 : Int) (u : Int) (w : Int) (weight : Int) (via : Int) : Option (Bool × Er × List (Bool × List (Int × Int × Int) × List (Int × Int × Int)) × Int) :=
  ((((z_overlay_Overlay_Alive o_ o_2 o_3 u).bind fun y24 => if y24 = true then (((z_overlay_Overlay_Alive o_ o_2 o_3 w).bind fun y32 => some (!y32))) else (some true)) : Option (Bool)).bind fun o17 => if o17 = true then (some (false, (Er.no 7), o_, o_3)) else (if u = w then (some (false, (Er.no 1), o_, o_3)) else (if weight > 140737488355328 then (some (false, (Er.no 8), o_, o_3)) else (((if via < (-1) then (some true) else (if via ≥ (o_.length : Int) then (some true) else (if via ≥ 0 then (G (0 ≤ via ∧ via < (o_.length : Int)) (some (!(gt o_ via).1))) else (some false))) : Option (Bool)).bind fun o54 => if o54 = true then (some (false, (Er.no 1), o_, o_3)) else (((z_overlay_Overlay_Weight o_ o_2 o_3 u w).bind fun y81 => ((if y81.2 = true then (some (true, (decide (y81.1 ≤ weight)))) else (some (false, false)) : Option (Bool × Bool)).bind fun o88 => if o88.2 = true then (some (false, Er.nil, o_, o_3)) else (((if (!o88.1) = true then (G (-9223372036854775808 ≤ (o_3 + 1) ∧ (o_3 + 1) ≤ 9223372036854775807) (some (o_3 + 1))) else (some o_3) : Option (Int)).bind fun o106 => G (0 ≤ u ∧ u < (o_.length : Int)) (((z_overlay_laid ((gt o_ u).2.1) w weight via).bind fun y148 => G (0 ≤ w ∧ w < ((o_.set u.toNat ((gt o_ u).1, y148, (gt o_ u).2.2)).length : Int)) (((z_overlay_laid ((gt (o_.set u.toNat ((gt o_ u).1, y148, (gt o_ u).2.2)) w).2.2) u weight via).bind fun y192 => some (true, Er.nil, ((o_.set u.toNat ((gt o_ u).1, y148, (gt o_ u).2.2)).set w.toNat ((gt (o_.set u.toNat ((gt o_ u).1, y148, (gt o_ u).2.2)) w).1, (gt (o_.set u.toNat ((gt o_ u).1, y148, (gt o_ u).2.2)) w).2.1, y192)), o106)))))))))))))))

noncomputable def z_slices_Clone (s : List (Int × Int × Int)) : Option (List (Int × Int × Int)) :=
  G (([] : List (Int × Int × Int)).length + s.length ≤ 9382499223278) (some (([] : List (Int × Int × Int)) ++ s))

noncomputable def z_overlay_Overlay_Out (o_ : List (Bool × List (Int × Int × Int) × List (Int × Int × Int))) (o_2 : Int) (o_3 : Int) (v_ : Int) : Option (List (Int × Int × Int)) :=
  ((z_overlay_Overlay_Alive o_ o_2 o_3 v_).bind fun y9 => if (!y9) = true then (some []) else (G (0 ≤ v_ ∧ v_ < (o_.length : Int)) (((z_slices_Clone ((gt o_ v_).2.1)).bind fun y30 => some y30))))

noncomputable def z_viaductlaw11_same_l0 (a : List (Int × Int × Int)) (b : List (Int × Int × Int)) (i0 : Int) : Option ((Int) ⊕ ((Bool) ⊕ (Unit))) :=
  if i0 < (a.length : Int) then (G (0 ≤ i0) (G (i0 < (b.length : Int)) (if ((gt a i0).1) = ((gt b i0).1) then (if ((gt a i0).2.1) = ((gt b i0).2.1) then (if ((gt a i0).2.2) = ((gt b i0).2.2) then (G ((i0 + 1) ≤ 9223372036854775807) (some (Sum.inl (i0 + 1)))) else ((some false).map fun v => Sum.inr (Sum.inl v))) else ((some false).map fun v => Sum.inr (Sum.inl v))) else ((some false).map fun v => Sum.inr (Sum.inl v))))) else (some (Sum.inr (Sum.inr ())))
noncomputable def z_viaductlaw11_same (a : List (Int × Int × Int)) (b : List (Int × Int × Int)) : Option (Bool) :=
  if (a.length : Int) = (b.length : Int) then (((loopO (fun zz_ => z_viaductlaw11_same_l0 a b zz_) 0).bind (Sum.elim some fun o10 => some true))) else (some false)

noncomputable def z_overlay_Overlay_In (o_ : List (Bool × List (Int × Int × Int) × List (Int × Int × Int))) (o_2 : Int) (o_3 : Int) (v_ : Int) : Option (List (Int × Int × Int)) :=
  ((z_overlay_Overlay_Alive o_ o_2 o_3 v_).bind fun y9 => if (!y9) = true then (some []) else (G (0 ≤ v_ ∧ v_ < (o_.length : Int)) (((z_slices_Clone ((gt o_ v_).2.2)).bind fun y30 => some y30))))

noncomputable def z_viaductlaw11_awake : Option (Bool) :=
  ((z_overlay_New 3 [(0, 1, 3), (1, 2, 1)]).bind (Sum.elim (fun (y16 : Er) => ((if y16 = Er.nil then (some ()) else (some ()) : Option (Unit)).bind fun o28 => some false)) (fun (y17 : List (Bool × List (Int × Int × Int) × List (Int × Int × Int)) × Int × Int) => ((((z_overlay_Overlay_Len y17.1 y17.2.1 y17.2.2).bind fun y72 => if y72 = 3 then (((z_overlay_Overlay_Arcs y17.1 y17.2.1 y17.2.2).bind fun y79 => if y79 = 2 then (((z_overlay_Overlay_Remove y17.1 y17.2.1 y17.2.2 1).bind fun y86 => if y86.1 = Er.nil then (some (y86.2.1, y86.2.2.1, y86.2.2.2, false)) else (some (y86.2.1, y86.2.2.1, y86.2.2.2, true)))) else (some (y17.1, y17.2.1, y17.2.2, true)))) else (some (y17.1, y17.2.1, y17.2.2, true))) : Option (List (Bool × List (Int × Int × Int) × List (Int × Int × Int)) × Int × Int × Bool)).bind fun o59 => if o59.2.2.2 = true then (some false) else (((z_overlay_Overlay_Put o59.1 o59.2.1 o59.2.2.1 0 2 4 1).bind fun y113 => if y113.2.1 = Er.nil then (if y113.1 = true then (((z_overlay_Overlay_Out y113.2.2.1 o59.2.1 y113.2.2.2 0).bind fun y135 => ((z_viaductlaw11_same y135 [(2, 4, 1)]).bind fun y159 => if y159 = true then (((z_overlay_Overlay_In y113.2.2.1 o59.2.1 y113.2.2.2 2).bind fun y169 => ((z_viaductlaw11_same y169 [(0, 4, 1)]).bind fun y193 => if y193 = true then (((z_overlay_Overlay_Alive y113.2.2.1 o59.2.1 y113.2.2.2 1).bind fun y203 => some (!y203))) else (some false)))) else (some false)))) else (some false)) else (some false)))))))

noncomputable def z_viaductref01_E (n_ : Int) : Option (Int) :=
  some n_

noncomputable def z_viaductref01_At (kind : Int) (at_ : Int) (Code : Int) (Places : List (Int × Int)) : Option (Int × List (Int × Int)) :=
  G ([(kind, at_)].length + Places.length ≤ 14073748835123) (some (Code, ([(kind, at_)] ++ Places)))

noncomputable def z_viaductref03_DocCheck_l0 (N_ : Int) (Arcs : List (Int × Int × Int)) (i0 : Int) : Option ((Int) ⊕ ((Int × List (Int × Int)) ⊕ (Unit))) :=
  if i0 < (Arcs.length : Int) then (G (0 ≤ i0) (((if ((gt Arcs i0).1) < 0 then (some true) else (if ((gt Arcs i0).1) ≥ N_ then (some true) else (if ((gt Arcs i0).2.1) < 0 then (some true) else (some (decide (((gt Arcs i0).2.1) ≥ N_))))) : Option (Bool)).bind fun o94 => if o94 = true then (((z_viaductref01_E 7).bind fun y114 => ((z_viaductref01_At 4 i0 y114 []).bind fun y119 => (some (y119.1, y119.2)).map fun v => Sum.inr (Sum.inl v)))) else (((if ((gt Arcs i0).2.2) < 0 then (some true) else (some (decide (((gt Arcs i0).2.2) > 2147483647))) : Option (Bool)).bind fun o144 => if o144 = true then (((z_viaductref01_E 8).bind fun y157 => ((z_viaductref01_At 4 i0 y157 []).bind fun y162 => (some (y162.1, y162.2)).map fun v => Sum.inr (Sum.inl v)))) else (G ((i0 + 1) ≤ 9223372036854775807) (some (Sum.inl (i0 + 1))))))))) else (some (Sum.inr (Sum.inr ())))
noncomputable def z_viaductref03_DocCheck (N_ : Int) (Arcs : List (Int × Int × Int)) : Option (Int × List (Int × Int)) :=
  ((if N_ < 0 then (some true) else (if N_ > 65536 then (some true) else (some (decide ((Arcs.length : Int) > 262144)))) : Option (Bool)).bind fun o21 => if o21 = true then (((z_viaductref01_E 9).bind fun y39 => some (y39, []))) else (((loopO (fun zz_ => z_viaductref03_DocCheck_l0 N_ Arcs zz_) 0).bind (Sum.elim some fun o54 => some (0, [])))))

noncomputable def z_viaductref01_Err_Bad (Code : Int) (Places : List (Int × Int)) : Option (Bool) :=
  if Code = 0 then (some (decide ((Places.length : Int) > 0))) else (some true)

noncomputable def z_viaductref04_Few (N_ : Int) (Arcs : List (Int × Int × Int)) (most : Int) : Option (Bool) :=
  ((z_viaductref03_DocCheck N_ Arcs).bind fun y10 => ((z_viaductref01_Err_Bad y10.1 y10.2).bind fun y36 => if y36 = true then (some false) else (if N_ ≤ most then (some (decide ((Arcs.length : Int) ≤ 2000))) else (some false))))

noncomputable def z_overlay_Overlay_Put_1 (u : Int) (w : Int) (weight : Int) (via : Int) : Option (Unit) :=
  some ()

noncomputable def z_overlay_Overlay_Remove_1 (v_ : Int) : Option (Unit) :=
  some ()

noncomputable def z_overlay_Overlay_Alive_1 (v_ : Int) : Option (Unit) :=
  some ()

noncomputable def z_overlay_Overlay_Out_1 (v_ : Int) : Option (Unit) :=
  ((z_overlay_Overlay_Alive_1 v_).bind fun y4 => some ())

noncomputable def z_overlay_Overlay_In_1 (v_ : Int) : Option (Unit) :=
  ((z_overlay_Overlay_Alive_1 v_).bind fun y4 => some ())

noncomputable def z_overlay_Overlay_Arcs_1 : Option (Unit) :=
  some ()

noncomputable def z_overlay_Overlay_Len_1 : Option (Unit) :=
  some ()

noncomputable def z_viaductlaw11_OverlaySides_l0 (script : List (Int × Int × Int × Int × Int)) (i0 : Int) : Option ((Int) ⊕ (Unit)) :=
  if i0 < (script.length : Int) then (G (0 ≤ i0) (((if ((gt script i0).1) = 1 then (((z_overlay_Overlay_Put_1 ((gt script i0).2.1) ((gt script i0).2.2.1) ((gt script i0).2.2.2.1) ((gt script i0).2.2.2.2)).bind fun y118 => some ())) else (some ()) : Option (Unit)).bind fun o109 => if ((gt script i0).1) = 2 then (((z_overlay_Overlay_Remove_1 ((gt script i0).2.1)).bind fun y127 => G ((i0 + 1) ≤ 9223372036854775807) (some (Sum.inl (i0 + 1))))) else (G ((i0 + 1) ≤ 9223372036854775807) (some (Sum.inl (i0 + 1))))))) else (some (Sum.inr ()))
noncomputable def z_viaductlaw11_OverlaySides_l1 : Option ((Unit) ⊕ (Unit)) :=
  some (Sum.inr ())
noncomputable def z_viaductlaw11_OverlaySides_l2 (N_ : Int) (i1 : Int) : Option ((Int) ⊕ (Unit)) :=
  if i1 < N_ then (((z_overlay_Overlay_Out_1 i1).bind fun y167 => ((z_overlay_Overlay_In_1 i1).bind fun y172 => ((z_overlay_Overlay_Alive_1 i1).bind fun y179 => ((loopO (fun _ : Unit => z_viaductlaw11_OverlaySides_l1) ()).bind fun o188 => ((loopO (fun _ : Unit => z_viaductlaw11_OverlaySides_l1) ()).bind fun o209 => G (-9223372036854775808 ≤ (i1 + 1) ∧ (i1 + 1) ≤ 9223372036854775807) (some (Sum.inl (i1 + 1))))))))) else (some (Sum.inr ()))
noncomputable def z_viaductlaw11_OverlaySides_l3 (script : List (Int × Int × Int × Int × Int)) (i0 : Int) (o2 : List (Bool × List (Int × Int × Int) × List (Int × Int × Int))) (o3 : Int) (o4 : Int) : Option ((Int × List (Bool × List (Int × Int × Int) × List (Int × Int × Int)) × Int × Int) ⊕ (List (Bool × List (Int × Int × Int) × List (Int × Int × Int)) × Int × Int)) :=
  if i0 < (script.length : Int) then (G (0 ≤ i0) (((if ((gt script i0).1) = 1 then (((z_overlay_Overlay_Put o2 o3 o4 ((gt script i0).2.1) ((gt script i0).2.2.1) ((gt script i0).2.2.2.1) ((gt script i0).2.2.2.2)).bind fun y334 => some (y334.2.2.1, y334.2.2.2))) else (some (o2, o4)) : Option (List (Bool × List (Int × Int × Int) × List (Int × Int × Int)) × Int)).bind fun o317 => if ((gt script i0).1) = 2 then (((z_overlay_Overlay_Remove o317.1 o3 o317.2 ((gt script i0).2.1)).bind fun y356 => G ((i0 + 1) ≤ 9223372036854775807) (some (Sum.inl ((i0 + 1), y356.2.1, y356.2.2.1, y356.2.2.2))))) else (G ((i0 + 1) ≤ 9223372036854775807) (some (Sum.inl ((i0 + 1), o317.1, o3, o317.2))))))) else (some (Sum.inr (o2, o3, o4)))
noncomputable def z_viaductlaw11_OverlaySides_l4 (i9 : Int) (y409 : List (Int × Int × Int)) (i7 : Int) (y586 : List (Int × Int × Int)) (i5 : Int) (seen6 : Bool) : Option ((Int × Bool) ⊕ (Bool)) :=
  if i5 < (y586.length : Int) then (G (0 ≤ i5) (if seen6 = true then (G ((i5 + 1) ≤ 9223372036854775807) (some (Sum.inl ((i5 + 1), true)))) else (if ((gt y586 i5).1) = i9 then (if ((gt y586 i5).2.1) = ((gt y409 i7).2.1) then (if ((gt y586 i5).2.2) = ((gt y409 i7).2.2) then (G ((i5 + 1) ≤ 9223372036854775807) (some (Sum.inl ((i5 + 1), true)))) else (G ((i5 + 1) ≤ 9223372036854775807) (some (Sum.inl ((i5 + 1), false))))) else (G ((i5 + 1) ≤ 9223372036854775807) (some (Sum.inl ((i5 + 1), false))))) else (G ((i5 + 1) ≤ 9223372036854775807) (some (Sum.inl ((i5 + 1), false))))))) else (some (Sum.inr seen6))
noncomputable def z_viaductlaw11_OverlaySides_l5 (o266 : List (Bool × List (Int × Int × Int) × List (Int × Int × Int)) × Int × Int) (i9 : Int) (y409 : List (Int × Int × Int)) (i7 : Int) : Option ((Int) ⊕ (((Int × Int × Int) ⊕ ((Bool) ⊕ (Int × Int))) ⊕ (Unit))) :=
  if i7 < (y409.length : Int) then (G (0 ≤ i7) (((if i7 > 0 then (G (-9223372036854775808 ≤ (i7 - 1) ∧ (i7 - 1) ≤ 9223372036854775807) (G (0 ≤ (i7 - 1) ∧ (i7 - 1) < (y409.length : Int)) (if ((gt y409 (i7 - 1)).1) ≥ ((gt y409 i7).1) then (some true) else (if ((gt y409 i7).1) = i9 then (some true) else (((z_overlay_Overlay_Alive o266.1 o266.2.1 o266.2.2 ((gt y409 i7).1)).bind fun y544 => some (!y544))))))) else (if ((gt y409 i7).1) = i9 then (some true) else (((z_overlay_Overlay_Alive o266.1 o266.2.1 o266.2.2 ((gt y409 i7).1)).bind fun y555 => some (!y555)))) : Option (Bool)).bind fun o522 => if o522 = true then (((some false).map fun v => Sum.inr (Sum.inl v)).map fun v => Sum.inr (Sum.inl v)) else (((z_overlay_Overlay_Weight o266.1 o266.2.1 o266.2.2 i9 ((gt y409 i7).1)).bind fun y575 => ((z_overlay_Overlay_In o266.1 o266.2.1 o266.2.2 ((gt y409 i7).1)).bind fun y586 => ((loopO (fun zz_ => z_viaductlaw11_OverlaySides_l4 i9 y409 i7 y586 zz_.1 zz_.2) (0, false)).bind fun o599 => if (!y575.2) = true then (((some false).map fun v => Sum.inr (Sum.inl v)).map fun v => Sum.inr (Sum.inl v)) else (if y575.1 = ((gt y409 i7).2.1) then (if (!o599) = true then (((some false).map fun v => Sum.inr (Sum.inl v)).map fun v => Sum.inr (Sum.inl v)) else (G ((i7 + 1) ≤ 9223372036854775807) (some (Sum.inl (i7 + 1))))) else (((some false).map fun v => Sum.inr (Sum.inl v)).map fun v => Sum.inr (Sum.inl v)))))))))) else (some (Sum.inr (Sum.inr ())))
noncomputable def z_viaductlaw11_OverlaySides_l6 (o266 : List (Bool × List (Int × Int × Int) × List (Int × Int × Int)) × Int × Int) (i9 : Int) (y424 : List (Int × Int × Int)) (i8 : Int) : Option ((Int) ⊕ (((Int × Int × Int) ⊕ ((Bool) ⊕ (Int × Int))) ⊕ (Unit))) :=
  if i8 < (y424.length : Int) then (G (0 ≤ i8) (((z_overlay_Overlay_Weight o266.1 o266.2.1 o266.2.2 ((gt y424 i8).1) i9).bind fun y745 => if (!y745.2) = true then (((some false).map fun v => Sum.inr (Sum.inl v)).map fun v => Sum.inr (Sum.inl v)) else (if i8 > 0 then (G (-9223372036854775808 ≤ (i8 - 1) ∧ (i8 - 1) ≤ 9223372036854775807) (G (0 ≤ (i8 - 1) ∧ (i8 - 1) < (y424.length : Int)) (if ((gt y424 (i8 - 1)).1) ≥ ((gt y424 i8).1) then (((some false).map fun v => Sum.inr (Sum.inl v)).map fun v => Sum.inr (Sum.inl v)) else (G ((i8 + 1) ≤ 9223372036854775807) (some (Sum.inl (i8 + 1))))))) else (G ((i8 + 1) ≤ 9223372036854775807) (some (Sum.inl (i8 + 1)))))))) else (some (Sum.inr (Sum.inr ())))
noncomputable def z_viaductlaw11_OverlaySides_l7 (N_ : Int) (o266 : List (Bool × List (Int × Int × Int) × List (Int × Int × Int)) × Int × Int) (alive1 : Int) (i9 : Int) (arcs10 : Int) : Option ((Int × Int × Int) ⊕ ((Bool) ⊕ (Int × Int))) :=
  if i9 < N_ then (((z_overlay_Overlay_Out o266.1 o266.2.1 o266.2.2 i9).bind fun y409 => ((z_overlay_Overlay_In o266.1 o266.2.1 o266.2.2 i9).bind fun y424 => ((z_overlay_Overlay_Alive o266.1 o266.2.1 o266.2.2 i9).bind fun y441 => ((if y441 = true then (G (-9223372036854775808 ≤ (alive1 + 1) ∧ (alive1 + 1) ≤ 9223372036854775807) (some (Sum.inr (alive1 + 1)))) else (G (-9223372036854775808 ≤ ((y409.length : Int) + (y424.length : Int)) ∧ ((y409.length : Int) + (y424.length : Int)) ≤ 9223372036854775807) (if ((y409.length : Int) + (y424.length : Int)) > 0 then (((some false).map fun v => Sum.inr (Sum.inl v)).map Sum.inl) else (some (Sum.inr alive1)))) : Option (((Int × Int × Int) ⊕ ((Bool) ⊕ (Int × Int))) ⊕ (Int))).bind (Sum.elim some fun o446 => G (-9223372036854775808 ≤ (arcs10 + (y409.length : Int)) ∧ (arcs10 + (y409.length : Int)) ≤ 9223372036854775807) (((loopO (fun zz_ => z_viaductlaw11_OverlaySides_l5 o266 i9 y409 zz_) 0).bind (Sum.elim some fun o482 => ((loopO (fun zz_ => z_viaductlaw11_OverlaySides_l6 o266 i9 y424 zz_) 0).bind (Sum.elim some fun o704 => G (-9223372036854775808 ≤ (i9 + 1) ∧ (i9 + 1) ≤ 9223372036854775807) (some (Sum.inl (o446, (i9 + 1), (arcs10 + (y409.length : Int)))))))))))))))) else (some (Sum.inr (Sum.inr (alive1, arcs10))))
noncomputable def z_viaductlaw11_OverlaySides (N_ : Int) (Arcs : List (Int × Int × Int)) (script : List (Int × Int × Int × Int × Int)) : Option (Bool) :=
  ((z_viaductlaw11_awake).bind fun y10 => if (!y10) = true then (some false) else (((((z_viaductref04_Few N_ Arcs 30).bind fun y30 => if y30 = true then (some (decide ((script.length : Int) > 300))) else (some true)) : Option (Bool)).bind fun o21 => if o21 = true then (some true) else (((z_overlay_New N_ Arcs).bind (Sum.elim (fun (y51 : Er) => if y51 = Er.nil then (((loopO (fun zz_ => z_viaductlaw11_OverlaySides_l0 script zz_) 0).bind fun o70 => ((loopO (fun zz_ => z_viaductlaw11_OverlaySides_l2 N_ zz_) 0).bind fun o142 => ((z_overlay_Overlay_Arcs_1).bind fun y233 => ((z_overlay_Overlay_Len_1).bind fun y238 => some true))))) else (some false)) (fun (y52 : List (Bool × List (Int × Int × Int) × List (Int × Int × Int)) × Int × Int) => ((loopO (fun zz_ => z_viaductlaw11_OverlaySides_l3 script zz_.1 zz_.2.1 zz_.2.2.1 zz_.2.2.2) (0, y52.1, y52.2.1, y52.2.2)).bind fun o266 => ((loopO (fun zz_ => z_viaductlaw11_OverlaySides_l7 N_ o266 zz_.1 zz_.2.1 zz_.2.2) (0, 0, 0)).bind (Sum.elim some fun o381 => ((z_overlay_Overlay_Arcs o266.1 o266.2.1 o266.2.2).bind fun y797 => if o381.2 = y797 then (((z_overlay_Overlay_Len o266.1 o266.2.1 o266.2.2).bind fun y804 => some (decide (o381.1 = y804)))) else (some false))))))))))))

end Go.Vd
