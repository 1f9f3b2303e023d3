/-
 Whatever is handed in,WholeHierarchies returns true,and what was handed in reads as it did;the conditions are the row's own,no other.
-/
import Derived.Test.YtlfclppjhkeljaaGreatPwh6
import Derived.Test.YtlfclppjhkeljaaGreatRows
import Derived.Test.YtlfclppjhkeljaaGreatPwhVeE
import Derived.WalkKit
import Derived.ProofKit
import Derived.OpenShut
import Derived.ChangeOld
import Derived.Below
import Derived.JoinedCond
import Derived.Deep.CondSized
set_option linter.unusedVariables false
set_option linter.unusedSimpArgs false
set_option linter.unusedSectionVars false
/-! (RowWholeHierarchies) -/

namespace Go.Proofs.YtlfclppjhkeljaaGreat
open Go.ChangeShapes Go.WideShapes Go.ChangeAt Go.RowKit Go.Vd
set_option linter.unusedVariables false
set_option linter.unusedSimpArgs false
theorem own9 : ownKnob Tryz.prog.godebug = none := by kernel_rfl
theorem laidOut9 : laidOutB Tryz.prog = true := by kernel_rfl
theorem i64_rng {x : Int} (h : (Lit.int .i64 x).wf = true) : -9223372036854775808 ≤ x /\ x ≤ 9223372036854775807 := by
 simp only[Lit.wf,IntKind.min,IntKind.max,IntKind.signed,IntKind.bits,Bool.and_eq_true,decide_eq_true_eq,if_true,Bool.false_eq_true,if_false]at h
 omega
theorem u64_rng {x : Int} (h : (Lit.int .u64 x).wf = true) : 0 ≤ x /\ x ≤ 18446744073709551615 := by
 simp only[Lit.wf,IntKind.min,IntKind.max,IntKind.signed,IntKind.bits,Bool.and_eq_true,decide_eq_true_eq,if_true,Bool.false_eq_true,if_false]at h
 omega
theorem int_rd {Hd : Type} {enc : TypeId × Value -> Hd} {W : World} (cs : List Value) (h : Rd enc Tryz.prog W 3 cs) : ∃ x : Int, cs = Go.Vd.Zq .i64 x /\ (Lit.int .i64 x).wf = true := by
 obtain⟨n,h1,h2⟩:=h.int Tryz.underlying3
 exact⟨n,h1,h2⟩
theorem parts3a {α : Type} {l : List α} {a0 a1 a2 : α} (h : l.length = 3) (h0 : (l.drop 0).take 1 = [a0]) (h1 : (l.drop 1).take 1 = [a1]) (h2 : (l.drop 2).take 1 = [a2]) : l = [a0, a1, a2] := by
 match l,h with
 | [x0,x1,x2],_=>simp at h0 h1 h2;simp[h0,h1,h2]
theorem arc_rd {Hd : Type} {enc : TypeId × Value -> Hd} {W : World} (cs : List Value) (h : Rd enc Tryz.prog W 59 cs) : ∃ x : Int × Int × Int, cs = Go.Vd.ZH x /\ True := by
 obtain⟨hl,hf⟩:=h.struct Tryz.underlying59
 have hc:Tryz.prog.cellsOf 59=3:=by kernel_rfl
 rw[hc]at hl
 have g0:Rd enc Tryz.prog W 3 ((cs.drop 0).take (Tryz.prog.cellsOf 3)):=hf 0 _ rfl
 have g1:Rd enc Tryz.prog W 3 ((cs.drop 1).take (Tryz.prog.cellsOf 3)):=hf 1 _ rfl
 have g2:Rd enc Tryz.prog W 3 ((cs.drop 2).take (Tryz.prog.cellsOf 3)):=hf 2 _ rfl
 rw[show Tryz.prog.cellsOf 3=1 from by kernel_rfl]at g0 g1 g2
 obtain⟨x0,e0,_⟩:=int_rd _ g0
 obtain⟨x1,e1,_⟩:=int_rd _ g1
 obtain⟨x2,e2,_⟩:=int_rd _ g2
 exact⟨(x0,x1,x2),parts3a hl e0 e1 e2,trivial⟩
theorem parts2 {α : Type} {l : List α} {a0 a1 : α} (h : l.length = 2) (h0 : (l.drop 0).take 1 = [a0]) (h1 : (l.drop 1).take 1 = [a1]) : l = [a0, a1] := by
 match l,h with
 | [x0,x1],_=>simp at h0 h1;simp[h0,h1]
theorem parts5 {α : Type} {l : List α} {a0 a1 a2 a3 a4 : α} (h : l.length = 5) (h0 : (l.drop 0).take 1 = [a0]) (h1 : (l.drop 1).take 1 = [a1]) (h2 : (l.drop 2).take 1 = [a2]) (h3 : (l.drop 3).take 1 = [a3]) (h4 : (l.drop 4).take 1 = [a4]) : l = [a0, a1, a2, a3, a4] := by
 match l,h with
 | [x0,x1,x2,x3,x4],_=>simp at h0 h1 h2 h3 h4;simp[h0,h1,h2,h3,h4]
theorem wholeHierarchies_walk {Hd : Type} {enc : TypeId × Value -> Hd} (W : World) (v0 v1 v2 : Value) (k0 : ∃ cs, v0 = .agg cs /\ cs.size = Tryz.prog.cellsOf 46) (k1 : ∃ a l c, v1 = .slice a l c) (k2 : ∃ cs, v2 = .agg cs /\ cs.size = Tryz.prog.cellsOf 55)
  (r0:Rd enc Tryz.prog W 46 v0.cells.toList) (r1:Rd enc Tryz.prog W 38 v1.cells.toList) (r2:Rd enc Tryz.prog W 55 v2.cells.toList) :
  Calls Tryz.prog 4 #[v0,v1,v2] W fun e w'=>e=.returned (.bool true)/\Below W.heap.size W w':=by
 have hb3:Tryz.prog.bytesOf 3=8:=by kernel_rfl
 have hr:reachBytes=140737488351232:=by decide
 have hbA:Tryz.prog.bytesOf 59=24:=by kernel_rfl
 obtain⟨cs0,rfl,hcs0⟩:=k0
 obtain⟨hl0,hf0⟩:=r0.struct Tryz.underlying46
 have hc0:Tryz.prog.cellsOf 46=2:=by kernel_rfl
 have g0_0:Rd enc Tryz.prog W 3 (((Value.agg cs0).cells.toList.drop 0).take (Tryz.prog.cellsOf 3)):=hf0 0 _ rfl
 rw[show Tryz.prog.cellsOf 3=1 from by kernel_rfl]at g0_0
 obtain⟨X0_0,e0_0,q0_0⟩:=int_rd _ g0_0
 have w0_0:=i64_rng q0_0
 have g0_1:Rd enc Tryz.prog W 44 (((Value.agg cs0).cells.toList.drop 1).take (Tryz.prog.cellsOf 44)):=hf0 1 _ rfl
 rw[show Tryz.prog.cellsOf 44=1 from by kernel_rfl]at g0_1
 obtain⟨d0_1,X0_1,e0_1,s0_1⟩:=g0_1.slice (en:=Go.Vd.ZH) (sz:=3) Tryz.underlying44 (by kernel_rfl) (fun _=>rfl) arc_rd
 rw[hc0]at hl0
 have hcs0':=parts2 (l:=(Value.agg cs0).cells.toList) hl0 e0_0 e0_1
 obtain rfl:cs0=#[.int .i64 X0_0,d0_1]:=by
  have q:(Value.agg cs0).cells=cs0:=rfl
  rw[q]at hcs0'
  cases cs0;simp_all
 obtain⟨d1,X1,e1,s1⟩:=r1.slice (en:=Go.Vd.Zq .i64) (sz:=1) Tryz.underlying38 (by kernel_rfl) (fun _=>rfl) int_rd
 obtain⟨aa1,ll1,cc1,rfl⟩:=k1
 obtain rfl:d1=.slice aa1 ll1 cc1:=by
  have q:(Value.slice aa1 ll1 cc1).cells.toList=[.slice aa1 ll1 cc1]:=rfl
  rw[q]at e1;cases e1;rfl
 obtain⟨cs2,rfl,hcs2⟩:=k2
 obtain⟨hl2,hf2⟩:=r2.struct Tryz.underlying55
 have hc2:Tryz.prog.cellsOf 55=5:=by kernel_rfl
 have g2_0:Rd enc Tryz.prog W 3 (((Value.agg cs2).cells.toList.drop 0).take (Tryz.prog.cellsOf 3)):=hf2 0 _ rfl
 rw[show Tryz.prog.cellsOf 3=1 from by kernel_rfl]at g2_0
 obtain⟨X2_0,e2_0,q2_0⟩:=int_rd _ g2_0
 have w2_0:=i64_rng q2_0
 have g2_1:Rd enc Tryz.prog W 3 (((Value.agg cs2).cells.toList.drop 1).take (Tryz.prog.cellsOf 3)):=hf2 1 _ rfl
 rw[show Tryz.prog.cellsOf 3=1 from by kernel_rfl]at g2_1
 obtain⟨X2_1,e2_1,q2_1⟩:=int_rd _ g2_1
 have w2_1:=i64_rng q2_1
 have g2_2:Rd enc Tryz.prog W 3 (((Value.agg cs2).cells.toList.drop 2).take (Tryz.prog.cellsOf 3)):=hf2 2 _ rfl
 rw[show Tryz.prog.cellsOf 3=1 from by kernel_rfl]at g2_2
 obtain⟨X2_2,e2_2,q2_2⟩:=int_rd _ g2_2
 have w2_2:=i64_rng q2_2
 have g2_3:Rd enc Tryz.prog W 3 (((Value.agg cs2).cells.toList.drop 3).take (Tryz.prog.cellsOf 3)):=hf2 3 _ rfl
 rw[show Tryz.prog.cellsOf 3=1 from by kernel_rfl]at g2_3
 obtain⟨X2_3,e2_3,q2_3⟩:=int_rd _ g2_3
 have w2_3:=i64_rng q2_3
 have g2_4:Rd enc Tryz.prog W 3 (((Value.agg cs2).cells.toList.drop 4).take (Tryz.prog.cellsOf 3)):=hf2 4 _ rfl
 rw[show Tryz.prog.cellsOf 3=1 from by kernel_rfl]at g2_4
 obtain⟨X2_4,e2_4,q2_4⟩:=int_rd _ g2_4
 have w2_4:=i64_rng q2_4
 rw[hc2]at hl2
 have hcs2':=parts5 (l:=(Value.agg cs2).cells.toList) hl2 e2_0 e2_1 e2_2 e2_3 e2_4
 obtain rfl:cs2=#[.int .i64 X2_0,.int .i64 X2_1,.int .i64 X2_2,.int .i64 X2_3,.int .i64 X2_4]:=by
  have q:(Value.agg cs2).cells=cs2:=rfl
  rw[q]at hcs2'
  cases cs2;simp_all
 obtain⟨μ0_1,H0_1,b0_1,f0_1,E0_1,x0_1,l0_1,va0_1,qa0_1⟩:=s0_1.ent (Ent.nil W (fun v h=>by cases h)) (by decide) (fun _=>rfl) (fun _=>rfl) (fun x u hu=>by simp only[Go.Vd.ZH,List.mem_cons,List.not_mem_nil,or_false]at hu;rcases hu with rfl|rfl|rfl <;> rfl)
 have n0_1x:=s0_1.len
 rw[hbA,hr]at n0_1x
 obtain⟨μ1,H1,b1,f1,E1,x1,l1,va1,qa1⟩:=s1.ent E0_1 (by decide) (fun _=>rfl) (fun _=>rfl) (fun x u hu=>by simp[Go.Vd.Zq]at hu;subst hu;rfl)
 have n1x:=s1.len
 rw[hb3,hr]at n1x
 have hp:Zaz X0_0 X0_1 X1 X2_0 X2_1 X2_2 X2_3 X2_4=some true:=by
  apply ZhV <;> first|omega|assumption
 have hw:=Zfk E1.wf (qa0_1.ext x1) qa1 hp
 have ag0:ARel μ1 #[.int .i64 X0_0,b0_1] #[.int .i64 X0_0,d0_1]:=ARel.toList.2 (.cons (.int _ _) (.cons (va0_1.mono l1) .nil))
 have ag2:ARel μ1 #[.int .i64 X2_0,.int .i64 X2_1,.int .i64 X2_2,.int .i64 X2_3,.int .i64 X2_4] #[.int .i64 X2_0,.int .i64 X2_1,.int .i64 X2_2,.int .i64 X2_3,.int .i64 X2_4]:=ARel.toList.2 (.cons (.int _ _) (.cons (.int _ _) (.cons (.int _ _) (.cons (.int _ _) (.cons (.int _ _) .nil)))))
 have harg:ARel μ1 #[.agg #[.int .i64 X0_0,b0_1],b1,.agg #[.int .i64 X2_0,.int .i64 X2_1,.int .i64 X2_2,.int .i64 X2_3,.int .i64 X2_4]] #[.agg #[.int .i64 X0_0,d0_1],.slice aa1 ll1 cc1,.agg #[.int .i64 X2_0,.int .i64 X2_1,.int .i64 X2_2,.int .i64 X2_3,.int .i64 X2_4]]:=ARel.toList.2 (.cons (.agg _ _ ag0.1 ag0.2) (.cons va1 (.cons (.agg _ _ ag2.1 ag2.2) .nil)))
 exact Zji (hw.mono fun v H' h=>h.1) rfl E1.rel harg E1.ro
set_option maxRecDepth 100000 in
theorem wholeHierarchies_lifted (os : Os) (started : os.Started) (H : Type) (enc : TypeId × Value -> H) (F : Stop.Interp) :
  ReturnsInHanded {} Tryz.checked os 4 .any ((Rows.OpenSpec.upto Rows.wholeHierarchiesSpec).pre6 enc Tryz.prog Tryz.f4 Rows.wholeHierarchiesUptoRow.domain false) (((Rows.OpenSpec.upto Rows.wholeHierarchiesSpec).at F).post enc Tryz.prog Tryz.f4 false true false false):=by
 refine returnsInHanded_of_cond_sized (C:=Tryz.checked) (s:=Rows.OpenSpec.upto Rows.wholeHierarchiesSpec) (k:=Rows.uptoSmall) rfl own9 started (by kernel_rfl) Tryz.func4
  (OpenSpec.witness (enc:=enc) (C:=Tryz.checked) (s:=Rows.OpenSpec.upto Rows.wholeHierarchiesSpec) (k:=Rows.uptoSmall) rfl false ⟨#[],#[.agg #[.int .i64 0,.slice none 0 0],.slice none 0 0,.agg #[.int .i64 0,.int .i64 0,.int .i64 0,.int .i64 0,.int .i64 0]],[]⟩ 8 (by kernel_rfl) (by kernel_rfl) (by kernel_rfl)
   (x:=([.agg [.lit (.int .i64 0),.nil],.nil,.agg [.lit (.int .i64 0),.lit (.int .i64 0),.lit (.int .i64 0),.lit (.int .i64 0),.lit (.int .i64 0)]],[],[])) (by kernel_rfl) rfl (by kernel_rfl)) ?_
 intro W base args ds gs before hval0 hW hcnd hk hsz _
 have hval:∀(j:Nat) t v,Tryz.f4.params[j]? = some t->args[j]? = some v->Value.okWide Tryz.prog W .any base t v:=hval0
 have hW':=hW
 obtain⟨p,q,hA0,hV,rfl,hfz,hnd⟩:=hW
 have hA:DataW.TrodAll enc Tryz.prog W 0 (fun _=>true) true Tryz.f4.params.toList args.toList ds p:=hA0
 have hsz':(DataW.weightsEach Tryz.prog (Tryz.f4.params.toList++Rows.wholeHierarchiesSpec.plain.varTypes Tryz.prog) (ds++gs)).all (· ≤ reachBytes)=true:=hsz
 rw[Tryz.params4]at hA hval hsz'
 obtain⟨v0,vs0,d0,ds0,p0,q0,hargs,rfl,rfl,h0,r0⟩:=trodAll_cons hA
 obtain⟨v1,vs1,d1,ds1,p1,q1,rfl,rfl,rfl,h1,r1⟩:=trodAll_cons r0
 obtain⟨v2,vs2,d2,ds2,p2,q2,rfl,rfl,rfl,h2,r2⟩:=trodAll_cons r1
 obtain⟨rfl,rfl,rfl⟩:=trodAll_nil r2
 obtain rfl:args=#[v0,v1,v2]:=by cases args;simp_all
 obtain⟨rfl,rfl⟩:=trodVars_none hV
 have wt:∀(j:Nat) t d,(#[46,38,55]:Array TypeId).toList[j]? = some t->[d0,d1,d2][j]? = some d->∀n∈d.weights Tryz.prog t,n≤reachBytes:=fun j t d ht hd n hn=>by
  have hlt:=(List.getElem?_eq_some_iff.1 ht).1
  have hltd:=(List.getElem?_eq_some_iff.1 hd).1
  have:=List.all_eq_true.1 hsz' n (DataW.weights_mem_each (j:=j) (t:=t) (d:=d) (by rw[List.getElem?_append_left hlt];exact ht) (by rw[List.getElem?_append_left hltd];exact hd) n hn)
  simpa using this
 have lt0:∀x∈p0,x.block<W.heap.size:=by obtain⟨m,hm⟩:=h0;exact DataW.trod_lt m _ _ _ hm
 have lt1:∀x∈p1,x.block<W.heap.size:=by obtain⟨m,hm⟩:=h1;exact DataW.trod_lt m _ _ _ hm
 have lt2:∀x∈p2,x.block<W.heap.size:=by obtain⟨m,hm⟩:=h2;exact DataW.trod_lt m _ _ _ hm
 refine (wholeHierarchies_walk (enc:=enc) W v0 v1 v2 (okWide_struct Tryz.underlying46 (hval 0 46 v0 rfl rfl)) (okWide_slice Tryz.underlying38 (hval 1 38 v1 rfl rfl)) (okWide_struct Tryz.underlying55 (hval 2 55 v2 rfl rfl)) (Rd.of h0 (wt 0 46 d0 rfl rfl)) (Rd.of h1 (wt 1 38 d1 rfl rfl)) (Rd.of h2 (wt 2 55 d2 rfl rfl))).mono fun e W' ⟨he,bel⟩=>?_
 subst he
 exact⟨_,rfl,_,_,_,[],_,[],hW',trodAll_mk1 (shut_bool Tryz.underlying4 _),(trodAll_cons_mk (Below.trod laidOut9 (by kernel_rfl) (of_decide_eq_true (by kernel_rfl)) h0 bel lt0) (trodAll_cons_mk (Below.trod laidOut9 (by kernel_rfl) (of_decide_eq_true (by kernel_rfl)) h1 bel lt1) (trodAll_cons_mk (Below.trod laidOut9 (by kernel_rfl) (of_decide_eq_true (by kernel_rfl)) h2 bel lt2) trodAll_mk0))),rfl,bel.frame _,fun h=>by cases h⟩
theorem wholeHierarchies_upto_holds : Rows.WholeHierarchiesUptoSaid :=
 OpenClaim.holds_of_cond 4 Tryz.f4 rfl rfl rfl rfl rfl rfl rfl ⟨rfl,rfl,rfl,rfl,rfl⟩ rfl rfl rfl rfl rfl (by kernel_rfl) Tryz.func4 (by kernel_rfl)
  (of_decide_eq_true (by kernel_rfl)) (by unfold Func.isWrapper;first|(rw[if_pos (by decide +kernel)];kernel_rfl)|(rw[if_neg (by decide +kernel)];exact⟨rfl,rfl⟩))
  (fun os started H enc _ F=>wholeHierarchies_lifted os started H enc F)
#print axioms wholeHierarchies_upto_holds
end Go.Proofs.YtlfclppjhkeljaaGreat
