/- Texts. -/
import Derived.Test.YtlfclppjhkeljaaGreatPwhVeC
import Derived.Test.YtlfclppjhkeljaaGreatPwhSo0
import Derived.Shelf.SlSortCmp.NoneTotal
set_option linter.all false
open Array renaming getElem?_eq_none→Yca,getElem?_eq_getElem→YH,eq_empty_of_size_eq_zero→YZ
open List renaming getElem?_eq_getElem→Yn,getElem?_eq_none→YQ,mem_of_getElem?→YK,getElem_mem→Yia,length_map→YB,getElem?_map→Yfa
open Nat renaming le_refl→Yj,mul_le_mul_right→Yz,zero_add→Y8
set_option maxRecDepth 100000
namespace Go.Proofs
open Go.Shelf Go.RowKit Go.Lib Go.Sort
def Tryz.sortArc_ren:Go.Shelf.Ren:=⟨fun|6=>94|15=>146|14=>145|28=>182|29=>183|20=>174|21=>175|22=>176|23=>177|24=>178|25=>179|26=>180|27=>181|46=>213|47=>214|48=>215|49=>216|50=>217|57=>231|n=>n,fun|22=>44|24=>59|25=>175|3=>3|39=>252|0=>0|53=>60|55=>35|4=>4|46=>303|45=>302|50=>292|5=>5|9=>9|66=>339|70=>283|76=>352|77=>200|n=>n,fun|n=>n⟩
theorem Tryz.sortArc:Go.Proofs.SlLaysF0.n6 Tryz.prog Tryz.sortArc_ren where
 mixed:=by kernel_rfl
 f6:=⟨Tryz.f94.name,by kernel_rfl,Tryz.func94.trans (congrArg some Xk)⟩
 f14:=⟨Tryz.f145.name,by kernel_rfl,Tryz.func145.trans (congrArg some Xk)⟩
 f15:=Tryz.func146.trans (congrArg some Xk)
 f20:=⟨Tryz.f174.name,by kernel_rfl,Tryz.func174.trans (congrArg some Xk)⟩
 f21:=⟨Tryz.f175.name,by kernel_rfl,Tryz.func175.trans (congrArg some Xk)⟩
 f22:=⟨Tryz.f176.name,by kernel_rfl,Tryz.func176.trans (congrArg some Xk)⟩
 f23:=⟨Tryz.f177.name,by kernel_rfl,Tryz.func177.trans (congrArg some Xk)⟩
 f24:=⟨Tryz.f178.name,by kernel_rfl,Tryz.func178.trans (congrArg some Xk)⟩
 f25:=⟨Tryz.f179.name,by kernel_rfl,Tryz.func179.trans (congrArg some Xk)⟩
 f26:=⟨Tryz.f180.name,by kernel_rfl,Tryz.func180.trans (congrArg some Xk)⟩
 f27:=⟨Tryz.f181.name,by kernel_rfl,Tryz.func181.trans (congrArg some Xk)⟩
 f28:=Tryz.func182.trans (congrArg some Xk)
 f29:=Tryz.func183.trans (congrArg some Xk)
 f46:=⟨Tryz.f213.name,by kernel_rfl,Tryz.func213.trans (congrArg some Xk)⟩
 f47:=Tryz.func214.trans (congrArg some Xk)
 f48:=Tryz.func215.trans (congrArg some Xk)
 f49:=⟨Tryz.f216.name,by kernel_rfl,Tryz.func216.trans (congrArg some Xk)⟩
 f50:=⟨Tryz.f217.name,by kernel_rfl,Tryz.func217.trans (congrArg some Xk)⟩
 f57:=⟨Tryz.f231.name,by kernel_rfl,Tryz.func231.trans (congrArg some Xk)⟩
 t0:=Tryz.underlying0
 a0:=Tryz.isAgg0
 z0:=Tryz.sizeOf0
 v0:=Tryz.zeroValue0
 t3:=Tryz.underlying3
 a3:=Tryz.isAgg3
 z3:=Tryz.sizeOf3
 v3:=Tryz.zeroValue3
 t4:=Tryz.underlying4
 a4:=Tryz.isAgg4
 z4:=Tryz.sizeOf4
 v4:=Tryz.zeroValue4
 t5:=Tryz.underlying5
 a5:=Tryz.isAgg5
 z5:=Tryz.sizeOf5
 v5:=Tryz.zeroValue5
 t9:=Tryz.underlying9
 a9:=Tryz.isAgg9
 z9:=Tryz.sizeOf9
 v9:=Tryz.zeroValue9
 t22:=Tryz.underlying44
 a22:=Tryz.isAgg44
 z22:=Tryz.sizeOf44
 v22:=Tryz.zeroValue44
 t25:=Tryz.underlying175
 a25:=Tryz.isAgg175
 z25:=Tryz.sizeOf175
 v25:=Tryz.zeroValue175
 t39:=Tryz.underlying252
 a39:=Tryz.isAgg252
 z39:=Tryz.sizeOf252
 v39:=Tryz.zeroValue252
 t45:=Tryz.underlying302
 a45:=Tryz.isAgg302
 z45:=Tryz.sizeOf302
 v45:=Tryz.zeroValue302
 t46:=Tryz.underlying303
 a46:=Tryz.isAgg303
 z46:=Tryz.sizeOf303
 v46:=Tryz.zeroValue303
 t50:=Tryz.underlying292
 a50:=Tryz.isAgg292
 z50:=Tryz.sizeOf292
 v50:=Tryz.zeroValue292
 t53:=Tryz.underlying60
 a53:=Tryz.isAgg60
 z53:=Tryz.sizeOf60
 v53:=Tryz.zeroValue60
 t55:=Tryz.underlying35
 a55:=Tryz.isAgg35
 z55:=Tryz.sizeOf35
 v55:=Tryz.zeroValue35
 t66:=Tryz.underlying339
 a66:=Tryz.isAgg339
 z66:=Tryz.sizeOf339
 v66:=Tryz.zeroValue339
 t70:=Tryz.underlying283
 a70:=Tryz.isAgg283
 z70:=Tryz.sizeOf283
 v70:=Tryz.zeroValue283
 t76:=Tryz.underlying352
 a76:=Tryz.isAgg352
 z76:=Tryz.sizeOf352
 v76:=Tryz.zeroValue352
 t77:=Tryz.underlying200
 a77:=Tryz.isAgg200
 z77:=Tryz.sizeOf200
 v77:=Tryz.zeroValue200
theorem Tryz.isAggArc:∀w,(isAgg 59).run Tryz.prog w=.ok true w:=by
 intro w;kernel_rfl
theorem Tryz.sizeOfArc:∀w,(Go.sizeOf 59).run Tryz.prog w=.ok 3 w:=by
 intro w;kernel_rfl
end Go.Proofs
namespace Go.Vd
open Go.Proofs Go.Sort Go.RowKit
def Zjl:AH:=⟨λ_=>none,0⟩
theorem ZoT:WF Zjl:=⟨λ_ _=>rfl,λb=>by simp[ZI,Zjl]⟩
theorem Zky(w:World)(os:Array Obj)(k:Nat)(h:k<w.heap.size):(Go.Sort.grow w os).heap[k]? = w.heap[k]?:=by
 show (w.heap++os)[k]? = _;rw[Array.getElem?_append_left h]
theorem Ze2(w:World)(os:Array Obj):(Go.Sort.grow w os).heap.size=w.heap.size+os.size:=by
 show (w.heap++os).size=_;rw[Array.size_append]
theorem Keep.growS(μ:Mu)(H:AH)(w:World)(os:Array Obj):Keep μ μ H H w (Go.Sort.grow w os):=
 ⟨.refl μ,Yj _,rfl,rfl,rfl,Yj _,by rw[Ze2];omega,λk hk _=>Zky _ _ _ hk,λ_ _ h=>⟨h,.inl rfl⟩,λ_ _ h=>h,λb p h h0=>by rw[h0]at h;cases h⟩
theorem Rel.growS{μ:Mu}{H:AH}{w:World}(h:Rel μ H w)(os:Array Obj):Rel μ H (Go.Sort.grow w os):=by
 refine⟨λb p e=>⟨(h.lt b p e).1,?_⟩,λb p e=>?_,h.apart,h.fresh,h.pin.keep (Keep.growS μ H w os)⟩
 ·rw[Ze2];have:=(h.lt b p e).2;omega
 ·obtain⟨ob,g1,g2⟩:=h.ok b p e;exact⟨ob,g1,g2.congr (.refl _) (Zky _ _ _ (h.lt b p e).2)⟩
theorem ZjU{μ':Mu}{H':AH}{w w':World}(k:Keep (λ_=>none) μ' Zjl H' w w'):∃q os,w'=Go.Sort.grow (w.drewN q) os:=by
 refine⟨w'.drawn-w.drawn,w'.heap.extract w.heap.size w'.heap.size,?_⟩;have hb:∀i,i<w.heap.size->w'.heap[i]? = w.heap[i]?:=λi hi=>k.block i hi λb p e=>by cases e
 have hs:=k.size
 have hh:w'.heap=w.heap++w'.heap.extract w.heap.size w'.heap.size:=by
  apply Array.ext_getElem?;intro i;by_cases hi:i<w.heap.size
  ·rw[Array.getElem?_append_left hi,hb i hi]
  ·rw[Array.getElem?_append_right Xo,Array.getElem?_extract];by_cases h2:i<w'.heap.size
   ·rw[if_pos Xo];congr 1;omega
   ·rw[if_neg Xo,Yca Xo]
 have hd:=k.drw;obtain⟨h1,t1,d1,o1,u1⟩:=w';obtain⟨h2,t2,d2,o2,u2⟩:=w;have e1:=k.os;have e2:=k.tape;have e3:=k.output;dsimp only at *;subst e1;subst e2;subst e3;show _=World.mk _ _ _ _ _;congr 1;show d1=d2+(d1-d2);omega
section
variable{E:Type}[Inhabited E]{enc:E->List Value}{H:AH}{s:Value}{xs ys:List E}{fp:Fp}
theorem Zi6(hk:∀x,(enc x).length=3)(l:List E):(flatK enc 3 l.toArray).toList=l.flatMap enc:=by
 apply List.ext_getElem?;intro t;have hl:(l.flatMap enc).length=l.length*3:=ZaB (λx _=>hk x);by_cases ht:t<l.length*3
 ·have hq:t / 3<l.length:=Xo;have h1:=get_flatK enc 3 l.toArray t (by simpa using ht);have hsz:t<(flatK enc 3 l.toArray).size:=by simpa using ht
  rw[getElem!_pos (flatK enc 3 l.toArray) t hsz]at h1;rw[Array.getElem?_toList,YH hsz,h1];have h2:=Zbz (enc:=enc) (sz:=3) (xs:=l) (λx _=>hk x) (i:=t / 3) (x:=l[t / 3]) (Yn hq) (j:=t % 3) (Nat.mod_lt _ Xd);rw[show t / 3*3+t % 3=t from Xo]at h2;rw[h2]
  have hd:l.toArray[t / 3]! = l[t / 3]:=by
   rw[getElem!_pos l.toArray (t / 3) (by simpa using hq)];simp
  rw[hd];have h3:t % 3<(enc l[t / 3]).length:=by rw[hk];exact Nat.mod_lt _ Xd
  rw[Yn h3,getElem!_pos (enc l[t / 3]) (t % 3) h3]
 ·rw[YQ (l:=l.flatMap enc) Xo,Array.getElem?_toList,Yca (by rw[size_flatK];simp;omega)]
theorem two'{μ:Mu}{a b:Value}{args':Array Value}(h:ARel μ #[a,b] args'):∃a' b',args'=#[a',b']/\VRel μ a a'/\VRel μ b b':=by
 have hl:=ARel.toList.1 h;obtain⟨h1,h2⟩:=hl;match args',h1,h2 with
 | ⟨[x,y]⟩,_,h2=>exact⟨x,y,rfl,h2 0 a x rfl rfl,h2 1 b y rfl rfl⟩
theorem ZiP{μ:Mu}{l:List Value}(h:∀v∈l,plain v=true):ARel μ l.toArray l.toArray:=by
 rw[ARel.toList];refine⟨rfl,λi a b hx hy=>?_⟩;rw[hx]at hy;cases hy;exact ZaT _ (h a (YK (by simpa using hx)))
theorem Znx{μ:Mu}{x y:E}(hp:∀x,∀v∈enc x,plain v=true):ARel μ #[.agg (enc x).toArray,.agg (enc y).toArray] #[.agg (enc x).toArray,.agg (enc y).toArray]:=by
 have h1:=ZiP (μ:=μ) (hp x);have h2:=ZiP (μ:=μ) (hp y);rw[ARel.toList];exact .cons (.agg _ _ h1.1 h1.2) (.cons (.agg _ _ h2.1 h2.2) .nil)
theorem ZmZ{μ:Mu}{g:Nat}{ab:Array Value}{v':Value}(h:VRel μ (.func (.func g) #[] ab) v'):∃cb,v'=.func (.func g) #[] cb/\ARel μ ab cb:=by
 cases h with
 | func _ _ a' _ c' h1 _ h2 h3 =>
  have e1:a'=#[]:=YZ (by simpa using h1.symm);exact⟨c',by rw[e1],h2,h3⟩
def Zkb{E:Type}[Inhabited E](enc:E->List Value)(H:AH)(fp:Fp)(c:E->E->Option Int)(g:Nat)(ab:Array Value)(n:Nat):Prop:=
 ∀μ w cb,Rel μ H w->ARel μ ab cb->∀b p,μ b=some p->ZI H b∈fp->(∃k cs,H.get b=some (.row k cs)/\k≠.ro)->(∀v,ZhF=some v->p.blk≠0)->CmpLays Tryz.prog g cb enc 3 (λx y=>(c x y).getD 0) p.blk p.off n w
theorem Zly{ρ:Go.Shelf.Ren}(L:Go.Proofs.SlLaysF0.n6 Tryz.prog ρ)(aE:∀w,(isAgg (ρ.t 24)).run Tryz.prog w=.ok true w)(zE:∀w,(Go.sizeOf (ρ.t 24)).run Tryz.prog w=.ok 3 w)(hk:∀x,(enc x).length=3)(h1:∀x,∀v∈enc x,v.oneCell'=true)(hp:∀x,∀v∈enc x,plain v=true){c:E->E->Option Int}{g:Nat}{ab:Array Value}(eg:∀args w,(callFunc g args).run Tryz.prog w=.ok (.enter g args) w)
  (hcW:xs≠[]->Zkb enc H fp c g ab xs.toArray.size) (hw:WF H) (h:Ow enc 3 H s xs fp) (hl:xs.length≤1000000000000) (ok':xs≠[]->SortOk c) :
  ACalls Tryz.prog (ρ.f 6) #[s,.func (.func g) #[] ab] H λv H'=>v=.tuple #[]/\FrS fp H H'/\Ow enc 3 H' s (Zah c xs) fp:=by
 intro μ w args' hr ha;obtain⟨s',f',rfl,hs,hf⟩:=two' ha;obtain⟨cb,rfl,hab⟩:=ZmZ hf
 have none':∀(p:Option Addr) (cap:Nat),xs=[]->s'=.slice p 0 cap->Calls Tryz.prog (ρ.f 6) #[s',.func (.func g) #[] cb] w λe w'=>∃v v' H' μ',e=.returned v'/\(v=.tuple #[]/\FrS fp H H'/\Ow enc 3 H' s (Zah c xs) fp)/\VRel μ' v v'/\Rel μ' H' w'/\Keep μ μ' H H' w w':=by
  intro p cap hx he;subst he;refine (AnyF.slices_SortFunc_none (P:=Tryz.prog) { L with } p cap (.func (.func g) #[] cb) w).mono ?_;rintro _ _ ⟨rfl,rfl⟩;subst hx;exact⟨_,_,H,μ,rfl,⟨rfl,.refl hw,by simpa [Zah] using h⟩,.tuple _ _ rfl (λi=>by simp;exact .nilIface),hr,.refl _ _ _⟩
 rcases h.is with ⟨hs0,hx⟩|⟨φ,hφ,hown⟩
 ·rcases hs0 with rfl|rfl
  ·cases hs;exact none' _ _ hx rfl
  ·cases hs with
   | void a=>exact none' _ _ hx rfl
 rcases hown.is with ⟨rfl,hx⟩|⟨b,cp,k,cs,rfl,hb2,hg,hkd,hc1,hc2,hcell⟩
 ·cases hs;exact none' _ _ hx rfl
 by_cases hx0:xs=[]
 ·have hl0:xs.length=0:=by rw[hx0];rfl
  rw[hl0]at hs;cases hs with
  | slice _ _ _ _ _ hb=>exact none' _ _ hx0 rfl
  | sliceEnd _ _ _ _ hb=>exact none' _ _ hx0 rfl
 have ok:=ok' hx0;have hpos:0<xs.length:=List.length_pos_iff.2 hx0
 have hsl:∃p,μ b=some p/\s'=.slice (some ⟨p.blk,p.off,none⟩) xs.length (cp+p.exs):=by
  generalize hn:xs.length=n at hs hpos;cases hs with
  | slice _ _ _ _ p hb=>exact⟨p,hb,Xs⟩
  | sliceEnd _ _ _ p hb=>omega
 obtain⟨p,hb,rfl⟩:=hsl;obtain⟨ob,g1,g2⟩:=hr.ok b p hb;rw[hg]at g1;cases g1;have g2':=g2;obtain⟨⟨cm,ty,fr,k1,k2,k3,k4⟩,k5,k6⟩:=g2;have hro:k≠.ro:=by rcases hkd with ⟨rfl,_⟩|rfl <;> simp
 have hfr:=k3 hro;subst hfr;have hblk:=(hr.lt b p hb).2
 -- the cells
 have hfl:(xs.flatMap enc).length=xs.length*3:=ZaB (λx _=>hk x)
 have cells:∀t,t<xs.length*3->cm[p.off+t]? = (xs.flatMap enc)[t]?:=by
  intro t ht;have hq:t / 3<xs.length:=Xo;have e1:=hcell (t / 3) xs[t / 3] (Yn hq) (t % 3) (Nat.mod_lt _ Xd);have e2:=Zbz (enc:=enc) (sz:=3) (xs:=xs) (λx _=>hk x) (i:=t / 3) (x:=xs[t / 3]) (Yn hq) (j:=t % 3) (Nat.mod_lt _ Xd);rw[show t / 3*3+t % 3=t from Xo]at e1 e2;have h3:t % 3<(enc xs[t / 3]).length:=by rw[hk];exact Nat.mod_lt _ Xd
  rw[Yn h3]at e1;obtain⟨v',a1,a2⟩:=k4 t _ e1;rw[Zgc (hp _ _ (Yia h3)) a2]at a1;rw[a1,e2,Yn h3]
 have hH:HoldsK enc 3 w p.blk p.off xs.toArray:=by
  intro t ht;have ht':t<xs.length*3:=by simpa using ht
  have e:=Zi6 (enc:=enc) hk xs;have hsz:t<(flatK enc 3 xs.toArray).size:=by simpa using ht'
  have e3:(flatK enc 3 xs.toArray)[t]? = (xs.flatMap enc)[t]?:=by rw[← e,Array.getElem?_toList]
  have e4:(flatK enc 3 xs.toArray)[t]! = (flatK enc 3 xs.toArray)[t]:=getElem!_pos (flatK enc 3 xs.toArray) t hsz;rw[YH hsz]at e3;refine⟨?_,?_⟩
  ·simp only[World.cell?,k1];rw[if_neg Xs,cells t ht',← e3,e4];rfl
  ·simp[World.frozen?,k1]
 -- the comparison
 let cf:E->E->Int:=λx y=>(c x y).getD 0;have hlt:∀x y,ltOf cf x y=decide ((c x y).getD 0<0):=λx y=>rfl
 have hO:SWO (ltOf cf):=
  { irrefl:=λx=>by rw[hlt];exact decide_eq_false (ok.irr x)
    trans:=λx y z h1 h2=>by rw[hlt]at *;exact decide_eq_true (ok.trn x y z (of_decide_eq_true h1) (of_decide_eq_true h2))
    ntrans:=λx y z h1 h2=>by rw[hlt]at *;exact decide_eq_false (ok.ntr x y z (of_decide_eq_false h1) (of_decide_eq_false h2)) }
 have hT:∀x y,ltOf cf x y=false->ltOf cf y x=false->x=y:=λx y h1 h2=>by rw[hlt]at *;exact ok.tot x y (of_decide_eq_false h1) (of_decide_eq_false h2)
 have hne0:∀v,ZhF=some v->p.blk≠0:=λv hv h0=>by
  obtain⟨cs',hcs'⟩:=(hr.pin.1 v hv).2 b p hb h0;rw[hg]at hcs';cases hcs'
  exact hro rfl
 have htok:ZI H b∈fp:=by
  have:ZI H b=φ:=by unfold ZI;rw[hg];rcases hkd with ⟨rfl,rfl⟩|rfl <;> rfl
  rw[this];exact hφ
 have hcmp:CmpLays Tryz.prog g cb enc 3 cf p.blk p.off xs.toArray.size w:=hcW hx0 μ w cb hr hab b p hb htok ⟨k,cs,hg,hro⟩ hne0;have hcon:=AnyQ.slices_SortFunc_total (P:=Tryz.prog) { L with } 3 aE zE enc hk h1 cf hO g cb p.blk p.off (cp+p.exs) xs.toArray w eg hcmp hH hblk (by simp;omega) hT;simp only[List.size_toArray]at hcon;refine hcon.mono ?_;rintro _ _ ⟨rfl,n,os,rfl⟩;have hsorted:(xs.mergeSort λx y => !(ltOf cf) y x)=Zah c xs:=rfl;have hperm:(Zah c xs).length=xs.length:=(Zd4 c xs).length_eq
 -- the stores
 have hfl2:((Zah c xs).flatMap enc).length=xs.length*3:=by rw[ZaB (sz:=3) (λx _=>hk x),hperm]
 have hr1:=hr.drawn (w.drawn+n);obtain⟨H',q1,q2,q3,q4⟩:=Zf6 (o:=0) (vs:=(Zah c xs).flatMap enc) (φ:=φ) (sz:=3) hw hb2 hg hkd Xo
 obtain⟨w2,s1,s2,s3⟩:=hr1.puts hb q1 (vs':=(Zah c xs).flatMap enc) ⟨rfl,λi a b hx hy=>by
   rw[hx]at hy;cases hy;obtain⟨x,_,hm⟩:=List.mem_flatMap.1 (YK hx);exact ZaT _ (hp x a hm)⟩ (λv hv=>by obtain⟨x,_,hm⟩:=List.mem_flatMap.1 hv;exact h1 x v hm) Tryz.prog
 have hH1:HoldsK enc 3 (Sort.ahead w n) p.blk p.off xs.toArray:=holdsK_ahead enc 3 w n p.blk p.off _ hH
 have hst:(storeCells ⟨p.blk,p.off+0,none⟩ ((Zah c xs).flatMap enc)).run Tryz.prog (Sort.ahead w n)=.ok () ((Sort.ahead w n).setCells p.blk (p.off+0) ((Zah c xs).flatMap enc)):=
  stores_of_holds Tryz.prog hH1 0 _ (by rw[hfl2,size_flatK];simp) (λv hv=>by obtain⟨x,_,hm⟩:=List.mem_flatMap.1 hv;exact h1 x v hm)
 have hw2:w2=(Sort.ahead w n).setCells p.blk (p.off+0) ((Zah c xs).flatMap enc):=by
  have:(.ok () w2:Result Unit)=.ok () ((Sort.ahead w n).setCells p.blk (p.off+0) ((Zah c xs).flatMap enc)):=s1.symm.trans hst;cases this;rfl
 have hput:(Sort.ahead w n).setCells p.blk (p.off+0) ((Zah c xs).flatMap enc)=putRowK enc 3 (Sort.ahead w n) p.blk p.off (Zah c xs).toArray:=by
  conv=>lhs;rw[← putRowK_self enc 3 (Sort.ahead w n) p.blk p.off xs.toArray hH1]
  unfold putRowK;rw[setCells_putRow _ _ _ _ _ _ (by rw[hfl2,size_flatK];simp)];congr 1;apply Array.ext_getElem?;intro t;by_cases ht:t<xs.length*3
  ·have z1:t<(setMany (flatK enc 3 xs.toArray) 0 ((Zah c xs).flatMap enc)).size:=by simpa using ht
   have z2:t<(flatK enc 3 (Zah c xs).toArray).size:=by simp[hperm];exact ht
   have e1:=get_setMany ((Zah c xs).flatMap enc) 0 (flatK enc 3 xs.toArray) t (by simpa using ht);rw[if_pos Xo,getElem!_pos (setMany (flatK enc 3 xs.toArray) 0 ((Zah c xs).flatMap enc)) t z1,Nat.sub_zero,getElem!_pos ((Zah c xs).flatMap enc) t Xo]at e1;rw[YH z1,e1,← Array.getElem?_toList,Zi6 hk,Yn Xo]
  ·rw[Yca (by simp;omega),Yca (by simp[hperm];omega)]
 have hfin:sortWorldK enc 3 w p.blk p.off n (Zah c xs).toArray os=Go.Sort.grow w2 os:=by
  unfold sortWorldK;rw[hw2,hput]
 rw[hsorted,hfin];refine⟨_,_,H',μ,rfl,⟨rfl,q2.frS hφ,h.lt.le (Nat.le_of_eq q3.symm),h.pos,.inr ⟨φ,hφ,?_⟩⟩,.tuple _ _ rfl (λi=>by simp;exact .nilIface),s2.growS os,((Keep.drawn μ H w _ (Nat.le_add_right _ _)).trans s3).trans (Keep.growS _ _ _ _)⟩;refine⟨h.pos,λx _=>hk x,λx _=>List.all_eq_true.2 (h1 x),by rw[q3];exact hown.lt,.inr ⟨b,cp,k,_,by rw[hperm],by rw[q3];exact hb2,q4,hkd,by rw[hperm];exact hc1,by rw[ZcH Xo];exact hc2,?_⟩⟩;intro i x hx j hj;have hi:=(List.getElem?_eq_some_iff.1 hx).1;have hm1:(i+1)*3≤xs.length*3:=Yz _ Xo;rw[Zfh Xo,if_neg Xo,Y8,if_pos Xo,Nat.sub_zero];exact Zbz (enc:=enc) (sz:=3) (λx _=>hk x) hx hj
theorem Zor(hp:∀x,∀v∈enc x,plain v=true){c:E->E->Option Int}{g n:Nat}(hc:∀x y r,c x y=some r->ACalls Tryz.prog g #[.agg (enc x).toArray,.agg (enc y).toArray] Zjl λv _=>v=.int .i64 r)(ans:∀x y,∃r,c x y=some r):Zkb enc H fp c g #[] n:=by
 intro μ w cb hr hab b p hb ht _ hne0;obtain rfl:cb=#[]:=YZ (by simpa using hab.1.symm);intro m os dk hdk x y;obtain⟨r,hr1⟩:=ans x y;have hnil:Rel (λ_=>none) Zjl (sortWorldK enc 3 w p.blk p.off m dk os):=⟨λb p e=>(by cases e),λb p e=>(by cases e),λb b' p p' o o' e=>(by cases e),λb _=>rfl,⟨λv hv=>⟨?_,λb p e=>(by cases e)⟩,λ_ _ h=>(by cases h),λ_ _ h=>(by cases h)⟩⟩
 ·have hcall:=hc x y r hr1 (λ_=>none) _ _ hnil (Znx hp);simp only[Array.append_empty];refine hcall.mono ?_;rintro e w' ⟨v,v',H',μ',rfl,rfl,hv,_,hk⟩;cases hv
  exact⟨by show _=Ending.returned (.int .i64 ((c x y).getD 0));rw[hr1];rfl,ZjU hk⟩
 ·obtain⟨⟨c0,ty0,fr0,z1,z2⟩,_⟩:=hr.pin.1 v hv;have hcell0:w.cell? ⟨0,0,none⟩=some v:=by simp[World.cell?,z1,z2]
  have h0:0<w.heap.size:=(Array.getElem?_eq_some_iff.1 z1).1
  have:(sortWorldK enc 3 w p.blk p.off m dk os).cell? ⟨0,0,none⟩=some v:=by
   unfold sortWorldK;rw[cell?_grow _ _ _ (by show 0<(putRowK enc 3 _ p.blk p.off dk).heap.size;rw[size_putRowK];exact h0),cell?_putRowK_other _ _ _ _ _ _ _ (λe=>hne0 v hv e.symm)];exact hcell0
  generalize sortWorldK enc 3 w p.blk p.off m dk os=W at this;unfold World.cell? at this;split at this
  ·rename_i c1 t1 f1 hh
   exact⟨c1,t1,f1,hh,by simpa using this⟩
  ·cases this
end
section
variable{E F:Type}[Inhabited E]{enc:E->List Value}{H:AH}{xs ys:List E}{s:Value}{fp:Fp}{sz:Nat}
theorem Ow.to_map{f:F->E}{l:List F}(h:Ow enc sz H s (l.map f) fp):Ow (λy=>enc (f y)) sz H s l fp:=by
 refine⟨h.lt,h.pos,?_⟩;rcases h.is with ⟨hs,hx⟩|⟨φ,hφ,o⟩
 ·exact .inl ⟨hs,List.map_eq_nil_iff.1 hx⟩
 ·refine .inr ⟨φ,hφ,o.pos,λy hy=>o.len _ (List.mem_map_of_mem hy),λy hy=>o.one _ (List.mem_map_of_mem hy),o.lt,?_⟩;rcases o.is with ⟨h1,h2⟩|⟨b,c,k,cs,h1,h2,h3,h4,h5,h6,h7⟩
  ·exact .inl ⟨h1,List.map_eq_nil_iff.1 h2⟩
  ·rw[YB]at h1 h5;exact .inr ⟨b,c,k,cs,h1,h2,h3,h4,h5,h6,λi y hy j hj=>h7 i (f y) (by rw[Yfa,hy];rfl) j hj⟩
theorem Ow.of_map{f:F->E}{l:List F}(h:Ow (λy=>enc (f y)) sz H s l fp):Ow enc sz H s (l.map f) fp:=by
 refine⟨h.lt,h.pos,?_⟩;rcases h.is with ⟨hs,hx⟩|⟨φ,hφ,o⟩
 ·exact .inl ⟨hs,by rw[hx];rfl⟩
 ·refine .inr ⟨φ,hφ,o.pos,λx hx=>?_,λx hx=>?_,o.lt,?_⟩
  ·obtain⟨y,hy,rfl⟩:=List.mem_map.1 hx;exact o.len y hy
  ·obtain⟨y,hy,rfl⟩:=List.mem_map.1 hx;exact o.one y hy
  rcases o.is with ⟨h1,h2⟩|⟨b,c,k,cs,h1,h2,h3,h4,h5,h6,h7⟩
  ·exact .inl ⟨h1,by rw[h2];rfl⟩
  ·refine .inr ⟨b,c,k,cs,by rw[YB];exact h1,h2,h3,h4,by rw[YB];exact h5,h6,λi x hx j hj=>?_⟩;rw[Yfa]at hx;obtain⟨y,hy,rfl⟩:=Option.map_eq_some_iff.1 hx;exact h7 i y hy j hj
theorem ZkH{ρ:Go.Shelf.Ren}(L:Go.Proofs.SlLaysF0.n6 Tryz.prog ρ)(aE:∀w,(isAgg (ρ.t 24)).run Tryz.prog w=.ok true w)(zE:∀w,(Go.sizeOf (ρ.t 24)).run Tryz.prog w=.ok 3 w)(hk:∀x,(enc x).length=3)(h1:∀x,∀v∈enc x,v.oneCell'=true)(hp:∀x,∀v∈enc x,plain v=true){c:E->E->Option Int}{g:Nat}{ab:Array Value}(eg:∀args w,(callFunc g args).run Tryz.prog w=.ok (.enter g args) w)
  (hcW:SortOn c xs->∀hi:Inhabited {x // x∈xs},Zkb (E:={x // x∈xs}) (λy=>enc y.1) H fp (λx y=>c x.1 y.1) g ab xs.attach.toArray.size) (hw:WF H) (h:Ow enc 3 H s xs fp) (hl:xs.length≤1000000000000) (hy:ZeS c xs=some ys) :
  ACalls Tryz.prog (ρ.f 6) #[s,.func (.func g) #[] ab] H λv H'=>v=.tuple #[]/\FrS fp H H'/\Ow enc 3 H' s ys fp:=by
 obtain⟨on,rfl⟩:=Zmc hy;by_cases hx:xs=[]
 ·exact Zly L aE zE hk h1 hp eg (λk=>absurd hx k) hw h hl (λk=>absurd hx k)
 have hi:Inhabited {x // x∈xs}:=⟨⟨xs.head hx,List.head_mem hx⟩⟩;have he:xs.attach.map Subtype.val=xs:=List.attach_map_subtype_val xs;have h':Ow enc 3 H s (xs.attach.map Subtype.val) fp:=by rw[he];exact h
 have key:=Zly (E:={x // x∈xs}) L aE zE (enc:=λy=>enc y.1) (c:=λx y=>c x.1 y.1) (λx=>hk x.1) (λx=>h1 x.1) (λx=>hp x.1) eg (λ_=>hcW on hi) hw h'.to_map (by rw[List.length_attach];exact hl) (λ_=>on.sub);refine key.mono ?_;rintro v H' ⟨e1,e2,e3⟩;refine⟨e1,e2,?_⟩;have:=e3.of_map (enc:=enc) (f:=Subtype.val);rwa[Zh1]at this
theorem Zpb(hk:∀x,(enc x).length=3)(h1:∀x,∀v∈enc x,v.oneCell'=true)(hp:∀x,∀v∈enc x,plain v=true){c:E->E->Option Int}{g:Nat}(eg:∀args w,(callFunc g args).run Tryz.prog w=.ok (.enter g args) w)
  (hc:∀x y r,c x y=some r->ACalls Tryz.prog g #[.agg (enc x).toArray,.agg (enc y).toArray] Zjl λv _=>v=.int .i64 r) (hw:WF H) (h:Ow enc 3 H s xs fp) (hl:xs.length≤1000000000000) (hy:ZeS c xs=some ys) :
  ACalls Tryz.prog 94 #[s,.func (.func g) #[] #[]] H λv H'=>v=.tuple #[]/\FrS fp H H'/\Ow enc 3 H' s ys fp:=
 ZkH (ρ:=Tryz.sortArc_ren) { Tryz.sortArc with } Tryz.isAggArc Tryz.sizeOfArc hk h1 hp eg (λon _=>Zor (E:={x // x∈xs}) (λx=>hp x.1) (λx y r hr=>hc x.1 y.1 r hr) on.sub.ans) hw h hl hy
end
end Go.Vd
