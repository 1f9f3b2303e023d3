/- Texts. -/
import Derived.Test.YtlfclppjhkeljaaGreatPwh5
set_option linter.all false
open Bool renaming false_eq_true→Y5
open Classical renaming byContradiction→Yga
open Int renaming le_refl→YO
open List renaming length_map→YB,getD_eq_getElem?_getD→Yl,getElem?_map→Yfa,length_cons→Yp,replicate→Ym,getElem?_eq_getElem→Yn,take_of_length_le→YE,mem_of_mem_take→YN,filter_append→Y0,length_set→Yv,length_replicate→Y6,map_append→Y2,length_append→Yy,length_nil→Yt,getElem?_eq_none→YQ,eq_nil_of_length_eq_zero→Yx
open Nat renaming le_refl→Yj
open Option renaming map_some→Yda,getD_some→Yha,bind_some→Yk
open Sum renaming elim_inr→Yq,elim→YR,elim_inl→Yo
set_option maxHeartbeats 2000000

namespace Go.Vd
variable{l R UF DF:List Int}{U D U' D':List B4}{up dn:Int->List Hf}{n x r i p q m t:Int}
theorem Zki{r:Int}(h:i<(U.length:Int)):e7 U D i r=((gt U i).1,(gt U i).2.1,(gt U i).2.2.1,(gt U i).2.2.2,r,(gt U i).1,r):=by
 unfold e7 lnk;rw[if_pos h,if_pos h,if_pos h]
theorem Zkd{r:Int}(h:¬i<(U.length:Int)):e7 U D i r=((gt D (i-U.length)).1,(gt D (i-U.length)).2.1,(gt D (i-U.length)).2.2.1,(gt D (i-U.length)).2.2.2,(gt D (i-U.length)).1,r,r):=by
 unfold e7 lnk;rw[if_neg h,if_neg h,if_neg h]
theorem Fst.lt(f:Fst UF q)(k:Rk UF p r):0≤p/\p<q:=by
 obtain⟨k0,k1,k2,k3⟩:=k;have h1:=f.le (a:=0) (b:=r) Xo k0 Xo;have h2:=f.le (a:=r+1) (b:=(UF.length:Int)-1) Xo Xo Xo;rw[f.z]at h1;rw[f.e]at h2;omega
theorem Laid.up1(L:Laid l R up dn n UF U U' DF D D')(k:Rk UF p r):∃h a b,h∈up r/\(0≤r/\r<n)/\(0≤p/\p<(U.length:Int))/\gt U p=plE R h/\gt U' p=(gt R h.1,h.2.1,a,b)/\(h.2.2<0->a=4294967295/\b=4294967295)/\(0≤h.2.2->Kup l R UF U DF D r h a b):=by
 obtain⟨h1,h2,h3⟩:=L.c.hU.src k;have lt:=L.c.hU.fst.lt k;obtain⟨a,b,e1,e2,e3⟩:=L.tU.lo p lt.1 lt.2 lt.2 r k;exact⟨_,a,b,h2,h1,lt,h3,by rw[e1,h3];rfl,e2,e3⟩
theorem Laid.dn1(L:Laid l R up dn n UF U U' DF D D')(k:Rk DF p r):∃h a b,h∈dn r/\(0≤r/\r<n)/\(0≤p/\p<(D.length:Int))/\gt D p=plE R h/\gt D' p=(gt R h.1,h.2.1,a,b)/\(h.2.2<0->a=4294967295/\b=4294967295)/\(0≤h.2.2->Kdn l R UF U DF D r h a b):=by
 obtain⟨h1,h2,h3⟩:=L.c.hD.src k;have lt:=L.c.hD.fst.lt k;obtain⟨a,b,e1,e2,e3⟩:=L.tD.lo p lt.1 lt.2 lt.2 r k;exact⟨_,a,b,h2,h1,lt,h3,by rw[e1,h3];rfl,e2,e3⟩
theorem Laid.len(L:Laid l R up dn n UF U U' DF D D'):U'.length=U.length/\D'.length=D.length:=⟨L.tU.len,L.tD.len⟩
theorem Laid.tos(L:Laid l R up dn n UF U U' DF D D'):Tos U U'/\Tos D D':=⟨L.tU.tos L.c.hU.fst (by have:=L.c.hU.fl;have:=L.c.hU.n0;omega),L.tD.tos L.c.hD.fst (by have:=L.c.hD.fl;have:=L.c.hD.n0;omega)⟩
theorem Laid.allX(L:Laid l R up dn n UF U U' DF D D'):∃all,AllX UF DF U' D' all:=by
 have fl:=L.c.hU.fl;have fl2:=L.c.hD.fl;have n0:=L.c.hU.n0;obtain⟨e1,e2⟩:=L.len;have fU:Fst UF (U'.length:Int):=by rw[e1];exact L.c.hU.fst
 have fD:Fst DF (D'.length:Int):=by rw[e2];exact L.c.hD.fst
 have ex:∀i:Nat,∃r,i<U'.length+D'.length->RkX UF DF U' (i:Int) r:=λi=>by
  by_cases h:i<U'.length+D'.length
  ·obtain⟨r,hr⟩:=RkX.ex (U:=U') (D:=D') fU fD Xo Xo (i:=(i:Int)) Xo Xo;exact⟨r,λ_=>hr⟩
  ·exact⟨0,λk=>absurd k h⟩
 obtain⟨f,hf⟩:=Classical.axiomOfChoice ex;refine⟨(List.range (U'.length+D'.length)).map λ(i:Nat)=>e7 U' D' (i:Int) (f i),Xs,λi i0 i1=>?_⟩;rw[YB,List.length_range]at i1;refine⟨f i.toNat,?_,?_⟩
 ·have:=hf i.toNat Xo;rwa[show ((i.toNat:Nat):Int)=i from Xo]at this
 ·unfold gt;rw[Yl,Yfa,List.getElem?_range Xo];simp only[Yda,Yha];rw[show ((i.toNat:Nat):Int)=i from Xo]
theorem Laid.inF(L:Laid l R up dn n UF U U' DF D D'):∃all,InF l UF U' DF D' all:=by
 obtain⟨all,hX⟩:=L.allX;have g:=L.c.g;have n9:=g.n9;have hn:=g.ln;have fl:=L.c.hU.fl;have fl2:=L.c.hD.fl;have lU:=L.c.lU;have lD:=L.c.lD;obtain⟨e1,e2⟩:=L.len;obtain⟨tU,tD⟩:=L.tos;have fU:Fst UF (U'.length:Int):=by rw[e1];exact L.c.hU.fst
 have fD:Fst DF (D'.length:Int):=by rw[e2];exact L.c.hD.fst
 have la:=hX.len
 have at':∀i r,0≤i->i<(all.length:Int)->RkX UF DF U' i r->gt all i=e7 U' D' i r:=λi r i0 i1 hr=>by
  obtain⟨r',h1,h2⟩:=hX.at' i i0 i1;rw[h2,RkX.uniq fU fD h1 hr]
 have kids:∀{a b:Int} {k p1 p2:Int},Rk DF p1 k->Rk UF p2 k->(0≤p1/\p1<(D.length:Int))->(0≤p2/\p2<(U.length:Int))->a=U.length+p1->b=p2->∃c d:Int×Int,gt all a=((gt D p1).1,(gt D p1).2.1,c.1,c.2,(gt D p1).1,k,k)/\gt all b=((gt U p2).1,(gt U p2).2.1,d.1,d.2,k,(gt U p2).1,k)/\((U.length:Int)≤a/\a<(all.length:Int)/\0≤b/\b<(U.length:Int))/\((gt D p1).2.1≤140737488355328/\(gt U p2).2.1≤140737488355328):=λ{a b k p1 p2} r1 r2 q1 q2 ea eb=>by
  have ra:RkX UF DF U' a k:=by unfold RkX;rw[if_neg Xo,e1,show a-(U.length:Int)=p1 from Xo];exact r1
  have rb:RkX UF DF U' b k:=by unfold RkX;rw[if_pos Xo,eb];exact r2
  have a1:=at' a k Xo Xo ra;have a2:=at' b k Xo Xo rb;rw[Zkd Xo,e1,show a-(U.length:Int)=p1 from Xo]at a1;rw[Zki Xo,eb]at a2;have t1:=tD.2 p1 q1.1 q1.2;have t2:=tU.2 p2 q2.1 q2.2;rw[t1.1,t1.2]at a1;rw[t2.1,t2.2]at a2;obtain⟨h,c1,c2,hm,hr,_,hg,_⟩:=L.dn1 r1;obtain⟨h',c1',c2',hm',hr',_,hg',_⟩:=L.up1 r2;have w1:=(g.en k hr.1 hr.2 h (.inr hm)).2.2.2.1;have w2:=(g.en k hr.1 hr.2 h' (.inl hm')).2.2.2.1;refine⟨(_,_),(_,_),a1,by rw[eb];exact a2,Xo,?_,?_⟩
  ·rw[hg];exact w1
  ·rw[hg'];exact w2
 have key:∀j,0≤j->j<(all.length:Int)->Zfg l U' all j/\ZfM all j:=λj j0 j1=>by
  obtain⟨r,hr⟩:=RkX.ex (U:=U') (D:=D') fU fD Xo Xo (i:=j) j0 Xo;have ej:=at' j r j0 j1 hr
  -- what stands ahead
  have prev:0<j->j≠(U'.length:Int)->(gt all (j-1)).2.2.2.2.2.2=(gt all j).2.2.2.2.2.2->(gt all (j-1)).1<(gt all j).1:=λp0 pn pe=>by
   obtain⟨r',hr'⟩:=RkX.ex (U:=U') (D:=D') fU fD Xo Xo (i:=j - 1) Xo Xo;have ej':=at' (j-1) r' Xo Xo hr';unfold RkX at hr hr';by_cases hj:j<(U'.length:Int)
   ·rw[if_pos hj]at hr;rw[if_pos Xo]at hr';rw[ej,ej',Zki hj,Zki Xo]at pe ⊢;obtain rfl:r'=r:=pe;have:=L.c.rU.1 r' (j-1) j hr' hr Xo;rw[← (tU.2 (j-1) Xo Xo).1,← (tU.2 j Xo Xo).1]at this;exact this
   ·rw[if_neg hj]at hr;rw[if_neg Xo]at hr';rw[ej,ej',Zkd hj,Zkd Xo]at pe ⊢;obtain rfl:r'=r:=pe;have:=L.c.rU.2 r' (j-1-U'.length) (j-U'.length) hr' hr Xo;rw[← (tD.2 (j-1-U'.length) Xo Xo).1,← (tD.2 (j-U'.length) Xo Xo).1]at this;exact this
  by_cases hj:j<(U'.length:Int)
  ·rw[Zki hj]at ej;have hr2:Rk UF j r:=by unfold RkX at hr;rwa[if_pos hj]at hr
   obtain⟨h,a,b,hm,r01,_,_,hg,hneg,hpos⟩:=L.up1 hr2;have en:=g.en r r01.1 r01.2 h (.inl hm);have hy:=g.rk1 en.1.1 en.1.2;have rkr:gt R (gt l r)=r:=g.rk.2 r r01.1 Xo;rw[hg]at ej;dsimp only at ej
   have via:¬PlX all j->Kup l R UF U DF D r h a b:=λhp=>hpos (by
    refine Yga λk=>hp ?_;obtain⟨q1,q2⟩:=hneg Xo;unfold PlX;rw[ej];exact⟨q1,q2⟩)
   refine⟨⟨by rw[ej];dsimp only;omega,by rw[ej];dsimp only;omega,λk=>by have:=prev k.1 k.2.1 k.2.2.1;omega,λhp=>?_⟩,λhp=>?_,λhp=>?_⟩
   ·obtain⟨k,p1,p2,y,z,k0,k1,ra,rb,q1,q2,ea,eb,f1,f2,f3,f4,f5⟩:=via hp;obtain⟨c,d,A1,A2,A3,A4⟩:=kids ra rb q1 q2 ea eb;rw[ej];dsimp only;rw[A1,A2];dsimp only;rw[f1,f2];refine⟨Xo,Xo,Xo,?_,?_,rfl⟩
    ·show gt R y.1=r;rw[f3];exact rkr
    ·show gt R z.1=gt R h.1;rw[f4]
   ·refine Yga λkk=>?_;by_cases hv:h.2.2<0
    ·rw[ej]at kk;exact kk (en.2.2.2.2 hv)
    ·obtain⟨k,p1,p2,y,z,k0,k1,ra,rb,q1,q2,ea,eb,_⟩:=hpos Xo;have:=hp.2;rw[ej]at this;dsimp only at this;omega
   ·obtain⟨k,p1,p2,y,z,k0,k1,ra,rb,q1,q2,ea,eb,f1,f2,f3,f4,f5⟩:=via hp;obtain⟨c,d,A1,A2,A3,A4⟩:=kids ra rb q1 q2 ea eb;rw[ej];dsimp only;rw[A1,A2];dsimp only;refine⟨en.2.2.2.1,A4.1,A4.2,?_⟩;rw[f1,f2];exact f5.symm
  ·rw[Zkd hj]at ej;have hr2:Rk DF (j-U'.length) r:=by unfold RkX at hr;rwa[if_neg hj]at hr
   obtain⟨h,a,b,hm,r01,_,_,hg,hneg,hpos⟩:=L.dn1 hr2;have en:=g.en r r01.1 r01.2 h (.inr hm);have hy:=g.rk1 en.1.1 en.1.2;have rkr:gt R (gt l r)=r:=g.rk.2 r r01.1 Xo;rw[hg]at ej;dsimp only at ej
   have via:¬PlX all j->Kdn l R UF U DF D r h a b:=λhp=>hpos (by
    refine Yga λk=>hp ?_;obtain⟨q1,q2⟩:=hneg Xo;unfold PlX;rw[ej];exact⟨q1,q2⟩)
   refine⟨⟨by rw[ej];dsimp only;omega,by rw[ej];dsimp only;omega,λk=>by have:=prev k.1 k.2.1 k.2.2.1;omega,λhp=>?_⟩,λhp=>?_,λhp=>?_⟩
   ·obtain⟨k,p1,p2,y,z,k0,k1,ra,rb,q1,q2,ea,eb,f1,f2,f3,f4,f5⟩:=via hp;obtain⟨c,d,A1,A2,A3,A4⟩:=kids ra rb q1 q2 ea eb;rw[ej];dsimp only;rw[A1,A2];dsimp only;rw[f1,f2];refine⟨Xo,Xo,Xo,?_,?_,rfl⟩
    ·show gt R y.1=gt R h.1;rw[f3]
    ·show gt R z.1=r;rw[f4];exact rkr
   ·refine Yga λkk=>?_;by_cases hv:h.2.2<0
    ·rw[ej]at kk;exact kk (en.2.2.2.2 hv)
    ·obtain⟨k,p1,p2,y,z,k0,k1,ra,rb,q1,q2,ea,eb,_⟩:=hpos Xo;have:=hp.2;rw[ej]at this;dsimp only at this;omega
   ·obtain⟨k,p1,p2,y,z,k0,k1,ra,rb,q1,q2,ea,eb,f1,f2,f3,f4,f5⟩:=via hp;obtain⟨c,d,A1,A2,A3,A4⟩:=kids ra rb q1 q2 ea eb;rw[ej];dsimp only;rw[A1,A2];dsimp only;refine⟨en.2.2.2.1,A4.1,A4.2,?_⟩;rw[f1,f2];exact f5.symm
 exact⟨all,⟨Xo,Xo⟩,⟨Xo,Xo⟩,fU,fD,g.od,hX,λj j0 j1=>(key j j0 j1).1,λj j0 j1=>(key j j0 j1).2⟩
end Go.Vd


namespace Go.Vd
abbrev Rw2:=Int->Yf
abbrev Lb:=Int->Option Int
inductive Wy(row:Rw2)(s:Int):Int->Int->Prop
 | refl:Wy row s s 0
 | step (u d:Int) (a:Int×Int):Wy row s u d->a∈row u->Wy row s a.1 (d+a.2)
def Zf7(row:Rw2)(n:Int):Prop:=∀v,∀a∈row v,(0≤a.1/\a.1<n)/\0≤a.2/\a.2≤140737488355328
variable{row:Rw2}{n s u v d k x:Int}{L L':Lb}{S:List Int}{l:Yf}{a:Int×Int}
def rlx(d:Int)(L:Lb)(a:Int×Int):Lb:=λx=>if x=a.1 then some (match L x with|none=>d+a.2|some k=>min k (d+a.2)) else L x
theorem ZpH(h:L x=some k):∃m,rlx d L a x=some m/\m≤k:=by
 unfold rlx;by_cases e:x=a.1
 ·rw[if_pos e,h];exact⟨_,rfl,Int.min_le_left _ _⟩
 ·rw[if_neg e];exact⟨k,h,YO _⟩
theorem ZoN(h:rlx d L a x=some k):L x=some k∨(a.1=x/\k=d+a.2):=by
 unfold rlx at h;by_cases e:x=a.1
 ·rw[if_pos e]at h;cases hx:L x with
  | none=>rw[hx]at h;cases h;exact .inr ⟨e.symm,rfl⟩
  | some j =>
   rw[hx]at h;dsimp only at h;cases h
   rcases Int.le_total j (d+a.2) with q|q
   ·rw[Int.min_eq_left q];exact .inl rfl
   ·rw[Int.min_eq_right q];exact .inr ⟨e.symm,rfl⟩
 ·rw[if_neg e]at h;exact .inl h
theorem ZpF:∃m,rlx d L a a.1=some m/\m≤d+a.2:=by
 unfold rlx;rw[if_pos rfl];refine⟨_,rfl,?_⟩;split <;> omega
theorem ZnO(h:L x=some k)(hk:k≤d+a.2):rlx d L a x=some k:=by
 unfold rlx;by_cases e:x=a.1
 ·rw[if_pos e,h];dsimp only;rw[Int.min_eq_left hk]
 ·rw[if_neg e];exact h
theorem Zob:∀{l:Yf} {L:Lb} {k:Int},L x=some k->∃m,l.foldl (rlx d) L x=some m/\m≤k:=by
 intro l;induction l with
 | nil=>intro L k h;exact⟨k,h,YO _⟩
 | cons a l ih =>
  intro L k h;obtain⟨m,h1,h2⟩:=ZpH (a:=a) (d:=d) h;obtain⟨m',h3,h4⟩:=ih h1;exact⟨m',h3,Xo⟩
theorem ZiR:∀{l:Yf} {L:Lb},l.foldl (rlx d) L x=some k->L x=some k∨∃a∈l,a.1=x/\k=d+a.2:=by
 intro l;induction l with
 | nil=>intro L h;exact .inl h
 | cons a l ih =>
  intro L h;rcases ih h with q|⟨b,hb,e⟩
  ·rcases ZoN q with q|q
   ·exact .inl q
   ·exact .inr ⟨a,Xs,q⟩
  ·exact .inr ⟨b,by simp[hb],e⟩
theorem Znr:∀{l:Yf} {L:Lb},a∈l->∃m,l.foldl (rlx d) L a.1=some m/\m≤d+a.2:=by
 intro l;induction l with
 | nil=>intro L h;cases h
 | cons b l ih =>
  intro L h;rcases List.mem_cons.1 h with rfl|h
  ·obtain⟨m,h1,h2⟩:=ZpF (d:=d) (L:=L) (a:=a);obtain⟨m',h3,h4⟩:=Zob (d:=d) (l:=l) h1;exact⟨m',h3,Xo⟩
  ·exact ih h
theorem Zgn:∀{l:Yf} {L:Lb},(∀a∈l,0≤a.2)->L x=some k->k≤d->l.foldl (rlx d) L x=some k:=by
 intro l;induction l with
 | nil=>intro L _ h _;exact h
 | cons a l ih =>
  intro L hl h hk;have:=hl a Xs;exact ih (λb hb=>hl b (by simp[hb])) (ZnO h Xo) hk
structure DjI(row:Rw2)(n s:Int)(S:List Int)(L:Lb):Prop where
 nd:S.Nodup
 sr:∀u∈S,0≤u/\u<n
 rng:∀x k,L x=some k->(0≤x/\x<n)/\0≤k/\k≤(S.length:Int)*140737488355328
 src:L s=some 0
 way:∀x k,L x=some k->Wy row s x k
 sd:∀u∈S,∃k,L u=some k
 lim:∀u k x k',u∈S->L u=some k->x∉S->L x=some k'->k≤k'
 arc:∀u k a,u∈S->L u=some k->a∈row u->∃m,L a.1=some m/\m≤k+a.2
 pre:∀x k,L x=some k->x=s∨∃u∈S,∃ku a,L u=some ku/\a∈row u/\a.1=x/\k=ku+a.2
theorem DjI.start(s0:0≤s)(s1:s<n):DjI row n s [] (λx=>if x=s then some 0 else none):=by
 refine⟨List.nodup_nil,λ_ h=>(nomatch h),λx k h=>?_,if_pos rfl,λx k h=>?_,λ_ h=>(nomatch h),λ_ _ _ _ h=>(nomatch h),λ_ _ _ h=>(nomatch h),λx k h=>?_⟩
 ·by_cases e:x=s
  ·rw[if_pos e]at h;cases h;exact⟨⟨Xo,Xo⟩,Xo,Xs⟩
  ·rw[if_neg e]at h;cases h
 ·by_cases e:x=s
  ·rw[if_pos e]at h;cases h;subst e;exact .refl
  ·rw[if_neg e]at h;cases h
 ·by_cases e:x=s
  ·exact .inl e
  ·rw[if_neg e]at h;cases h
theorem DjI.low(D:DjI row n s S L)(hv:v∉S)(hd:L v=some d){u k:Int}(hu:u∈S)(hk:L u=some k):k≤d:=D.lim u k v d hu hk hv hd
theorem DjI.step(D:DjI row n s S L)(hr:Zf7 row n)(hv:v∉S)(hd:L v=some d)(hm:∀x k,x∉S->L x=some k->d≤k):DjI row n s (v::S) ((row v).foldl (rlx d) L):=by
 have h0:∀a∈row v,0≤a.2:=λa ha=>(hr v a ha).2.1;obtain⟨vr,d0,d1⟩:=D.rng v d hd;have kv:(row v).foldl (rlx d) L v=some d:=Zgn h0 hd (YO _)
 have kS:∀u∈S,∃k,L u=some k/\k≤d/\(row v).foldl (rlx d) L u=some k:=λu hu=>by
  obtain⟨k,hk⟩:=D.sd u hu;exact⟨k,hk,D.low hv hd hu hk,Zgn h0 hk (D.low hv hd hu hk)⟩
 refine⟨List.nodup_cons.2 ⟨hv,D.nd⟩,λu hu=>?_,λx k h=>?_,?_,λx k h=>?_,λu hu=>?_,λu k x k' hu hk hx hk'=>?_,λu k a hu hk ha=>?_,λx k h=>?_⟩
 ·rcases List.mem_cons.1 hu with rfl|hu
  ·exact vr
  ·exact D.sr u hu
 ·simp only[Yp];rcases ZiR h with h|⟨a,ha,rfl,rfl⟩
  ·obtain⟨q1,q2,q3⟩:=D.rng x k h;exact⟨q1,q2,Xo⟩
  ·obtain⟨q1,q2,q3⟩:=hr v a ha;exact⟨q1,Xo,Xo⟩
 ·exact Zgn h0 D.src d0
 ·rcases ZiR h with h|⟨a,ha,rfl,rfl⟩
  ·exact D.way x k h
  ·exact .step v d a (D.way v d hd) ha
 ·rcases List.mem_cons.1 hu with rfl|hu
  ·exact⟨d,kv⟩
  ·obtain⟨k,_,_,h⟩:=kS u hu;exact⟨k,h⟩
 ·have hkd:k≤d:=by
   rcases List.mem_cons.1 hu with rfl|hu
   ·rw[kv]at hk;cases hk;exact YO _
   ·obtain⟨k1,_,h2,h3⟩:=kS u hu;rw[h3]at hk;cases hk;exact h2
  rcases ZiR hk' with h|⟨a,ha,_,rfl⟩
  ·have:=hm x k' (λq=>hx (by simp[q])) h;omega
  ·have:=h0 a ha;omega
 ·rcases List.mem_cons.1 hu with rfl|hu
  ·rw[kv]at hk;cases hk;exact Znr ha
  ·obtain⟨k1,h1,h2,h3⟩:=kS u hu;rw[h3]at hk;cases hk;obtain⟨m,g1,g2⟩:=D.arc u k a hu h1 ha;obtain⟨m',g3,g4⟩:=Zob (d:=d) (l:=row v) g1;exact⟨m',g3,Xo⟩
 ·rcases ZiR h with h|⟨a,ha,rfl,rfl⟩
  ·rcases D.pre x k h with e|⟨u,hu,ku,a,q1,q2,q3,q4⟩
   ·exact .inl e
   ·obtain⟨k1,h1,_,h3⟩:=kS u hu;rw[q1]at h1;cases h1;exact .inr ⟨u,by simp[hu],ku,a,h3,q2,q3,q4⟩
  ·exact .inr ⟨v,Xs,d,a,kv,ha,rfl,rfl⟩
structure DjF(row:Rw2)(n s:Int)(L:Lb):Prop where
 rng:∀x k,L x=some k->(0≤x/\x<n)/\0≤k/\k≤n*140737488355328
 src:L s=some 0
 way:∀x k,L x=some k->Wy row s x k
 arc:∀u k a,L u=some k->a∈row u->∃m,L a.1=some m/\m≤k+a.2
 pre:∀x k,L x=some k->x=s∨∃u,∃ku a,L u=some ku/\a∈row u/\a.1=x/\k=ku+a.2
theorem DjI.len(D:DjI row n s S L)(n0:0≤n):(S.length:Int)≤n:=by
 have:=ZfG (N:=n.toNat) D.nd λx hx=>by have:=D.sr x hx;omega
 omega
theorem DjI.fin(D:DjI row n s S L)(n0:0≤n)(h:∀x k,L x=some k->x∈S):DjF row n s L:=by
 have hl:=D.len n0;refine⟨λx k e=>?_,D.src,D.way,λu k a hu ha=>D.arc u k a (h u k hu) hu ha,λx k e=>?_⟩
 ·obtain⟨q1,q2,q3⟩:=D.rng x k e;exact⟨q1,q2,Xo⟩
 ·rcases D.pre x k e with q|⟨u,_,q⟩
  ·exact .inl q
  ·exact .inr ⟨u,q⟩
theorem DjF.low(D:DjF row n s L)(h:Wy row s x d):∃k,L x=some k/\k≤d:=by
 induction h with
 | refl=>exact⟨0,D.src,YO _⟩
 | step u e a _ ha ih =>
  obtain⟨k,h1,h2⟩:=ih;obtain⟨m,h3,h4⟩:=D.arc u k a h1 ha;exact⟨m,h3,Xo⟩
end Go.Vd


namespace Go.Vd
def Lk(up dn:Rw2)(u x w:Int):Prop:=(x,w)∈up u∨(u,w)∈dn x
inductive Wb(up dn:Rw2)(k:Int)(u:Int):Int->Int->Prop
 | refl:k≤u->Wb up dn k u u 0
 | step (x d y w:Int):Wb up dn k u x d->Lk up dn x y w->k≤y->Wb up dn k u y (d+w)
def Rs(row:Rw2):Prop:=∀r,∀a∈row r,r<a.1
variable{up dn:Rw2}{n k u v w d e r x y:Int}
theorem Wb.cat{e:Int}(h:Wb up dn k u x d)(g:Wb up dn k x y e):Wb up dn k u y (d+e):=by
 induction g with
 | refl=>simpa using h
 | step x' e' y' w' _ hl hy ih=>rw[← Int.add_assoc];exact .step _ _ _ _ ih hl hy
theorem Wb.ge(h:Wb up dn k u x d):k≤x/\k≤u:=by
 induction h with
 | refl h=>exact⟨h,h⟩
 | step x d y w _ _ hy ih=>exact⟨hy,ih.2⟩
def Tru(up dn:Rw2)(r:Int):Prop:=∀a∈dn r,∀b∈up r,a.1≠b.1->∃e,Wb up dn (r+1) a.1 b.1 e/\e≤a.2+b.2
end Go.Vd


namespace Go.Vd
variable{N UF DF:List Int}{U D:List B4}{i u v w d e r:Int}{all:List E7}{m:Nat}{l:List Int}
def rkE(x:E7):Int:=x.2.2.2.2.2.2
def wtE(x:E7):Int:=x.2.1
theorem InF.at1(h:InF N UF U DF D all)(i0:0≤i)(i1:i<(all.length:Int)):0≤rkE (gt all i)/\rkE (gt all i)<(gt all i).1/\(gt all i).1<(N.length:Int)/\RkX UF DF U i (rkE (gt all i))/\((i<(U.length:Int)/\tlE (gt all i)=rkE (gt all i)/\hdE (gt all i)=(gt all i).1)∨((U.length:Int)≤i/\tlE (gt all i)=(gt all i).1/\hdE (gt all i)=rkE (gt all i))):=by
 obtain⟨r,a1,a2,a3,a4,a5⟩:=h.ends i0 i1;have e:=h.rank i0 i1 a1;have er:rkE (gt all i)=r:=by rw[e];rfl
 rw[er];exact⟨a2,a3,a4,a1,a5⟩
theorem InF.wr(h:InF N UF U DF D all)(hU:WL U)(hD:WL D)(i0:0≤i)(i1:i<(all.length:Int)):0≤wtE (gt all i)/\wtE (gt all i)≤140737488355328:=by
 have q:=(h.X.s h.ln.1 h.ln.2).rng hU hD i0 i1;obtain⟨w1,w2⟩:=h.wg i i0 i1;unfold wtE;by_cases hp:PlX all i
 ·have:=w1 hp;omega
 ·have:=w2 hp;omega
inductive Ch(all:List E7):List Int->Int->Int->Int->Prop
 | nil (u:Int):Ch all [] u u 0
 | cons (i v d:Int) (l:List Int):0≤i->i<(all.length:Int)->Ch all l (hdE (gt all i)) v d->Ch all (i::l) (tlE (gt all i)) v (wtE (gt all i)+d)
end Go.Vd


namespace Go.Vd
variable{R:Int->Int->Int->Prop}
inductive SW(R:Int->Int->Int->Prop)(l:List Int):Int->Int->Prop
 | zero:SW R l 0 0
 | step (k s x:Int):0≤k->SW R l k s->R (gt l k) (gt l (k+1)) x->SW R l (k+1) (s+x)
end Go.Vd


namespace Go.Vd
variable{N UF DF:List Int}{U D:List B4}{i u v w d e r:Int}{all:List E7}{m:Nat}{l P:List Int}{L:List A3}
def hds(N:List Int)(all:List E7)(l:List Int):List Int:=l.map λi=>gt N (hdE (gt all i))
end Go.Vd


namespace Go.Vd
variable{N UF DF F:List Int}{U D B:List B4}{i u v w d e r:Int}{all:List E7}{m:Nat}{l P:List Int}{L:List A3}{a:Int×Int}
def rwH(F:List Int)(B:List B4):Rw2:=λr=>if 0≤r/\r<(F.length:Int)-1 then ((B.take (gt F (r+1)).toNat).drop (gt F r).toNat).map (λb=>(b.1,b.2.1)) else []
theorem Zif(f:Fst F (B.length:Int)):a∈rwH F B r↔∃i,Rk F i r/\0≤i/\i<(B.length:Int)/\a=((gt B i).1,(gt B i).2.1):=by
 unfold rwH Rk;by_cases hr:0≤r/\r<(F.length:Int)-1
 ·have a0:=f.le (a:=0) (b:=r) Xo hr.1 Xo;have a1:=f.le (a:=r) (b:=r+1) hr.1 Xo Xo;have a2:=f.le (a:=r+1) (b:=(F.length:Int)-1) Xo Xo Xo;rw[f.z]at a0;rw[f.e]at a2;have ln:=ZhI (L:=B) a0 a1 a2;rw[if_pos hr];constructor
  ·intro h;obtain⟨b,hb,rfl⟩:=List.mem_map.1 h;obtain⟨j,j0,j1,rfl⟩:=Zas hb;refine⟨gt F r+j,⟨hr.1,hr.2,Xo,Xo⟩,Xo,Xo,?_⟩;rw[Zi8 a0 j0 Xo a2]
  ·rintro⟨i,⟨_,_,i1,i2⟩,i3,i4,rfl⟩;refine List.mem_map.2 ⟨gt B i,?_,rfl⟩;have:=Zi8 (L:=B) (a:=gt F r) (b:=gt F (r+1)) (j:=i-gt F r) a0 Xo Xo a2;rw[show gt F r+(i-gt F r)=i from Xo]at this;rw[← this];exact ZbU Xo Xo
 ·rw[if_neg hr];constructor
  ·intro h;cases h
  ·rintro⟨i,⟨h1,h2,_⟩,_⟩;exact absurd ⟨h1,h2⟩ hr
theorem InF.upL(h:InF N UF U DF D all):a∈rwH UF U r↔∃i,0≤i/\i<(all.length:Int)/\i<(U.length:Int)/\rkE (gt all i)=r/\tlE (gt all i)=r/\hdE (gt all i)=a.1/\(gt all i).1=a.1/\wtE (gt all i)=a.2:=by
 have hl:=h.X.len;rw[Zif h.fU];constructor
 ·rintro⟨i,k,i0,i1,rfl⟩;have e:=h.rank (r:=r) i0 Xo (by unfold RkX;rw[if_pos i1];exact k);refine⟨i,i0,Xo,i1,?_⟩;rw[e];unfold rkE tlE hdE wtE e7 lnk;simp only[if_pos i1,and_self]
 ·rintro⟨i,i0,i1,i2,e1,e2,e3,e4,e5⟩;obtain⟨b1,b2,b3,b4,b5⟩:=h.at1 i0 i1;have e:=h.rank i0 i1 b4;rw[e1]at b4;unfold RkX at b4;rw[if_pos i2]at b4;refine⟨i,b4,i0,i2,?_⟩;rw[e]at e4 e5;unfold wtE e7 lnk at e5;unfold e7 lnk at e4;simp only[if_pos i2]at e4 e5;rw[e4,e5]
theorem InF.dnL(h:InF N UF U DF D all):a∈rwH DF D r↔∃i,0≤i/\i<(all.length:Int)/\(U.length:Int)≤i/\rkE (gt all i)=r/\hdE (gt all i)=r/\tlE (gt all i)=a.1/\(gt all i).1=a.1/\wtE (gt all i)=a.2:=by
 have hl:=h.X.len;rw[Zif h.fD];constructor
 ·rintro⟨i,k,i0,i1,rfl⟩;have hi:¬(U.length:Int)+i<(U.length:Int):=Xo;have es:(U.length:Int)+i-U.length=i:=Xo;have e:=h.rank (i:=(U.length:Int)+i) (r:=r) Xo Xo (by unfold RkX;rw[if_neg hi,es];exact k);refine⟨(U.length:Int)+i,Xo,Xo,Xo,?_⟩;rw[e];unfold rkE tlE hdE wtE e7 lnk;simp only[if_neg hi,es,and_self]
 ·rintro⟨i,i0,i1,i2,e1,e2,e3,e4,e5⟩;obtain⟨b1,b2,b3,b4,b5⟩:=h.at1 i0 i1;have hi:¬i<(U.length:Int):=Xo;have e:=h.rank i0 i1 b4;rw[e1]at b4;unfold RkX at b4;rw[if_neg hi]at b4;refine⟨i-U.length,b4,Xo,Xo,?_⟩;rw[e]at e4 e5;unfold wtE e7 lnk at e5;unfold e7 lnk at e4;simp only[if_neg hi]at e4 e5;rw[e4,e5]
theorem InF.upOk(h:InF N UF U DF D all)(hU:WL U)(hD:WL D):Zf7 (rwH UF U) N.length/\Rs (rwH UF U):=by
 refine⟨λr a ha=>?_,λr a ha=>?_⟩ <;> obtain⟨i,i0,i1,i2,e1,e2,e3,e4,e5⟩:=h.upL.1 ha <;> obtain⟨b1,b2,b3,b4,b5⟩:=h.at1 i0 i1 <;> have hw:=h.wr hU hD i0 i1
 ·omega
 ·omega
theorem InF.dnOk(h:InF N UF U DF D all)(hU:WL U)(hD:WL D):Zf7 (rwH DF D) N.length/\Rs (rwH DF D):=by
 refine⟨λr a ha=>?_,λr a ha=>?_⟩ <;> obtain⟨i,i0,i1,i2,e1,e2,e3,e4,e5⟩:=h.dnL.1 ha <;> obtain⟨b1,b2,b3,b4,b5⟩:=h.at1 i0 i1 <;> have hw:=h.wr hU hD i0 i1
 ·omega
 ·omega
end Go.Vd


namespace Go.Vd
variable{l R UF DF:List Int}{U D U' D':List B4}{n x y r i p q m t h s d w u:Int}{M:List OAr}{N:Nat}{up dn:Rw2}
structure Alc(M:List OAr)(l R:List Int)(h s:Int)(N:Nat):Prop where
 hN:N≤9
 hl:l.length=N
 o:ZcY l
 hR:RkN l R
 hov:∀k:Nat,k≤N->∃nd al ar,OvR nd al ar (alA N l k) (alM M l h s k)
 h0:∀a∈M,a.2.2.1≤2147483647
 hv:∀a∈M,a.2.2.2=-1
 hs:s≤9223372036854775807
theorem Alc.gn(A:Alc M l R h s N):Gn l R (upG M l h s) (dnG M l h s) N:=Zog A.hN A.hl A.o A.hR A.hov A.h0 A.hv
structure RowG(M:List OAr)(l R:List Int)(h s:Int)(N:Nat)(up dn:Rw2):Prop where
 up:∀r a,a∈up r↔(0≤r/\r<(N:Int))/\∃b∈upG M l h s r,a=(gt R b.1,b.2.1)
 dn:∀r a,a∈dn r↔(0≤r/\r<(N:Int))/\∃b∈dnG M l h s r,a=(gt R b.1,b.2.1)
theorem Laid.rowU(L:Laid l R (upG M l h s) (dnG M l h s) N UF U U' DF D D'):RowG M l R h s N (rwH UF U') (rwH DF D'):=by
 obtain⟨e1,e2⟩:=L.len;obtain⟨tU,tD⟩:=L.tos;refine⟨λr a=>?_,λr a=>?_⟩
 ·rw[Zif (by rw[e1];exact L.c.hU.fst)];constructor
  ·rintro⟨i,k,i0,i1,rfl⟩;obtain⟨b,_,_,hb,hr,_,hg,_⟩:=L.up1 k;rw[(tU.2 i i0 Xo).1,(tU.2 i i0 Xo).2,hg];exact⟨hr,b,hb,rfl⟩
  ·rintro⟨hr,b,hb,rfl⟩;obtain⟨p,k,p0,hp⟩:=L.c.hU.find hr.1 hr.2 hb;refine⟨p,k,p0.1,Xo,?_⟩;rw[(tU.2 p p0.1 p0.2).1,(tU.2 p p0.1 p0.2).2,hp];rfl
 ·rw[Zif (by rw[e2];exact L.c.hD.fst)];constructor
  ·rintro⟨i,k,i0,i1,rfl⟩;obtain⟨b,_,_,hb,hr,_,hg,_⟩:=L.dn1 k;rw[(tD.2 i i0 Xo).1,(tD.2 i i0 Xo).2,hg];exact⟨hr,b,hb,rfl⟩
  ·rintro⟨hr,b,hb,rfl⟩;obtain⟨p,k,p0,hp⟩:=L.c.hD.find hr.1 hr.2 hb;refine⟨p,k,p0.1,Xo,?_⟩;rw[(tD.2 p p0.1 p0.2).1,(tD.2 p p0.1 p0.2).2,hp];rfl
theorem Alc.lk(A:Alc M l R h s N)(W:RowG M l R h s N up dn){i:Nat}(hi:i≤N)(hm:(x,y,w)∈a3 (alM M l h s i)):∃t,t≤w/\Lk up dn (gt R x) (gt R y) t/\(i:Int)≤gt R x/\(i:Int)≤gt R y:=by
 obtain⟨a,ha,rfl,rfl,rfl⟩:=ZcM.1 hm;obtain⟨nd,al,ar,hO⟩:=A.hov i hi;have en:=hO.en a ha;rw[ZdJ]at en;have hl:=A.hl
 have rr:∀x:Int,0≤x->x<N->gt (alA N l i) x=true->(i:Int)≤gt R x/\gt R x<N/\gt l (gt R x)=x:=λx x0 x1 hx=>by
  have h1:=(Zjg A.o hl x0 x1 hi).1 hx;have h2:=A.hR.at A.o x0 Xo;refine⟨Yga λk=>h1 (gt R x) h2.1 Xo h2.2.2,Xo,h2.2.2⟩
 obtain⟨p1,p2,p3⟩:=rr _ en.1 en.2.1 en.2.2.2.2.1;obtain⟨q1,q2,q3⟩:=rr _ en.2.2.1 en.2.2.2.1 en.2.2.2.2.2.1;have ne:gt R a.1≠gt R a.2.1:=λe=>en.2.2.2.2.2.2.1 (by rw[← p3,← q3,e]);have inj:∀k j:Int,0≤k->k<N->0≤j->j<N->gt l k=gt l j->k=j:=λk j k0 k1 j0 j1 e=>A.o.2 k j k0 Xo j0 Xo e
 have keep:∀k:Int,(i:Int)≤k->k≤gt R a.1->k≤gt R a.2.1->Has3 (alM M l h s k.toNat) a.1 a.2.1 a.2.2.1:=λk k0 k1 k2=>by
  refine Zov (i:=i) Xo (λj j0 j1 e=>?_) (λj j0 j1 e=>?_) ⟨a,ha,rfl,rfl,YO _⟩
  ·have:=inj j (gt R a.1) Xo Xo Xo Xo (by rw[e,p3]);omega
  ·have:=inj j (gt R a.2.1) Xo Xo Xo Xo (by rw[e,q3]);omega
 by_cases hlt:gt R a.1<gt R a.2.1
 ·obtain⟨b,hb,e1,e2,e3⟩:=keep (gt R a.1) p1 Xo Xo;obtain⟨nd',al',ar',hO'⟩:=A.hov (gt R a.1).toNat Xo;refine⟨b.2.2.1,e3,.inl ((W.up _ _).2 ⟨⟨Xo,p2⟩,b.2,?_,by rw[e2]⟩),p1,q1⟩;unfold upG;rw[p3];refine (Z2 hO'.kd).2 ?_;have:(a.1,b.2)=b:=Prod.ext e1.symm rfl;rw[this];exact hb
 ·obtain⟨b,hb,e1,e2,e3⟩:=keep (gt R a.2.1) q1 Xo Xo;obtain⟨nd',al',ar',hO'⟩:=A.hov (gt R a.2.1).toNat Xo;refine⟨b.2.2.1,e3,.inr ((W.dn _ _).2 ⟨⟨Xo,q2⟩,(b.1,b.2.2),?_,by rw[e1]⟩),p1,q1⟩;unfold dnG;rw[q3];refine (Zay hO'.kd).2 ?_;have:((b.1,b.2.2).1,a.2.1,(b.1,b.2.2).2)=b:=Prod.ext rfl (Prod.ext e2.symm rfl);rw[this];exact hb
theorem Alc.wb(A:Alc M l R h s N)(W:RowG M l R h s N up dn){i:Nat}(hi:i≤N)(hx:(i:Int)≤gt R x)(k:Wk (a3 (alM M l h s i)) x y d):∃e,Wb up dn i (gt R x) (gt R y) e/\e≤d:=by
 induction k with
 | refl=>exact⟨0,.refl hx,YO _⟩
 | step p e q t _ hm ih =>
  obtain⟨f,f1,f2⟩:=ih;obtain⟨t',t1,t2,t3,t4⟩:=A.lk W hi hm;exact⟨f+t',.step _ _ _ _ f1 t2 t4,Xo⟩
theorem Alc.tru(A:Alc M l R h s N)(W:RowG M l R h s N up dn)(r:Int):Tru up dn r:=by
 intro a ha b hb hne;obtain⟨⟨r0,r1⟩,p,hp,rfl⟩:=(W.dn _ _).1 ha;obtain⟨_,q,hq,rfl⟩:=(W.up _ _).1 hb;dsimp only at hne ⊢;obtain⟨nd,al,ar,hO⟩:=A.hov r.toNat Xo;have er:((r.toNat:Nat):Int)=r:=Xo;have g:=A.gn;have ep:=g.en r r0 r1 p (.inr hp);have eq:=g.en r r0 r1 q (.inl hq);have hl:=A.hl;have rkr:gt R (gt l r)=r:=A.hR.2 r r0 Xo;have m1:=(Zay hO.kd).1 hp;have m2:=(Z2 hO.kd).1 hq;have k:Wk (a3 (alM M l h s r.toNat)) p.1 q.1 (p.2.1+q.2.1):=(Wk.one (ZcM.2 ⟨_,m1,rfl,rfl,rfl⟩)).cat (.one (ZcM.2 ⟨_,m2,rfl,rfl,rfl⟩));obtain⟨e,e1,e2⟩:=(Zpz (v:=gt l r) hO A.hs (al_w9 A.hN A.hov A.h0 Xo) (λe=>by rw[e,rkr]at ep;omega) k).1 (λe=>by rw[e,rkr]at eq;omega)
 have e1':Wk (a3 (alM M l h s (r.toNat+1))) p.1 q.1 e:=by
  show Wk (a3 (ZeL (alM M l h s r.toNat) (gt l ((r.toNat:Nat):Int)) h s)) p.1 q.1 e;rw[er];exact e1
 obtain⟨f,f1,f2⟩:=A.wb W (i:=r.toNat+1) Xo Xo e1';refine⟨f,?_,Xo⟩;rw[show ((r.toNat+1:Nat):Int)=r+1 from Xo]at f1;exact f1
theorem Alc.wk(A:Alc M l R h s N)(W:RowG M l R h s N up dn)(k:Wb up dn 0 u x d):Wk (a3 M) (gt l u) (gt l x) d:=by
 have g:=A.gn;induction k with
 | refl=>exact .refl _
 | step x d y w _ hl _ ih =>
  refine ih.cat ?_;rcases hl with hl|hl
  ·obtain⟨⟨r0,r1⟩,b,hb,e⟩:=(W.up _ _).1 hl;obtain⟨rfl,rfl⟩:=Prod.mk.inj e;obtain⟨nd,al,ar,hO⟩:=A.hov x.toNat Xo;have en:=g.en x r0 r1 b (.inl hb);rw[(g.rk1 en.1.1 en.1.2).2.2];exact ZlN A.hov Xo (.one (ZcM.2 ⟨_,(Z2 hO.kd).1 hb,rfl,rfl,rfl⟩))
  ·obtain⟨⟨r0,r1⟩,b,hb,e⟩:=(W.dn _ _).1 hl;obtain⟨rfl,rfl⟩:=Prod.mk.inj e;obtain⟨nd,al,ar,hO⟩:=A.hov y.toNat Xo;have en:=g.en y r0 r1 b (.inr hb);rw[(g.rk1 en.1.1 en.1.2).2.2];exact ZlN A.hov Xo (.one (ZcM.2 ⟨_,(Zay hO.kd).1 hb,rfl,rfl,rfl⟩))
end Go.Vd


namespace Go.Vd
variable{l R UF DF list:List Int}{U D U' D':List B4}{up dn:Int->List Hf}{n x r i p q m t Hops Settles x1 x2 x3:Int}{N:Nat}{Arcs:List A3}
theorem Laid.w32(L:Laid l R up dn n UF U U' DF D D'):W32 l/\W32 UF/\WL U'/\W32 DF/\WL D':=by
 have g:=L.c.g;have n9:=g.n9;have hn:=g.ln;have lU:=L.c.lU;have lD:=L.c.lD;have fl:=L.c.hU.fl;have fl2:=L.c.hD.fl;obtain⟨e1,e2⟩:=L.len;refine⟨λx hx=>?_,λx hx=>?_,λx hx=>?_,λx hx=>?_,λx hx=>?_⟩
 ·obtain⟨j,j0,j1,rfl⟩:=Zas hx;have:=g.od.1 j j0 j1;omega
 ·obtain⟨j,j0,j1,rfl⟩:=Zas hx;have:=L.c.hU.nn j0 Xo;omega
 ·obtain⟨j,j0,j1,rfl⟩:=Zas hx;obtain⟨r,hr⟩:=L.c.hU.fst.rk (i:=j) j0 Xo Xo;obtain⟨h,a,b,hm,r01,_,_,hg,hneg,hpos⟩:=L.up1 hr;have en:=g.en r r01.1 r01.2 h (.inl hm);have hy:=g.rk1 en.1.1 en.1.2;rw[hg];refine⟨by dsimp only;omega,by dsimp only;omega,?_⟩;dsimp only;by_cases hv:h.2.2<0
  ·have:=hneg hv;omega
  ·obtain⟨k,p1,p2,y,z,k0,k1,ra,rb,q1,q2,ea,eb,_⟩:=hpos Xo;omega
 ·obtain⟨j,j0,j1,rfl⟩:=Zas hx;have:=L.c.hD.nn j0 Xo;omega
 ·obtain⟨j,j0,j1,rfl⟩:=Zas hx;obtain⟨r,hr⟩:=L.c.hD.fst.rk (i:=j) j0 Xo Xo;obtain⟨h,a,b,hm,r01,_,_,hg,hneg,hpos⟩:=L.dn1 hr;have en:=g.en r r01.1 r01.2 h (.inr hm);have hy:=g.rk1 en.1.1 en.1.2;rw[hg];refine⟨by dsimp only;omega,by dsimp only;omega,?_⟩;dsimp only;by_cases hv:h.2.2<0
  ·have:=hneg hv;omega
  ·obtain⟨k,p1,p2,y,z,k0,k1,ra,rb,q1,q2,ea,eb,_⟩:=hpos Xo;omega
theorem InF.check{N UF DF:List Int}{U D:List B4}{all:List E7}(F:InF N UF U DF D all)(hN:W32 N)(hUF:W32 UF)(hU:WL U)(hDF:W32 DF)(hD:WL D):Zbp N UF U DF D=some .nil:=by
 obtain⟨n1,m1⟩:=F.sm;obtain⟨⟨all',er⟩,e,hA,_⟩:=ZoI hN hUF hU hDF hD Xo Xo Xo;have:=hA.uniq (.lnk .nil all F.sm F.ln F.fU F.fD F.od F.X (.ok λj j0 j1=>⟨F.sh j j0 j1,F.wg j j0 j1⟩));dsimp only at this;subst this;unfold Zbp;rw[e];rfl
theorem Zoz(hc:GChk N Arcs .nil):T (Zec N Arcs Hops Settles x1 x2 x3) λy=>∃M nd,Nrm Arcs M/\OvR nd N (M.length:Int) (Ym N true) (M.map up4)/\(y.1=max 0 (min Hops 1048576)/\y.2.1=max 0 (min Settles 1048576))/\y.2.2.2.2.2.1=nd/\y.2.2.2.2.2.2.1=N/\y.2.2.2.2.2.2.2=M.length:=by
 unfold Zec;refine Zo _ Zoa ?_;intro r hr;cases hr with
 | bad er h hne=>exact absurd (h.uniq hc) hne
 | ok M nd _ hM hMl hO =>
  simp only[Yq];unfold Ze9 Zb4;simp only[Yk,Zd];refine⟨M,nd,hM,by simpa using hO,⟨?_,?_⟩,?_,?_,?_⟩ <;> first|trivial|rfl
structure Alg(N:Nat)(Arcs:List A3)(l:List Int)(h s:Int)(UF:List Int)(U':List B4)(DF:List Int)(D':List B4):Prop where
 ex:∃M nd R U D,Nrm Arcs M/\OvR nd N (M.length:Int) (Ym N true) (M.map up4)/\Alc (M.map up4) l R (bnd h) (bnd s) N/\Laid l R (upG (M.map up4) l (bnd h) (bnd s)) (dnG (M.map up4) l (bnd h) (bnd s)) N UF U U' DF D D'
theorem Zk0(hc:GChk N Arcs .nil)(hN:N≤9)(hl:list.length≤1000000):T (ZcJ N Arcs list Hops Settles x1 x2 x3) λr=>(r.2.2.2.2.2≠.nil/\r.1=[]/\T (Zb2 list N) λer=>er=r.2.2.2.2.2)∨(r.2.2.2.2.2=.nil/\r.1=list/\Alg N Arcs list Hops Settles r.2.1 r.2.2.1 r.2.2.2.1 r.2.2.2.2.1):=by
 unfold ZcJ;refine Zo _ (Zoz hc) ?_;rintro y ⟨M,nd,hM,hO,⟨ey1,ey2⟩,ey3,ey4,ey5⟩;obtain⟨er,e1,e2⟩:=Zmb (l:=list) (n:=(N:Int)) hl;rw[e1,Yk,Zr];refine⟨λq=>?_,λq=>Zd.2 (.inl ⟨q,rfl,er,rfl,rfl⟩)⟩;obtain⟨o,ol⟩:=e2 q;rw[ey3,ey4,ey5];refine Zbi (λo=>∃nd al ar k,o=(nd,al,ar,alG (M.map up4) list (bnd y.1) (bnd y.2.1) N,k)) (ZmF (Zn2 (y69:=y) hO o Xo hN) ?_) ?_
 ·rintro r ⟨nd,al,ar,k,rfl⟩;exact⟨nd,al,ar,k,rfl⟩
 rintro _ ⟨nd',al,ar,k,rfl⟩;dsimp only
 have hw:∀a∈M.map up4,a.2.2.1≤2147483647:=λa ha=>by
  obtain⟨b,hb,rfl⟩:=List.mem_map.1 ha;exact (hc.arcs b (hM.sub b hb).1).2.2.2.2.2
 have hv:∀a∈M.map up4,a.2.2.2=-1:=λa ha=>by
  obtain⟨b,hb,rfl⟩:=List.mem_map.1 ha;rfl
 have hb1:bnd y.1=bnd Hops:=by rw[ey1,ZjJ]
 have hb2:bnd y.2.1=bnd Settles:=by rw[ey2,ZjJ]
 rw[hb1,hb2];have hov:∀k:Nat,k≤N->∃nd al ar,OvR nd al ar (alA N list k) (alM (M.map up4) list (bnd Hops) (bnd Settles) k):=λk hk=>al_ov hO o Xo Xo hk;have hbs:bnd Settles≤9223372036854775807:=by unfold bnd;omega
 refine Zo _ (p_lay (n:=(N:Int)) (up:=upG (M.map up4) list (bnd Hops) (bnd Settles)) (dn:=dnG (M.map up4) list (bnd Hops) (bnd Settles)) o (λR hR=>Zog hN Xo o hR hov hw hv) (by rw[ZlO];omega) (λr r0 r1=>Zpx r0 r1) Xo Xo) ?_;rintro r ⟨h1,R,U,D,hL⟩;simp only[Zd];refine .inr ⟨trivial,h1,⟨M,nd,R,U,D,hM,hO,⟨hN,Xo,o,hL.c.g.rk,hov,hw,hv,hbs⟩,hL⟩⟩
end Go.Vd


namespace Go.Vd
variable{n s:Int}{h:Yf}{a:List Int}{K:Int->Option Int}{cs:Yf}{c id key:Int}
theorem Hp.le(H:Hp n h a K)(n0:0≤n):(h.length:Int)≤n:=by
 have hnd:(h.map λx=>x.2).Nodup:=by
  rw[List.nodup_iff_pairwise_ne,List.pairwise_map,List.pairwise_iff_getElem];intro i j hi hj hij e;have e1:gt h (i:Int)=h[i]:=Zdh hi;have e2:gt h (j:Int)=h[j]:=Zdh hj;have:=H.ix.inj (p:=(i:Int)) (q:=(j:Int)) Xo Xo Xo Xo (by rw[e1,e2];exact e);omega
 have:=ZfG (N:=n.toNat) hnd λx hx=>by
  obtain⟨y,hy,rfl⟩:=List.mem_map.1 hx;obtain⟨i,i0,i1,rfl⟩:=Zas hy;obtain⟨f0,f1,_⟩:=H.ix.fwd i i0 i1;omega
 rw[YB]at this;omega
theorem p_Key(H:Hp n h a K)(v0:0≤id)(v1:id<n)(hn:n≤1099511627776):Zbf h a id=some (match K id with|none=>(0,false)|some k=>(k,true)):=by
 have hal:=H.len;have hsm:=H.small
 have hchk:Zar h a id=some Er.nil:=by
  unfold Zar G;rw[if_pos Xo,if_neg Xo]
 unfold Zbf;rw[hchk,Yk,if_pos rfl];unfold G;rw[if_pos Xo,Yk];cases hk:K id with
 | none=>rw[H.key_out v0 v1 hk];rfl
 | some k =>
  obtain⟨k1,k2,k3⟩:=H.key_in v0 v1 hk;rw[decide_eq_false Xo,if_neg Xd,if_pos Xo,if_pos Xo,if_pos Xo,k3]
theorem ZmI(H:Hp n h a K)(O:Ord4 h.length (gt h))(v0:0≤id)(v1:id<n)(hn:n≤1000000) :
  T (Zcn h a id key) λr=>Hp n r.2.2 r.2.1 (λv=>if v=id then some (match K v with|none=>key|some k=>min k key) else K v)/\Ord4 r.2.2.length (gt r.2.2):=by
 have hl:=H.le Xo;unfold Zcn;rw[p_Key H v0 v1 Xo,Yk];cases hk:K id with
 | none =>
  dsimp only;rw[if_neg Xd,Yk,if_neg Xd];refine Zo _ (Zoe (key:=key) H O v0 v1 Xo (λold e=>by rw[hk]at e;cases e) Xo) ?_;rintro⟨e,a',h'⟩⟨_,_,r2,r3⟩;simp only[Zd];refine⟨r2.keys λv _ _=>?_,r3⟩;by_cases e:v=id
  ·rw[if_pos e,if_pos e,e,hk]
  ·rw[if_neg e,if_neg e]
 | some k =>
  dsimp only;rw[if_pos rfl,Yk];by_cases hle:k≤key
  ·rw[decide_eq_true hle,if_pos rfl];simp only[Zd];refine⟨H.keys λv _ _=>?_,O⟩;by_cases e:v=id
   ·rw[if_pos e,e,hk];dsimp only;rw[Int.min_eq_left hle]
   ·rw[if_neg e]
  ·rw[decide_eq_false hle,if_neg Xd];refine Zo _ (Zoe (key:=key) H O v0 v1 Xo (λold e=>by rw[hk]at e;cases e;omega) Xo) ?_;rintro⟨e,a',h'⟩⟨_,_,r2,r3⟩;simp only[Zd];refine⟨r2.keys λv _ _=>?_,r3⟩;by_cases e:v=id
   ·rw[if_pos e,if_pos e,e,hk];dsimp only;rw[Int.min_eq_right Xo]
   ·rw[if_neg e,if_neg e]
theorem Zpk(hl:(h.length:Int)=0):ZaR h a=some (0,0,false,a,h):=by
 unfold ZaR;rw[Zmg,if_pos hl,Yk,if_neg Xd]
theorem ZpC(H:Hp n h a K)(O:Ord4 h.length (gt h))(hn:n≤1000000)(hl:0<(h.length:Int)) :
  T (ZaR h a) λr=>r.1=(gt h 0).2/\r.2.1=(gt h 0).1/\r.2.2.1=true/\Hp n r.2.2.2.2 r.2.2.2.1 (λv=>if v=(gt h 0).2 then none else K v)/\Ord4 r.2.2.2.2.length (gt r.2.2.2.2):=by
 obtain⟨r,e,_,r2,r3⟩:=p_Pop H O Xo hl;refine⟨r,e,?_⟩;unfold ZaR at e;rw[Zmg,if_neg Xo,Yk,if_pos rfl]at e;obtain⟨y,_,e2⟩:=bind_some e;cases e2
 exact⟨rfl,rfl,rfl,r2,r3⟩
theorem Hp.top(H:Hp n h a K)(O:Ord4 h.length (gt h))(hl:0<(h.length:Int)) :
  (0≤(gt h 0).2/\(gt h 0).2<n)/\K (gt h 0).2=some (gt h 0).1/\∀x k,0≤x->x<n->K x=some k->(gt h 0).1≤k:=by
 obtain⟨f0,f1,f2⟩:=H.ix.fwd 0 Xo hl;have hk:=H.key _ f0 f1;unfold Kf at hk;rw[f2,if_neg Xo,show (0:Int)+1-1=0 from rfl]at hk;refine⟨⟨f0,f1⟩,hk.symm,λx k x0 x1 hd=>?_⟩;obtain⟨a0,a1,a2⟩:=H.key_in x0 x1 hd;have:=O.top (gt a x-1) Xo Xo;rw[a2]at this;unfold Less at this;dsimp only at this;omega
theorem Hp.none(H:Hp n h a K)(hl:(h.length:Int)=0){x:Int}(x0:0≤x)(x1:x<n):K x=none:=by
 cases hk:K x with
 | none=>rfl
 | some k=>obtain⟨a0,a1,_⟩:=H.key_in x0 x1 hk;omega
end Go.Vd


namespace Go.Vd
theorem Zpd{γ σ β:Type}{f:σ->Option (σ⊕β)}{Q:β->Prop}(I:γ->σ->Prop)(m:γ->Nat)
  (step:∀g s,I g s->T (f s) (YR (λs'=>∃g',I g' s'/\m g'<m g) Q)) {g:γ} {s:σ} (h:I g s):T (ZB f s) Q:=by
 generalize hk:m g=k;induction k using Nat.strongRecOn generalizing g s with
 | _ k ih =>
  obtain⟨z,h1,h2⟩:=step g s h;rw[ZeV,h1,Yk];cases z with
  | inl s'=>obtain⟨g',h2,h3⟩:=h2;exact ih (m g') Xo h2 rfl
  | inr b=>exact⟨b,rfl,h2⟩
variable{n s v d:Int}{h:Yf}{a:List Int}{cs:Yf}{c id key:Int}{F BF:List Int}{B BB:List B4}{S:List Int}{L:Lb}
def opK(S:List Int)(L:Lb):Lb:=λx=>if x∈S then none else L x
theorem ZfX(f:Fst F (B.length:Int))(v0:0≤v)(v1:v<(F.length:Int)-1):0≤gt F v/\gt F v≤gt F (v+1)/\gt F (v+1)≤(B.length:Int)/\((((B.take (gt F (v+1)).toNat).drop (gt F v).toNat).length:Int)=gt F (v+1)-gt F v)/\rwH F B v=((B.take (gt F (v+1)).toNat).drop (gt F v).toNat).map (λb=>(b.1,b.2.1)):=by
 have a0:=f.le (a:=0) (b:=v) Xo v0 Xo;have a1:=f.le (a:=v) (b:=v+1) v0 Xo Xo;have a2:=f.le (a:=v+1) (b:=(F.length:Int)-1) Xo Xo Xo;rw[f.z]at a0;rw[f.e]at a2;refine⟨a0,a1,a2,ZhI a0 a1 a2,?_⟩;unfold rwH;rw[if_pos ⟨v0,v1⟩]
theorem Ze7{E:Type}[Inhabited E]{l:List E}{i:Int}(i0:0≤i)(i1:i<(l.length:Int)):l.take (i+1).toNat=l.take i.toNat++[gt l i]:=by
 rw[show (i+1).toNat=i.toNat+1 from Xo,List.take_add_one]
 have:l[i.toNat]?.toList=[gt l i]:=by
  unfold gt;rw[Yl,Yn Xo];rfl
 rw[this]
end Go.Vd


namespace Go.Vd
variable{n u r v d:Int}{out:Ye}{S:List Int}{L:Lb}{h:Yf}{a:List Int}
def rwO(out:Ye)(r:Int):Rw2:=λv=>if 0≤v/\v<(out.length:Int) then (gt out v).filter (λa=>decide (r<a.1)) else []
def LD(D:List Int)(L:Lb):Prop:=∀x,0≤x->x<(D.length:Int)->gt D x=match L x with|none=>18446744073709551615|some k=>k
structure WebOk(out:Ye)(n:Int):Prop where
 ok:∀v,∀a∈gt out v,(0≤a.1/\a.1<n)/\0≤a.2/\a.2≤140737488355328
 len:∀v,(gt out v).length≤1000000000
theorem WebOk.row(w:WebOk out n):Zf7 (rwO out r) n:=by
 intro v a ha;unfold rwO at ha;split at ha
 ·exact w.ok v a (List.mem_filter.1 ha).1
 ·cases ha
theorem ZnI{b:Int×Int}{k:Int}(h:L b.1=some k)(hk:k≤d+b.2):rlx d L b=L:=by
 funext x;unfold rlx;by_cases e:x=b.1
 ·rw[if_pos e,e,h];dsimp only;rw[Int.min_eq_left hk]
 ·rw[if_neg e]
theorem Zow(hn:(out.length:Int)=n)(n1:n≤65536)(w:WebOk out n)(v0:0≤v)(v1:v<n)(hS:∀x∈S,∃k,L x=some k/\k≤d)(d0:0≤d)(d1:d≤10000000000000000000)
  {D:List Int} (lD:(D.length:Int)=n) (hD:LD D L) (H:Hp n h a (opK S L)) (O:Ord4 h.length (gt h)) {y:Int×Int×Bool×List Int×Yf} (e1:y.1=v) (e2:y.2.1=d) :
  T (ZB (λzz_=>Zbj out r y zz_.1 zz_.2.1 zz_.2.2.1 zz_.2.2.2) (0,D,h,a)) λz=>(z.1.length:Int)=n/\LD z.1 ((rwO out r v).foldl (rlx d) L)/\Hp n z.2.1 z.2.2 (opK S ((rwO out r v).foldl (rlx d) L))/\Ord4 z.2.1.length (gt z.2.1):=by
 have hrw:rwO out r v=(gt out v).filter (λa=>decide (r<a.1)):=by unfold rwO;rw[if_pos ⟨v0,Xo⟩]
 have hok:=w.ok v;have hlen:=w.len v;rw[hrw];generalize hR:gt out v=R at *;refine ZK (λz=>0≤z.1/\z.1≤(R.length:Int)/\(z.2.1.length:Int)=n/\LD z.2.1 (((R.take z.1.toNat).filter (λa=>decide (r<a.1))).foldl (rlx d) L)/\Hp n z.2.2.1 z.2.2.2 (opK S (((R.take z.1.toNat).filter (λa=>decide (r<a.1))).foldl (rlx d) L))/\Ord4 z.2.2.1.length (gt z.2.2.1)) (λz=>((R.length:Int)-z.1).toNat) ?_ ⟨Xs,Xs,lD,by simpa using hD,by simpa using H,O⟩;clear hD lD H O;rintro⟨i,D,q1,q2⟩⟨i0,i1,lD,hD,H,O⟩;dsimp only at *;unfold Zbj;rw[e1,e2,hR,Zr];refine⟨λhlt=>?_,λhge=>?_⟩;rotate_left
 ·simp only[Zd,Yq];rw[YE Xo]at hD H;exact⟨lD,hD,H,O⟩
 have hm:gt R i∈R:=ZbU i0 hlt;obtain⟨q3,q4,q5⟩:=hok _ hm;have ht:=Ze7 i0 hlt;have hf0:∀b∈(R.take i.toNat).filter (λa=>decide (r<a.1)),0≤b.2:=λb hb=>(hok b (YN (List.mem_filter.1 hb).1)).2.1;generalize hb0:gt R i=b at *
 have hLS:∀x∈S,∃k,((R.take i.toNat).filter (λa=>decide (r<a.1))).foldl (rlx d) L x=some k/\k≤d:=λx hx=>by
  obtain⟨k,k1,k2⟩:=hS x hx;exact⟨k,Zgn hf0 k1 k2,k2⟩
 have hfold:((R.take (i+1).toNat).filter (λa=>decide (r<a.1))).foldl (rlx d) L=if r<b.1 then rlx d (((R.take i.toNat).filter (λa=>decide (r<a.1))).foldl (rlx d) L) b else ((R.take i.toNat).filter (λa=>decide (r<a.1))).foldl (rlx d) L:=by
  rw[ht,Y0,List.foldl_append];by_cases e:r<b.1
  ·rw[if_pos e,List.filter_cons_of_pos (by simpa using e)];rfl
  ·rw[if_neg e,List.filter_cons_of_neg (by simpa using e)];rfl
 generalize ((R.take i.toNat).filter (λa=>decide (r<a.1))).foldl (rlx d) L=M at *;rw[T_G];refine⟨i0,?_⟩;by_cases hb:r<b.1;rotate_left
 ·rw[if_neg Xo,Yk,if_neg Xd];simp only[T_G,Zd,Yo];rw[hfold,if_neg hb];exact⟨Xo,⟨Xo,Xo,lD,hD,H,O⟩,Xo⟩
 rw[if_pos Xo];rw[if_pos hb]at hfold;have hDb:=hD b.1 q3.1 Xo;unfold G;rw[if_pos Xo,if_pos Xo,Yk];by_cases hlt2:d+b.2<gt D b.1;rotate_left
 ·rw[decide_eq_false hlt2,if_neg Xd,if_pos Xo];simp only[Zd,Yo]
  have:∃k,M b.1=some k/\k≤d+b.2:=by
   cases hM:M b.1 with
   | none=>rw[hM]at hDb;dsimp only at hDb;omega
   | some k=>rw[hM]at hDb;exact⟨k,rfl,by dsimp only at hDb;omega⟩
  obtain⟨k,k1,k2⟩:=this;rw[hfold,ZnI k1 k2];exact⟨⟨Xo,Xo,lD,hD,H,O⟩,Xo⟩
 rw[decide_eq_true hlt2,if_pos rfl,if_pos Xo,if_pos Xo,if_pos Xo,if_pos (by rw[Yv];omega)]
 have hnS:b.1∉S:=λq=>by
  obtain⟨k,k1,k2⟩:=hLS _ q;rw[k1]at hDb;dsimp only at hDb;omega
 have hkey:gt (D.set b.1.toNat (d+b.2)) b.1=d+b.2:=by rw[Zbn q3.1 Xo q3.1,if_pos rfl]
 rw[hkey];refine Zo _ (ZmI (key:=d+b.2) H O q3.1 q3.2 Xo) ?_;rintro⟨er',a',h'⟩⟨H',O'⟩;dsimp only at H' O' ⊢;rw[if_pos Xo];simp only[Zd,Yo];rw[hfold]
 have hr1:∀x,rlx d M b x=if x=b.1 then some (d+b.2) else M x:=λx=>by
  unfold rlx;by_cases e:x=b.1
  ·rw[if_pos e,if_pos e,e];cases hM:M b.1 with
   | none=>rfl
   | some k=>rw[hM]at hDb;dsimp only at hDb ⊢;rw[Int.min_eq_right Xo]
  ·rw[if_neg e,if_neg e]
 refine⟨⟨Xo,Xo,by rw[Yv];exact lD,λx x0 x1=>?_,H'.keys λx _ _=>?_,O'⟩,Xo⟩
 ·rw[Yv]at x1;rw[Zbn q3.1 Xo x0,hr1];by_cases e:x=b.1
  ·rw[if_pos e,if_pos e]
  ·rw[if_neg e,if_neg e];exact hD x x0 x1
 ·unfold opK;rw[hr1];by_cases e:x=b.1
  ·rw[if_pos e,e,if_neg hnS,if_neg hnS,if_pos rfl];cases hM:M b.1 with
   | none=>rfl
   | some k=>rw[hM]at hDb;dsimp only at hDb ⊢;rw[Int.min_eq_right Xo]
  ·rw[if_neg e];by_cases e2:x∈S
   ·rw[if_pos e2,if_pos e2]
   ·rw[if_neg e2,if_neg e2,if_neg e]
theorem ZlE(hn:(out.length:Int)=n)(n1:n≤65536)(w:WebOk out n)(u0:0≤u)(u1:u<n) :
  T (Zci out r u) λD=>(D.length:Int)=n/\∃L,LD D L/\DjF (rwO out r) n u L:=by
 unfold Zci;rw[T_G];refine⟨Xo,?_⟩;refine Zo (λo=>(o.length:Int)=n/\∀x,0≤x->x<n->gt o x=18446744073709551615) ?_ ?_
 ·refine ZK (λz=>0≤z.1/\z.1≤n/\(z.2.length:Int)=n/\∀x,0≤x->x<z.1->gt z.2 x=18446744073709551615) (λz=>(n-z.1).toNat) ?_ ⟨Xs,Xo,by simp;omega,λx x0 x1=>by dsimp only at x1;omega⟩;rintro⟨i,o⟩⟨i0,i1,lo,ho⟩;dsimp only at *;unfold Zca;rw[Y6,Zr];refine⟨λhlt=>?_,λhge=>?_⟩
  ·simp only[T_G,Zd,Yo];refine⟨Xo,Xo,⟨Xo,Xo,by rw[Yv];exact lo,λx x0 x1=>?_⟩,Xo⟩;rw[Zbn i0 Xo x0];by_cases e:x=i
   ·rw[if_pos e]
   ·rw[if_neg e];exact ho x x0 Xo
  ·simp only[Zd,Yq];exact⟨lo,λx x0 x1=>ho x x0 Xo⟩
 rintro o ⟨lo,ho⟩;rw[hn,Zpg Xo n1,Yk,Yq,T_G,T_G];refine⟨Xo,Xo,?_⟩;have hm:((n.toNat:Nat):Int)=n:=Xo;refine Zo _ (ZmI (key:=0) (Hp.empty hm) (λp p0 p1=>by simp at p1;omega) u0 u1 Xo) ?_;rintro⟨er,a,h⟩⟨H,O⟩;dsimp only at H O ⊢;refine Zbi (λr=>False) ?_ (λ_ q=>q.elim);refine Zpd (γ:=List Int×Lb) (λg z=>DjI (rwO out r) n u g.1 g.2/\(z.1.length:Int)=n/\LD z.1 g.2/\Hp n z.2.1 z.2.2 (opK g.1 g.2)/\Ord4 z.2.1.length (gt z.2.1)) (λg=>(n-g.1.length).toNat) ?_ (g:=([],λx=>if x=u then some 0 else none)) ⟨.start u0 u1,by rw[Yv];exact lo,λx x0 x1=>?_,H.keys λx _ _=>?_,O⟩;rotate_left
 ·dsimp only at x1 ⊢;rw[Yv]at x1;rw[Zbn u0 Xo x0];by_cases e:x=u
  ·rw[if_pos e,if_pos e]
  ·rw[if_neg e,if_neg e];exact ho x x0 Xo
 ·simp[opK]
 rintro⟨S,L⟩⟨D,h,a⟩⟨I,lD,hD,H,O⟩;dsimp only at *;have hlS:=I.len Xo;unfold Zcd;by_cases hl:(h.length:Int)=0
 ·rw[Zpk hl,Yk];dsimp only;rw[if_pos (show (!false)=true from rfl)];simp only[Zdt,Zd,Yq,Yo];refine⟨lD,L,hD,I.fin Xo λx k hx=>?_⟩;have hrg:=(I.rng x k hx).1;have:=H.none hl hrg.1 hrg.2;unfold opK at this;by_cases e:x∈S
  ·exact e
  ·rw[if_neg e,hx]at this;cases this
 refine Zo _ (ZpC H O Xo Xo) ?_;rintro⟨v,d,b,a',h'⟩⟨e1,e2,e3,H',O'⟩;obtain⟨⟨t0,t1⟩,t2,t3⟩:=H.top O Xo;dsimp only at e1 e2 e3 H' O' ⊢;rw[← e1]at H' t0 t1 t2;rw[← e2]at t2 t3;subst e3;rw[if_neg Xd,T_G];refine⟨Xo,?_⟩;have hv:v∉S:=λq=>by unfold opK at t2;rw[if_pos q]at t2;cases t2
 have hd:L v=some d:=by unfold opK at t2;rw[if_neg hv]at t2;exact t2
 have hmin:∀x k,x∉S->L x=some k->d≤k:=λx k hx hk=>by
  have hrg:=(I.rng x k hk).1;exact t3 x k hrg.1 hrg.2 (by unfold opK;rw[if_neg hx];exact hk)
 obtain⟨_,d0,d1⟩:=I.rng v d hd;have I':=I.step w.row hv hd hmin;have hlS':=I'.len Xo;simp only[Yp]at hlS';refine Zo _ (Zow (S:=v::S) (L:=L) (d:=d) (v:=v) hn n1 w t0 t1 ?_ d0 Xo lD hD (H'.keys λx _ _=>?_) O' rfl rfl) ?_
 ·intro x hx;rcases List.mem_cons.1 hx with rfl|hx
  ·exact⟨d,hd,YO _⟩
  ·obtain⟨k,hk⟩:=I.sd x hx;exact⟨k,hk,I.low hv hd hx hk⟩
 ·unfold opK;by_cases e:x=v
  ·rw[if_pos e,if_pos (by simp[e])]
  ·rw[if_neg e];by_cases e2:x∈S
   ·rw[if_pos e2,if_pos (by simp[e2])]
   ·rw[if_neg e2,if_neg (by simp[e,e2])]
 ·rintro⟨D2,h2,a2⟩⟨g1,g2,g3,g4⟩;dsimp only at g1 g2 g3 g4;simp only[Zd,Yo];exact⟨(v::S,(rwO out r v).foldl (rlx d) L),⟨I',g1,g2,g3,g4⟩,by simp only[Yp];omega⟩
end Go.Vd


namespace Go.Vd
variable{N UF DF:List Int}{U D:List B4}{all:List E7}{i r n:Int}{w:Ye}
theorem ZnN(f:Fst UF (U.length:Int))(hn:(UF.length:Int)=n+1)(n1:n≤65536)(hB:U.length≤1048576)(hr:Zf7 (rwH UF U) n)(r0:0≤r)(r1:r<n)(lw:(w.length:Int)=n)(hl:∀v,0≤v->(gt w v).length≤10000000) :
  T (ZB (λzz_=>Zcm UF U r zz_.1 zz_.2) (w,0)) λw'=>(w'.length:Int)=n/\(∀v,0≤v->v<n->∀a,a∈gt w' v↔a∈gt w v∨(v=r/\a∈rwH UF U r))/\∀v,0≤v->((gt w' v).length:Int)≤(gt w v).length+(gt UF (r+1)-gt UF r):=by
 obtain⟨a0,a1,a2,a3,a4⟩:=ZfX f r0 Xo;have hr':=hr r;rw[a4]at hr' ⊢;generalize hR:(U.take (gt UF (r+1)).toNat).drop (gt UF r).toNat=R at *
 refine ZK (λz=>0≤z.2/\z.2≤(R.length:Int)/\(z.1.length:Int)=n/\(∀v,0≤v->v<n->∀a,a∈gt z.1 v↔a∈gt w v∨(v=r/\a∈(R.take z.2.toNat).map λb=>(b.1,b.2.1)))/\∀v,0≤v->((gt z.1 v).length:Int)≤(gt w v).length+z.2) (λz=>((R.length:Int)-z.2).toNat) ?_
  ⟨Xs,Xs,lw,λv _ _ a=>Xs,λv _=>Xs⟩
 rintro⟨o,i⟩⟨i0,i1,lo,hm,hc⟩;dsimp only at *;unfold Zcm;rw[hR,Zr];refine⟨λhlt=>?_,λhge=>?_⟩;rotate_left
 ·simp only[Zd,Yq];rw[YE Xo]at hm;exact⟨lo,hm,λv v0=>by have:=hc v v0;omega⟩
 have hb:gt R i∈R:=ZbU i0 hlt;obtain⟨q3,q4,q5⟩:=hr' _ (List.mem_map.2 ⟨_,hb,rfl⟩);dsimp only at q3 q4 q5;have ht:=Ze7 i0 hlt;generalize gt R i=b at *;have c1:=hc r r0;have c2:=hl r r0;simp only[T_G,Zd,Yo];refine⟨i0,Xo,Xo,Xo,Xo,⟨Xo,Xo,by rw[Yv];exact lo,λv v0 v1 a=>?_,λv v0=>?_⟩,Xo⟩
 ·rw[Zbn r0 Xo v0,ht,Y2,List.mem_append];by_cases e:v=r
  ·rw[if_pos e,List.mem_append,hm r r0 r1,e];simp only[true_and,List.map_cons,List.map_nil,List.mem_singleton,or_assoc]
  ·rw[if_neg e,hm v v0 v1];simp only[e,false_and,or_false]
 ·rw[Zbn r0 Xo v0];by_cases e:v=r
  ·rw[if_pos e,e];simp only[Yy,Yp,Yt];omega
  ·rw[if_neg e];have:=hc v v0;omega
theorem ZnS(f:Fst DF (D.length:Int))(hn:(DF.length:Int)=n+1)(n1:n≤65536)(hB:D.length≤1048576)(hr:Zf7 (rwH DF D) n)(r0:0≤r)(r1:r<n)(lw:(w.length:Int)=n)(hl:∀v,0≤v->(gt w v).length≤10000000) :
  T (ZB (λzz_=>Zcj DF D r zz_.1 zz_.2) (w,0)) λw'=>(w'.length:Int)=n/\(∀v,0≤v->v<n->∀a,a∈gt w' v↔a∈gt w v∨(a.1=r/\(v,a.2)∈rwH DF D r))/\∀v,0≤v->((gt w' v).length:Int)≤(gt w v).length+(gt DF (r+1)-gt DF r):=by
 obtain⟨a0,a1,a2,a3,a4⟩:=ZfX f r0 Xo;have hr':=hr r;rw[a4]at hr' ⊢;generalize hR:(D.take (gt DF (r+1)).toNat).drop (gt DF r).toNat=R at *
 refine ZK (λz=>0≤z.2/\z.2≤(R.length:Int)/\(z.1.length:Int)=n/\(∀v,0≤v->v<n->∀a,a∈gt z.1 v↔a∈gt w v∨(a.1=r/\(v,a.2)∈(R.take z.2.toNat).map λb=>(b.1,b.2.1)))/\∀v,0≤v->((gt z.1 v).length:Int)≤(gt w v).length+z.2) (λz=>((R.length:Int)-z.2).toNat) ?_
  ⟨Xs,Xs,lw,λv _ _ a=>Xs,λv _=>Xs⟩
 rintro⟨o,i⟩⟨i0,i1,lo,hm,hc⟩;dsimp only at *;unfold Zcj;rw[hR,Zr];refine⟨λhlt=>?_,λhge=>?_⟩;rotate_left
 ·simp only[Zd,Yq];rw[YE Xo]at hm;exact⟨lo,hm,λv v0=>by have:=hc v v0;omega⟩
 have hb:gt R i∈R:=ZbU i0 hlt;obtain⟨q3,q4,q5⟩:=hr' _ (List.mem_map.2 ⟨_,hb,rfl⟩);dsimp only at q3 q4 q5;have ht:=Ze7 i0 hlt;generalize gt R i=b at *;have c1:=hc b.1 q3.1;have c2:=hl b.1 q3.1;simp only[T_G,Zd,Yo];refine⟨i0,Xo,Xo,Xo,⟨Xo,Xo,by rw[Yv];exact lo,λv v0 v1 a=>?_,λv v0=>?_⟩,Xo⟩
 ·rw[Zbn q3.1 Xo v0,ht,Y2,List.mem_append];obtain⟨x,y⟩:=a;dsimp only;by_cases e:v=b.1
  ·rw[if_pos e,List.mem_append,hm b.1 q3.1 q3.2,e];simp only[List.map_cons,List.map_nil,List.mem_singleton,Prod.mk.injEq,true_and,or_assoc,and_or_left]
  ·rw[if_neg e,hm v v0 v1];simp only[List.map_cons,List.map_nil,List.mem_singleton,Prod.mk.injEq,e,false_and,or_false]
 ·rw[Zbn q3.1 Xo v0];by_cases e:v=b.1
  ·rw[if_pos e,e];simp only[Yy,Yp,Yt];omega
  ·rw[if_neg e];have:=hc v v0;omega
def Web(up dn:Rw2)(n:Int)(w:Ye):Prop:=(w.length:Int)=n/\(∀v,0≤v->v<n->∀a,a∈gt w v↔Lk up dn v a.1 a.2)/\∀v,0≤v->(gt w v).length≤10000000
theorem Zi1{F:List Int}{B:List B4}{a:Int×Int}(hF:(F.length:Int)=n+1)(h:a∈rwH F B r):0≤r/\r<n:=by
 unfold rwH at h;split at h
 ·omega
 ·cases h
theorem ZlG(h:InF N UF U DF D all)(hU:WL U)(hD:WL D):T (Zds N UF U DF D) (Web (rwH UF U) (rwH DF D) N.length):=by
 have sm:=h.sm;have ln:=h.ln;have up:=(h.upOk hU hD).1;have dn:=(h.dnOk hU hD).1;obtain⟨n1,n2⟩:=sm;obtain⟨l1,l2⟩:=ln;have fU:=h.fU;have fD:=h.fD;unfold Zds;rw[T_G];refine⟨Xo,Zo _ ?_ λw hw=>by simp only[Zd];exact hw⟩
 refine ZK (λz=>0≤z.1/\z.1≤(N.length:Int)/\(z.2.length:Int)=N.length/\(∀v,0≤v->v<(N.length:Int)->∀a,a∈gt z.2 v↔(v<z.1/\a∈rwH UF U v)∨(a.1<z.1/\(v,a.2)∈rwH DF D a.1))/\∀v,0≤v->((gt z.2 v).length:Int)≤gt UF z.1+gt DF z.1) (λz=>((N.length:Int)-z.1).toNat) ?_
  ⟨Xs,Xs,Xs,λv v0 v1 a=>?_,λv v0=>?_⟩
 rotate_left
 ·dsimp only;rw[show gt (Ym N.length ([]:Yf)) v=[] from ZkL];constructor
  ·intro q;cases q
  ·rintro (⟨q,_⟩|⟨q,q2⟩)
   ·omega
   ·have:=Zi1 (n:=N.length) l2 q2;omega
 ·dsimp only;rw[show gt (Ym N.length ([]:Yf)) v=[] from ZkL,fU.z,fD.z];simp
 rintro⟨i,w⟩⟨i0,i1,lw,hm,hc⟩;dsimp only at *;unfold Zdf;rw[Zr];refine⟨λhlt=>?_,λhge=>?_⟩;rotate_left
 ·simp only[Zd,Yq];obtain rfl:i=(N.length:Int):=Xo;have e1:=fU.e;have e2:=fD.e;rw[show (UF.length:Int)-1=N.length from Xo]at e1;rw[show (DF.length:Int)-1=N.length from Xo]at e2;refine⟨lw,λv v0 v1 a=>?_,λv v0=>by have:=hc v v0;omega⟩;rw[hm v v0 v1];unfold Lk;constructor
  ·rintro (⟨_,q⟩|⟨_,q⟩)
   ·exact .inl q
   ·exact .inr q
  ·rintro (q|q)
   ·exact .inl ⟨v1,q⟩
   ·exact .inr ⟨(Zi1 (n:=N.length) l2 q).2,q⟩
 obtain⟨a0,a1,a2,_,_⟩:=ZfX (B:=U) fU i0 Xo;obtain⟨b0,b1,b2,_,_⟩:=ZfX (B:=D) fD i0 Xo;simp only[T_G];refine⟨Xo,Xo,Xo,Xo,?_⟩;refine Zo _ (ZnN fU l1 Xo Xo up i0 hlt lw λv v0=>by have:=hc v v0;omega) ?_;rintro w1 ⟨g1,g2,g3⟩;simp only[T_G];refine⟨Xo,Xo,Xo,?_⟩;refine Zo _ (ZnS fD l2 Xo Xo dn i0 hlt g1 λv v0=>by have:=hc v v0;have:=g3 v v0;omega) ?_;rintro w2 ⟨k1,k2,k3⟩;simp only[Zd,Yo];refine⟨⟨Xo,Xo,k1,λv v0 v1 a=>?_,λv v0=>by have:=hc v v0;have:=g3 v v0;have:=k3 v v0;omega⟩,Xo⟩;rw[k2 v v0 v1,g2 v v0 v1,hm v v0 v1];constructor
 ·rintro ((( ⟨q,q2⟩|⟨q,q2⟩)|⟨rfl,q2⟩)|⟨q,q2⟩)
  ·exact .inl ⟨Xo,q2⟩
  ·exact .inr ⟨Xo,q2⟩
  ·exact .inl ⟨Xo,q2⟩
  ·exact .inr ⟨Xo,by rw[q];exact q2⟩
 ·rintro (⟨q,q2⟩|⟨q,q2⟩)
  ·by_cases e:v=i
   ·exact .inl (.inr ⟨e,by rw[← e];exact q2⟩)
   ·exact .inl (.inl (.inl ⟨Xo,q2⟩))
  ·by_cases e:a.1=i
   ·exact .inr ⟨e,by rw[← e];exact q2⟩
   ·exact .inl (.inl (.inr ⟨Xo,q2⟩))
end Go.Vd


namespace Go.Vd
variable{N UF DF:List Int}{U D:List B4}{all:List E7}{i r n u x k:Int}{w:Ye}
theorem Web.lk(hw:Web (rwH UF U) (rwH DF D) n w){v:Int}{a:Int×Int}(h:a∈gt w v):∃v',0≤v'/\v'<n/\Lk (rwH UF U) (rwH DF D) v' a.1 a.2:=by
 have e:gt w v=gt w ((v.toNat:Nat):Int):=by unfold gt;rw[Int.toNat_natCast]
 by_cases q:v.toNat<w.length
 ·rw[e]at h;have:=hw.1;exact⟨_,Xo,Xo,(hw.2.1 _ Xo Xo a).1 h⟩
 ·have:gt w v=[]:=by unfold gt;rw[Yl,YQ Xo];rfl
  rw[this]at h;cases h
theorem Web.ok(hw:Web (rwH UF U) (rwH DF D) n w)(hnD:(DF.length:Int)=n+1)(hu:Zf7 (rwH UF U) n)(hd:Zf7 (rwH DF D) n):WebOk w n:=by
 refine⟨λv a ha=>?_,λv=>?_⟩
 ·obtain⟨v',v0,v1,h|h⟩:=hw.lk ha
  ·exact hu _ _ h
  ·exact⟨Zi1 hnD h,(hd _ _ h).2⟩
 ·have e:gt w v=gt w ((v.toNat:Nat):Int):=by unfold gt;rw[Int.toNat_natCast]
  have:=hw.2.2 ((v.toNat:Nat):Int) Xo;rw[e];omega
theorem Web.wb(hw:Web (rwH UF U) (rwH DF D) n w)(k0:r<u){d:Int}(h:Wy (rwO w r) u x d):Wb (rwH UF U) (rwH DF D) (r+1) u x d:=by
 induction h with
 | refl=>exact .refl Xo
 | step v d a _ ha ih =>
  unfold rwO at ha;split at ha
  ·rename_i hv
   obtain⟨h1,h2⟩:=List.mem_filter.1 ha;have:=hw.1;exact .step _ _ _ _ ih ((hw.2.1 v hv.1 Xo a).1 h1) (by have:=of_decide_eq_true h2;omega)
  ·cases ha
theorem Web.wy(hw:Web (rwH UF U) (rwH DF D) n w)(hnU:(UF.length:Int)=n+1)(hd:Zf7 (rwH DF D) n){d:Int}(h:Wb (rwH UF U) (rwH DF D) (r+1) u x d):Wy (rwO w r) u x d:=by
 induction h with
 | refl _=>exact .refl
 | step v d y c _ hl hy ih =>
  have hv:0≤v/\v<n:=by
   rcases hl with h|h
   ·exact Zi1 hnU h
   ·exact (hd _ _ h).1
  refine .step v d (y,c) ih ?_;unfold rwO;have:=hw.1;rw[if_pos ⟨hv.1,Xo⟩];exact List.mem_filter.2 ⟨(hw.2.1 v hv.1 hv.2 (y,c)).2 hl,decide_eq_true (by dsimp only;omega)⟩
theorem ZoJ(hw:Web (rwH UF U) (rwH DF D) n w)(fU:Fst UF (U.length:Int))(fD:Fst DF (D.length:Int))(hnU:(UF.length:Int)=n+1)(hnD:(DF.length:Int)=n+1)(n1:n≤65536)(lU:U.length≤1048576)(lD:D.length≤1048576)
  (hu:Zf7 (rwH UF U) n) (hd:Zf7 (rwH DF D) n) (rd:Rs (rwH DF D)) (r0:0≤r) (r1:r<n):T (ZcV w N UF U DF D r) λb=>b=true↔Tru (rwH UF U) (rwH DF D) r:=by
 obtain⟨a0,a1,a2,a3,a4⟩:=ZfX (B:=U) fU r0 Xo;obtain⟨b0,b1,b2,b3,b4⟩:=ZfX (B:=D) fD r0 Xo;have hu':=hu r;have hd':=hd r;have rd':=rd r;have key:Tru (rwH UF U) (rwH DF D) r↔∀a∈rwH DF D r,∀b∈rwH UF U r,a.1≠b.1->∃e,Wb (rwH UF U) (rwH DF D) (r+1) a.1 b.1 e/\e≤a.2+b.2:=Iff.rfl;rw[key];clear key;have hwok:=hw.ok hnD hu hd;have lw:=hw.1;generalize hP:Wb (rwH UF U) (rwH DF D) (r+1)=P at *;have hwy:∀{u x d},P u x d->Wy (rwO w r) u x d:=λ{u x d} h=>by rw[← hP]at h;exact hw.wy hnU hd h
 have hwb:∀{u x d},r<u->Wy (rwO w r) u x d->P u x d:=λ{u x d} q h=>by rw[← hP];exact hw.wb q h
 rw[a4]at hu' ⊢;rw[b4]at hd' rd' ⊢;unfold ZcV;simp only[T_G];refine⟨Xo,Xo,Xo,Xo,?_⟩;refine Zbi (λ_=>∀a∈((D.take (gt DF (r+1)).toNat).drop (gt DF r).toNat).map (λb=>(b.1,b.2.1)),∀b∈((U.take (gt UF (r+1)).toNat).drop (gt UF r).toNat).map (λb=>(b.1,b.2.1)),a.1≠b.1->∃e,P a.1 b.1 e/\e≤a.2+b.2) ?_ λ_ h=>by simp only[Zd,true_iff];exact h
 generalize hR:(D.take (gt DF (r+1)).toNat).drop (gt DF r).toNat=R at *;generalize hS:(U.take (gt UF (r+1)).toNat).drop (gt UF r).toNat=S at *;refine ZK (λi=>0≤i/\i≤(R.length:Int)/\∀a∈(R.take i.toNat).map (λb=>(b.1,b.2.1)),∀b∈S.map (λb=>(b.1,b.2.1)),a.1≠b.1->∃e,P a.1 b.1 e/\e≤a.2+b.2) (λi=>((R.length:Int)-i).toNat) ?_ ⟨Xo,Xo,λa ha=>by simp at ha⟩;rintro i ⟨i0,i1,hi⟩;unfold ZbO;rw[hR,hS,Zr];refine⟨λhlt=>?_,λhge=>?_⟩;rotate_left
 ·simp only[Zd,Yq];rw[YE Xo]at hi;exact hi
 simp only[T_G];refine⟨i0,Xo,Xo,Xo,?_⟩;rw[Zr];refine⟨λh0=>?_,λh0=>?_⟩
 ·simp only[Zdt,Zd,Yq,Yo,true_iff];have:S=[]:=Yx Xo;intro a _ b hb;rw[this]at hb;simp at hb
 have hm:gt R i∈R:=ZbU i0 hlt;obtain⟨q3,q4,q5⟩:=hd' _ (List.mem_map.2 ⟨_,hm,rfl⟩);have q6:=rd' _ (List.mem_map.2 ⟨_,hm,rfl⟩);dsimp only at q3 q4 q5 q6;have ht:=Ze7 i0 hlt;have hmR:((gt R i).1,(gt R i).2.1)∈R.map (λb=>(b.1,b.2.1)):=List.mem_map.2 ⟨_,hm,rfl⟩;simp only[T_G];refine⟨Xo,?_⟩;refine Zo _ (ZlE lw n1 hwok q3.1 q3.2) ?_;rintro L' ⟨lL,L,hL,DJ⟩;refine Zbi (λ_=>∀b∈S.map (λb=>(b.1,b.2.1)),(gt R i).1≠b.1->∃e,P (gt R i).1 b.1 e/\e≤(gt R i).2.1+b.2) ?_ ?_
 ·refine ZK (λj=>0≤j/\j≤(S.length:Int)/\∀b∈(S.take j.toNat).map (λb=>(b.1,b.2.1)),(gt R i).1≠b.1->∃e,P (gt R i).1 b.1 e/\e≤(gt R i).2.1+b.2) (λj=>((S.length:Int)-j).toNat) ?_ ⟨Xo,Xo,λa ha=>by simp at ha⟩;rintro j ⟨j0,j1,hj⟩;unfold ZbV;rw[hR,hS,Zr];refine⟨λhlt2=>?_,λhge=>?_⟩;rotate_left
  ·simp only[Zd,Yq];rw[YE Xo]at hj;exact hj
  have hm2:gt S j∈S:=ZbU j0 hlt2;obtain⟨p3,p4,p5⟩:=hu' _ (List.mem_map.2 ⟨_,hm2,rfl⟩);dsimp only at p3 p4 p5;have ht2:=Ze7 j0 hlt2;have hmS:((gt S j).1,(gt S j).2.1)∈S.map (λb=>(b.1,b.2.1)):=List.mem_map.2 ⟨_,hm2,rfl⟩
  have nxt:((gt R i).1≠(gt S j).1->∃e,P (gt R i).1 (gt S j).1 e/\e≤(gt R i).2.1+(gt S j).2.1)->∀b∈(S.take (j+1).toNat).map (λb=>(b.1,b.2.1)),(gt R i).1≠b.1->∃e,P (gt R i).1 b.1 e/\e≤(gt R i).2.1+b.2:=λh b hb=>by
   rw[ht2,Y2,List.mem_append]at hb;rcases hb with hb|hb
   ·exact hj b hb
   ·simp only[List.map_cons,List.map_nil,List.mem_singleton]at hb;subst hb;exact h
  rw[T_G,Zr];refine⟨j0,λhe=>?_,λhne=>?_⟩
  ·simp only[T_G,Zd,Yo];exact⟨Xo,⟨Xo,Xo,nxt λq=>absurd he q⟩,Xo⟩
  simp only[T_G];refine⟨Xo,Xo,?_⟩;have hLb:=hL (gt S j).1 p3.1 Xo;rw[Zr];refine⟨λhgt=>?_,λhle=>?_⟩
  ·simp only[Zdt,Zd,Yq,Yo,Y5,false_iff];intro hall;obtain⟨e,h1,h2⟩:=hall _ hmR _ hmS hne;obtain⟨k,h3,h4⟩:=DJ.low (hwy h1);dsimp only at h2 h3;rw[h3]at hLb;dsimp only at hLb;omega
  ·simp only[T_G,Zd,Yo];refine⟨Xo,⟨Xo,Xo,nxt λ_=>?_⟩,Xo⟩;cases hk:L (gt S j).1 with
   | none=>rw[hk]at hLb;dsimp only at hLb;omega
   | some k=>rw[hk]at hLb;exact⟨k,hwb q6 (DJ.way _ _ hk),by dsimp only at hLb;omega⟩
 ·intro _ h;simp only[T_G,Zd,Yo];refine⟨Xo,⟨Xo,Xo,λa ha=>?_⟩,Xo⟩;rw[ht,Y2,List.mem_append]at ha;rcases ha with ha|ha
  ·exact hi a ha
  ·simp only[List.map_cons,List.map_nil,List.mem_singleton]at ha;subst ha;exact h
theorem ZkR(h:InF N UF U DF D all)(hU:WL U)(hD:WL D)(e:Zbp N UF U DF D=some .nil):T (Zdn N UF U DF D) λer=>er=.nil↔∀r,0≤r->r<(N.length:Int)->Tru (rwH UF U) (rwH DF D) r:=by
 have sm:=h.sm;have ln:=h.ln;unfold Zdn;rw[e,Yk,if_pos rfl];refine Zo _ (ZlG h hU hD) ?_;intro w hw;refine Zbi (λ_=>∀r,0≤r->r<(N.length:Int)->Tru (rwH UF U) (rwH DF D) r) ?_ λ_ g=>by simp only[Zd,true_iff];exact g
 refine ZK (λi=>0≤i/\i≤(N.length:Int)/\∀r,0≤r->r<i->Tru (rwH UF U) (rwH DF D) r) (λi=>((N.length:Int)-i).toNat) ?_ ⟨Xo,Xo,λr r0 r1=>Xo⟩;rintro i ⟨i0,i1,hi⟩;unfold Zc5;rw[Zr];refine⟨λhlt=>?_,λhge=>?_⟩;rotate_left
 ·simp only[Zd,Yq];exact λr r0 r1=>hi r r0 Xo
 refine Zo _ (ZoJ hw h.fU h.fD ln.1 ln.2 (by have:=sm.1;omega) (by have:=sm.2;omega) (by have:=sm.2;omega) (h.upOk hU hD).1 (h.dnOk hU hD).1 (h.dnOk hU hD).2 i0 hlt) ?_;intro b hb;rw[Zr];refine⟨λq=>?_,λq=>?_⟩
 ·unfold ZaA;simp only[if_false,reduceCtorEq,Yk,Yda,Zd,Yq,Yo,false_iff];intro g;have:=hb.2 (g i i0 hlt);rw[this]at q;cases q
 ·simp only[T_G,Zd,Yo];have hbt:b=true:=by cases b with|true=>rfl|false=>exact absurd rfl q
  refine⟨by have:=sm.1;omega,⟨Xo,Xo,λr r0 r1=>?_⟩,Xo⟩;by_cases e:r=i
  ·rw[e];exact hb.1 hbt
  ·exact hi r r0 Xo
end Go.Vd


namespace Go.Vd
variable{N UF DF:List Int}{U D:List B4}{all:List E7}{up dn:Rw2}{u x v a b d n k:Int}{X:List (List Int)}
theorem Wb.pre{w:Int}(h0:k≤u)(hl:Lk up dn u x w)(h:Wb up dn k x v d):Wb up dn k u v (w+d):=by
 have h1:Wb up dn k u x (0+w):=.step _ _ _ _ (.refl h0) hl h.ge.2;rw[Int.zero_add]at h1;exact h1.cat h
theorem Wb.rev(h:Wb up dn k u x d):Wb dn up k x u d:=by
 induction h with
 | refl h=>exact .refl h
 | step x d y w hw hl hy ih =>
  have:Lk dn up y x w:=by
   rcases hl with hl|hl
   ·exact .inr hl
   ·exact .inl hl
  rw[Int.add_comm];exact .pre hy this ih
theorem Tru.swap{r:Int}(h:Tru up dn r):Tru dn up r:=λa ha b hb hne=>by
 obtain⟨e,e1,e2⟩:=h b hb a ha (λq=>hne q.symm);exact⟨e,e1.rev,Xo⟩
def DDs(up dn:Rw2)(u x v:Int):Prop:=(v=18446744073709551615/\∀d,¬Wb up dn 0 u x d)∨(v≠18446744073709551615/\Wb up dn 0 u x v/\∀d,Wb up dn 0 u x d->v≤d)
theorem DDs.uniq{v':Int}(h:DDs up dn u x v)(g:DDs up dn u x v'):v=v':=by
 rcases h with ⟨h1,h2⟩|⟨h1,h2,h3⟩
 ·rcases g with ⟨g1,g2⟩|⟨g1,g2,g3⟩
  ·rw[h1,g1]
  ·exact absurd g2 (h2 _)
 ·rcases g with ⟨g1,g2⟩|⟨g1,g2,g3⟩
  ·exact absurd h2 (g2 _)
  ·have:=h3 _ g2;have:=g3 _ h2;omega
theorem DDs.rev(h:DDs up dn u x v):DDs dn up x u v:=by
 rcases h with ⟨h1,h2⟩|⟨h1,h2,h3⟩
 ·exact .inl ⟨h1,λd q=>h2 d q.rev⟩
 ·exact .inr ⟨h1,h2.rev,λd q=>h3 d q.rev⟩
def MatS(N:List Int)(up dn:Rw2)(X:List (List Int)):Prop:=
 X.length=N.length/\∀u,0≤u->u<(N.length:Int)->(gt X (gt N u)).length=N.length/\∀x,0≤x->x<(N.length:Int)->DDs up dn u x (gt (gt X (gt N u)) (gt N x))
theorem Zk7(F:InF N UF U DF D all)(hU:WL U)(hD:WL D)(ec:Zbp N UF U DF D=some .nil)(hn:N.length≤900):T (Zc1 N UF U DF D) λr=>r.2=.nil/\MatS N (rwH UF U) (rwH DF D) r.1:=by
 unfold Zc1;rw[ec,Yk,if_pos rfl,T_G];have sq2:(N.length:Int)*(N.length:Int)≤900*900:=Int.mul_le_mul Xo Xo Xo Xo;have sq0:0≤(N.length:Int)*(N.length:Int):=Int.mul_nonneg Xo Xo;refine⟨Xo,?_⟩;rw[if_neg Xo];refine Zo _ (ZlG F hU hD) λw hw=>?_;obtain⟨uok,urs⟩:=F.upOk hU hD;obtain⟨dok,drs⟩:=F.dnOk hU hD;have wok:=hw.ok F.ln.2 uok dok;rw[T_G];refine⟨Xo,Zo (λX=>MatS N (rwH UF U) (rwH DF D) X) ?_ λX hX=>by simp only[Zd];exact⟨trivial,hX⟩⟩;refine ZK (λz=>0≤z.1/\z.1≤(N.length:Int)/\z.2.length=N.length/\∀u,0≤u->u<z.1->(gt z.2 (gt N u)).length=N.length/\∀x,0≤x->x<(N.length:Int)->DDs (rwH UF U) (rwH DF D) u x (gt (gt z.2 (gt N u)) (gt N x))) (λz=>((N.length:Int)-z.1).toNat) ?_ ⟨Xs,Xs,Xs,λu u0 u1=>by dsimp only at u1;omega⟩;rintro⟨i,X⟩⟨i0,i1,lX,hX⟩;dsimp only at *;unfold ZcN;rw[Zr];refine⟨λhlt=>?_,λhge=>?_⟩;rotate_left
 ·simp only[Zd,Yq];exact⟨lX,λu u0 u1=>hX u u0 Xo⟩
 rw[T_G,T_G];refine⟨i0,Xo,Zo _ (ZlE (r:=-1) hw.1 Xo wok i0 hlt) ?_⟩;rintro Dl ⟨lD,L,hL,hF⟩
 have hv:∀x,0≤x->x<(N.length:Int)->DDs (rwH UF U) (rwH DF D) i x (gt Dl x):=λx x0 x1=>by
  rw[hL x x0 Xo];cases hx:L x with
  | none =>
   refine .inl ⟨rfl,λd q=>?_⟩;obtain⟨k,k1,_⟩:=hF.low (hw.wy (r:=-1) F.ln.1 dok q);rw[hx]at k1;cases k1
  | some k =>
   have q:=(hF.rng x k hx).2;refine .inr ⟨by dsimp only;omega,hw.wb (r:=-1) Xo (hF.way x k hx),λd q=>?_⟩;obtain⟨k',k1,k2⟩:=hF.low (hw.wy (r:=-1) F.ln.1 dok q);rw[hx]at k1;cases k1;exact k2
 refine Zo (λo=>o.length=N.length/\∀x,0≤x->x<(N.length:Int)->gt o (gt N x)=gt Dl x) ?_ ?_
 ·refine ZK (λz=>0≤z.2/\z.2≤(N.length:Int)/\z.1.length=N.length/\∀x,0≤x->x<z.2->gt z.1 (gt N x)=gt Dl x) (λz=>((N.length:Int)-z.2).toNat) ?_ ⟨Xs,Xs,Xs,λu u0 u1=>by dsimp only at u1;omega⟩;rintro⟨row,j⟩⟨j0,j1,lr,hr⟩;dsimp only at *;unfold ZcS;rw[Zr];refine⟨λhj=>?_,λhj=>?_⟩;rotate_left
  ·simp only[Zd,Yq];exact⟨lr,λx x0 x1=>hr x x0 Xo⟩
  obtain⟨v0,v1⟩:=F.od.1 j j0 Xo;simp only[T_G,Zd,Yo];refine⟨j0,Xo,Xo,Xo,⟨Xo,Xo,by simpa using lr,λx x0 x1=>?_⟩,Xo⟩;obtain⟨w0,w1⟩:=F.od.1 x x0 Xo;rw[Z3 v0 Xo w0];by_cases q:gt N x=gt N j
  ·rw[if_pos q,F.od.2 x j x0 Xo j0 Xo q]
  ·rw[if_neg q];refine hr x x0 ?_;by_cases q2:x=j
   ·subst q2;exact absurd rfl q
   ·omega
 ·rintro o ⟨lo,ho⟩;obtain⟨v0,v1⟩:=F.od.1 i i0 hlt;simp only[T_G,Zd,Yo];refine⟨Xo,Xo,⟨Xo,Xo,by simpa using lX,λu u0 u1=>?_⟩,Xo⟩;obtain⟨w0,w1⟩:=F.od.1 u u0 Xo;rw[Z3 v0 Xo w0];by_cases q:gt N u=gt N i
  ·rw[if_pos q];obtain rfl:=F.od.2 u i u0 Xo i0 hlt q;exact⟨lo,λx x0 x1=>by rw[ho x x0 x1];exact hv x x0 x1⟩
  ·rw[if_neg q];refine hX u u0 ?_;by_cases q2:u=i
   ·subst q2;exact absurd rfl q
   ·omega
theorem MatS.same{Y:List (List Int)}(o:ZcY N)(h:MatS N up dn X)(g:MatS N up dn Y):X=Y:=by
 refine Zfp (by rw[h.1,g.1]) λa a0 a1=>?_;have:=h.1;obtain⟨u,u0,u1,rfl⟩:=ZdZ o a0 Xo;obtain⟨h1,h2⟩:=h.2 u u0 u1;obtain⟨g1,g2⟩:=g.2 u u0 u1;refine Zfp (by rw[h1,g1]) λb b0 b1=>?_;obtain⟨x,x0,x1,rfl⟩:=ZdZ o b0 Xo;exact (h2 x x0 x1).uniq (g2 x x0 x1)
theorem Zm2(o:ZcY N)(h:MatS N up dn X)(hn:N.length≤900):T (Zcc X) λY=>MatS N dn up Y:=by
 have lX:=h.1
 have row:∀a,0≤a->a<(N.length:Int)->(gt X a).length=N.length:=λa a0 a1=>by
  obtain⟨u,u0,u1,rfl⟩:=ZdZ o a0 a1;exact (h.2 u u0 u1).1
 unfold Zcc;refine Zo (λY=>Y.length=N.length/\∀a,0≤a->a<(N.length:Int)->(gt Y a).length=N.length/\∀b,0≤b->b<(N.length:Int)->gt (gt Y a) b=gt (gt X b) a) ?_ ?_;rotate_left
 ·rintro Y ⟨l1,l2⟩;simp only[Zd];refine⟨l1,λu u0 u1=>?_⟩;have q:=o.1 u u0 u1;obtain⟨e1,e2⟩:=l2 _ q.1 q.2;refine⟨e1,λx x0 x1=>?_⟩;have q':=o.1 x x0 x1;rw[e2 _ q'.1 q'.2];exact ((h.2 x x0 x1).2 u u0 u1).rev
 refine ZK (λz=>0≤z.2/\z.2≤(N.length:Int)/\(z.1.length:Int)=z.2/\∀a,0≤a->a<z.2->(gt z.1 a).length=N.length/\∀b,0≤b->b<(N.length:Int)->gt (gt z.1 a) b=gt (gt X b) a) (λz=>((N.length:Int)-z.2).toNat) ?_ ⟨Xs,Xs,Xs,λu u0 u1=>by dsimp only at u1;omega⟩;rintro⟨Y,i⟩⟨i0,i1,lY,hY⟩;dsimp only at *;unfold Zbr;rw[Zr];refine⟨λhlt=>?_,λhge=>?_⟩;rotate_left
 ·simp only[Zd,Yq];exact⟨Xo,λa a0 a1=>hY a a0 Xo⟩
 refine Zo (λo=>o.length=N.length/\∀b,0≤b->b<(N.length:Int)->gt o b=gt (gt X b) i) ?_ ?_
 ·refine ZK (λz=>0≤z.1/\z.1≤(N.length:Int)/\(z.2.length:Int)=z.1/\∀b,0≤b->b<z.1->gt z.2 b=gt (gt X b) i) (λz=>((N.length:Int)-z.1).toNat) ?_ ⟨Xs,Xs,Xs,λu u0 u1=>by dsimp only at u1;omega⟩;rintro⟨j,r⟩⟨j0,j1,lr,hr⟩;dsimp only at *;unfold Zbt;rw[Zr];refine⟨λhj=>?_,λhj=>?_⟩;rotate_left
  ·simp only[Zd,Yq];exact⟨Xo,λx x0 x1=>hr x x0 Xo⟩
  simp only[T_G,Zd,Yo];have:=row j j0 Xo;refine⟨j0,Xo,Xo,Xo,⟨Xo,Xo,by simp;omega,λx x0 x1=>?_⟩,Xo⟩;rw[ZgL x0 Xo];by_cases q:x=r.length
  ·rw[if_pos q,q,lr]
  ·rw[if_neg q];exact hr x x0 Xo
 ·rintro o' ⟨lo,ho⟩;simp only[T_G,Zd,Yo];refine⟨Xo,Xo,⟨Xo,Xo,by simp;omega,λa a0 a1=>?_⟩,Xo⟩;rw[ZgL a0 Xo];by_cases q:a=Y.length
  ·rw[if_pos q,q,lY];exact⟨lo,ho⟩
  ·rw[if_neg q];exact hY a a0 Xo
end Go.Vd


namespace Go.Vd
variable{N n k i j:Int}{A L:List A3}{E E':Int->Int->Int}{M:List (List Int)}
def IsM(n:Int)(M:List (List Int))(E:Int->Int->Int):Prop:=(M.length:Int)=n/\∀i,0≤i->i<n->((gt M i).length:Int)=n/\∀j,0≤j->j<n->gt (gt M i) j=E i j
theorem IsM.congr(h:IsM n M E)(k:∀i j,0≤i->i<n->0≤j->j<n->E i j=E' i j):IsM n M E':=
 ⟨h.1,λi i0 i1=>⟨(h.2 i i0 i1).1,λj j0 j1=>((h.2 i i0 i1).2 j j0 j1).trans (k i j i0 i1 j0 j1)⟩⟩
theorem IsM.upd(h:IsM n M E)(i0:0≤i)(i1:i<n)(j0:0≤j)(j1:j<n){v:Int}:IsM n (M.set i.toNat ((gt M i).set j.toNat v)) (λa b=>if a=i/\b=j then v else E a b):=by
 have hl:=h.1;refine⟨by simpa using h.1,λa a0 a1=>?_⟩;rw[Z3 i0 Xo a0];by_cases e:a=i
 ·subst e;rw[if_pos rfl];obtain⟨h1,h2⟩:=h.2 a a0 a1;refine⟨by simpa using h1,λb b0 b1=>?_⟩;rw[Z3 j0 Xo b0];by_cases f:b=j
  ·rw[if_pos f];dsimp only;rw[if_pos ⟨rfl,f⟩]
  ·rw[if_neg f];dsimp only;rw[if_neg (λq=>f q.2)];exact h2 b b0 b1
 ·rw[if_neg e];obtain⟨h1,h2⟩:=h.2 a a0 a1;exact⟨h1,λb b0 b1=>by dsimp only;rw[if_neg (λq=>e q.1)];exact h2 b b0 b1⟩
structure FwI(N:Int)(A:List A3)(B k:Int)(E:Int->Int->Int):Prop where
 rng:∀i j,0≤i->i<N->0≤j->j<N->E i j=18446744073709551615∨(0≤E i j/\E i j≤B)
 snd:∀i j,0≤i->i<N->0≤j->j<N->E i j≠18446744073709551615->Wk A i j (E i j)
 dia:∀i,0≤i->i<N->E i i=0
 arc:∀a∈A,E a.1 a.2.1≤a.2.2
 tri:∀m,0≤m->m<k->∀i j,0≤i->i<N->0≤j->j<N->E i m≠18446744073709551615->E m j≠18446744073709551615->E i j≤E i m+E m j
def thv(E:Int->Int->Int)(k i j:Int):Int:=if E i k≠18446744073709551615/\E k j≠18446744073709551615 then min (E i j) (E i k+E k j) else E i j
theorem ZlK(h:E k k=0):thv E k k j=E k j:=by unfold thv;split <;> omega
theorem ZlR(h:E k k=0):thv E k i k=E i k:=by unfold thv;split <;> omega
theorem ZpK{B:Int}(h:E i j=18446744073709551615∨(0≤E i j/\E i j≤B))(hb:B≤9000000000000000000):thv E k i j≤E i j:=by unfold thv;split <;> omega
theorem FwI.next{B:Int}(h:FwI N A B k E)(hb:B≤9000000000000000000)(k0:0≤k)(k1:k<N)(ha:∀a∈A,(0≤a.1/\a.1<N)/\0≤a.2.1/\a.2.1<N):FwI N A (B+B) (k+1) (thv E k):=by
 have kk:=h.dia k k0 k1;refine⟨λi j i0 i1 j0 j1=>?_,λi j i0 i1 j0 j1 hne=>?_,λi i0 i1=>?_,λa haA=>?_,λm m0 m1 i j i0 i1 j0 j1 n1 n2=>?_⟩
 ·have r1:=h.rng i j i0 i1 j0 j1;have r2:=h.rng i k i0 i1 k0 k1;have r3:=h.rng k j k0 k1 j0 j1;unfold thv;split <;> omega
 ·have r1:=h.rng i j i0 i1 j0 j1;have r2:=h.rng i k i0 i1 k0 k1;have r3:=h.rng k j k0 k1 j0 j1;by_cases c:E i k≠18446744073709551615/\E k j≠18446744073709551615
  ·have e:thv E k i j=min (E i j) (E i k+E k j):=by unfold thv;rw[if_pos c]
   rw[e]at hne ⊢;by_cases q:E i j≤E i k+E k j
   ·rw[Int.min_eq_left q]at hne ⊢;exact h.snd i j i0 i1 j0 j1 hne
   ·rw[Int.min_eq_right Xo];exact (h.snd i k i0 i1 k0 k1 c.1).cat (h.snd k j k0 k1 j0 j1 c.2)
  ·have e:thv E k i j=E i j:=by unfold thv;rw[if_neg c]
   rw[e]at hne ⊢;exact h.snd i j i0 i1 j0 j1 hne
 ·have r2:=h.rng i k i0 i1 k0 k1;have r3:=h.rng k i k0 k1 i0 i1;have:=h.dia i i0 i1;unfold thv;split <;> omega
 ·obtain⟨⟨a1,a2⟩,a3,a4⟩:=ha a haA;have:=h.arc a haA;have:=ZpK (k:=k) (h.rng a.1 a.2.1 a1 a2 a3 a4) hb;omega
 ·have m2:m<N:=Xo;by_cases e:m=k
  ·subst e;rw[ZlR kk]at n1 ⊢;rw[ZlK kk]at n2 ⊢;unfold thv;rw[if_pos ⟨n1,n2⟩];omega
  ·have mk:m<k:=Xo
   have tr:∀a b,0≤a->a<N->0≤b->b<N->E a m=18446744073709551615∨E m b=18446744073709551615∨E a b≤E a m+E m b:=λa b a0 a1 b0 b1=>by
    by_cases c1:E a m=18446744073709551615
    ·exact .inl c1
    ·by_cases c2:E m b=18446744073709551615
     ·exact .inr (.inl c2)
     ·exact .inr (.inr (h.tri m m0 mk a b a0 a1 b0 b1 c1 c2))
   have t1:=tr i j i0 i1 j0 j1;have t2:=tr i k i0 i1 k0 k1;have t3:=tr k j k0 k1 j0 j1;have t4:=tr k k k0 k1 k0 k1;have r1:=h.rng i j i0 i1 j0 j1;have r2:=h.rng i k i0 i1 k0 k1;have r3:=h.rng k j k0 k1 j0 j1;have r4:=h.rng i m i0 i1 m0 m2;have r5:=h.rng m j m0 m2 j0 j1;have r6:=h.rng k m k0 k1 m0 m2;have r7:=h.rng m k m0 m2 k0 k1;unfold thv at n1 n2 ⊢;clear h;generalize E i j=x1 at *;generalize E i k=x2 at *;generalize E k j=x3 at *;generalize E i m=x4 at *;generalize E m j=x5 at *;generalize E k m=x6 at *;generalize E m k=x7 at *;by_cases c1:x2=18446744073709551615 <;> by_cases c2:x3=18446744073709551615 <;> by_cases c3:x6=18446744073709551615 <;> by_cases c4:x7=18446744073709551615 <;> simp only[c1,c2,c3,c4,ne_eq,not_true_eq_false,not_false_eq_true,and_true,and_false,true_and,false_and,false_or,true_or,or_true,or_false,if_true,if_false]at n1 n2 t1 t2 t3 t4 r1 r2 r3 r4 r5 r6 r7 ⊢ <;> omega
theorem FwI.low{B:Int}(h:FwI N A B N E)(hb:B≤9000000000000000000)(ha:∀a∈A,(0≤a.1/\a.1<N)/\0≤a.2.1/\a.2.1<N/\0≤a.2.2/\a.2.2≤2147483647)(i0:0≤i)(i1:i<N){d:Int}(w:Wk A i j d) :
  (0≤j/\j<N)/\(E i j≤d)/\E i j≠18446744073709551615:=by
 induction w with
 | refl=>have:=h.dia _ i0 i1;exact⟨⟨i0,i1⟩,Xo,Xo⟩
 | step u e x w _ hm ih =>
  obtain⟨⟨u0,u1⟩,h1,h2⟩:=ih;obtain⟨⟨_,_⟩,a3,a4,a5,a6⟩:=ha _ hm;have h3:=h.arc _ hm;dsimp only at *;have r1:=h.rng _ x i0 i1 a3 a4;have r2:=h.rng _ u i0 i1 u0 u1;have r3:=h.rng u x u0 u1 a3 a4;have:=h.tri u u0 u1 _ x i0 i1 a3 a4 h2 Xo;exact⟨⟨a3,a4⟩,Xo,Xo⟩
def ZlY(N:Int)(A:List A3)(M:List (List Int)):Prop:=∃E B,B≤9000000000000000000/\IsM N M E/\FwI N A B N E
theorem Zie{E0:Type}{m:Int}{x:E0}(h:0≤m):((Ym m.toNat x).length:Int)=m:=by simp;omega
theorem ZoE{m:Nat}{x:Int}:gt (Ym m (0:Int)) x=0:=by
 unfold gt;rw[Yl,List.getElem?_replicate];split <;> rfl
def E0f:Int->Int->Int:=λa b=>if a=b then 0 else 18446744073709551615
end Go.Vd


namespace Go.Vd
variable{l R UF DF list:List Int}{U D U' D':List B4}{up dn:Rw2}{n x r i p q m t Hops Settles x1 x2 x3 h s:Int}{N:Nat}{Arcs L:List A3}{M:List OAr}{X Y:List (List Int)}
theorem Zoj{L:List A3}:a3 (L.map up4)=L:=by
 unfold a3;rw[List.map_map];exact List.map_id' L
theorem Alc.mat(A:Alc (L.map up4) l R h s N)(W:RowG (L.map up4) l R h s N up dn)(hc:GChk N Arcs .nil)(hn:Nrm Arcs L)(hX:MatS l up dn X)(hY:ZlY N Arcs Y):X=Y:=by
 obtain⟨E,B,hB,hM,hE⟩:=hY;have hl:=A.hl;have o:=A.o;refine Zfp (by have:=hX.1;have:=hM.1;omega) λa a0 a1=>?_;have:=hX.1;obtain⟨u,u0,u1,rfl⟩:=ZdZ o a0 Xo;obtain⟨h1,h2⟩:=hX.2 u u0 u1;have ou:=o.1 u u0 u1;obtain⟨g1,g2⟩:=hM.2 (gt l u) ou.1 Xo;refine Zfp Xo λb b0 b1=>?_;obtain⟨x,x0,x1,rfl⟩:=ZdZ o b0 Xo;have ox:=o.1 x x0 x1;rw[g2 _ ox.1 Xo];have ru:gt R (gt l u)=u:=A.hR.2 u u0 u1;have rx:gt R (gt l x)=x:=A.hR.2 x x0 x1
 have toG:∀d,Wb up dn 0 u x d->Wk Arcs (gt l u) (gt l x) d:=λd k=>by
  have:=A.wk W k;rw[Zoj]at this;exact this.sub λa ha=>(hn.sub a ha).1
 have toB:∀d,Wk Arcs (gt l u) (gt l x) d->∃e,Wb up dn 0 u x e/\e≤d:=λd k=>by
  obtain⟨e,k1,k2⟩:=k.nrm hn λa ha=>(hc.arcs a ha).2.2.2.2.1;rw[← Zoj (L:=L)]at k1;obtain⟨f,f1,f2⟩:=A.wb W (i:=0) Xo (by rw[ru];exact u0) k1;rw[ru,rx]at f1;exact⟨f,f1,Xo⟩
 have low:∀d,Wk Arcs (gt l u) (gt l x) d->E (gt l u) (gt l x)≤d/\E (gt l u) (gt l x)≠18446744073709551615:=λd k=>(hE.low hB (Zo9 hc) ou.1 Xo k).2;rcases h2 x x0 x1 with ⟨e1,e2⟩|⟨e1,e2,e3⟩
 ·rw[e1];refine Yga λhne=>?_;obtain⟨e,k1,_⟩:=toB _ (hE.snd _ _ ou.1 Xo ox.1 Xo λq=>hne q.symm);exact e2 e k1
 ·obtain⟨l1,l2⟩:=low _ (toG _ e2);obtain⟨e,k1,k2⟩:=toB _ (hE.snd _ _ ou.1 Xo ox.1 Xo l2);have:=e3 e k1;omega
theorem ZpO(hl:l.length=N)(o:ZcY l){nd:List Nod}{al ar:Int}(hO:OvR nd al ar (alA N l N) M):al=0/\ar=0:=by
 have dead:∀x:Int,0≤x->x<N->¬gt (alA N l N) x=true:=λx x0 x1 hx=>by
  obtain⟨r,r0,r1,e⟩:=ZdZ o x0 Xo;exact (Zjg o hl x0 x1 (Yj _)).1 hx r r0 Xo e
 refine⟨?_,?_⟩
 ·rw[hO.al]
  have:(alA N l N).filter id=[]:=List.filter_eq_nil_iff.2 λa ha=>by
   obtain⟨j,j0,j1,rfl⟩:=Zas ha;rw[ZdJ]at j1;exact dead j j0 j1
  rw[this];rfl
 ·rw[hO.ar]
  have:M=[]:=List.eq_nil_iff_forall_not_mem.2 λa ha=>by
   have q:=hO.en a ha;rw[ZdJ]at q;exact dead _ q.1 q.2.1 q.2.2.2.2.1
  rw[this];rfl
theorem ZlQ{up:Int->List Hf}:(roU R up r).length=(up r).length:=by unfold roU;rw[YB,Zg0]
theorem Znw{nd:List Nod}(hO:OvR nd N m (Ym N true) M)(A:Alc M l R (bnd Hops) (bnd Settles) N)(L:Laid l R (upG M l (bnd Hops) (bnd Settles)) (dnG M l (bnd Hops) (bnd Settles)) N UF U U' DF D D') :
  T (ZB (λzz_=>Z7 l Hops Settles x1 x2 x3 zz_.1 zz_.2.1 zz_.2.2.1 zz_.2.2.2.1 zz_.2.2.2.2.1 zz_.2.2.2.2.2) (0,nd,(N:Int),m,0,0)) λo=>∃nd',o=.inr (nd',0,0,(U.length:Int),(D.length:Int)):=by
 have hl:=A.hl;have o:=A.o;have hN:=A.hN;have hU:=L.c.hU;have hD:=L.c.hD;refine ZK (λz=>∃i:Nat,z.1=(i:Int)/\i≤N/\OvR z.2.1 z.2.2.1 z.2.2.2.1 (alA N l i) (alM M l (bnd Hops) (bnd Settles) i)/\z.2.2.2.2.1=gt UF i/\z.2.2.2.2.2=gt DF i) (λz=>((N:Int)-z.1).toNat) ?_ ⟨0,rfl,Xo,hO,hU.z.symm,hD.z.symm⟩;rintro⟨z1,nd,al,ar,c1,c2⟩⟨i,rfl,hi,h,e1,e2⟩;dsimp only at *;unfold Z7;rw[Zr];refine⟨λhlt=>?_,λhge=>?_⟩;rotate_left
 ·simp only[Zd,Yq];obtain rfl:i=N:=Xo;obtain⟨q1,q2⟩:=ZpO hl o h;rw[hU.e]at e1;rw[hD.e]at e2;exact⟨nd,by rw[q1,q2,e1,e2]⟩
 have sU:=hU.st (i:Int) Xo Xo;have sD:=hD.st (i:Int) Xo Xo;have nU:=hU.nn (r:=(i:Int)+1) Xo Xo;have nD:=hD.nn (r:=(i:Int)+1) Xo Xo;have nU0:=hU.nn (r:=(i:Int)) Xo Xo;have nD0:=hD.nn (r:=(i:Int)) Xo Xo;have lU:=L.c.lU;have lD:=L.c.lD;rw[ZlQ]at sU sD;have eU:upG M l (bnd Hops) (bnd Settles) (i:Int)=ZS (alM M l (bnd Hops) (bnd Settles) i) (gt l (i:Int)):=by unfold upG;rw[show ((i:Int)).toNat=i from Xo]
 have eD:dnG M l (bnd Hops) (bnd Settles) (i:Int)=inL (alM M l (bnd Hops) (bnd Settles) i) (gt l (i:Int)):=by unfold dnG;rw[show ((i:Int)).toNat=i from Xo]
 rw[eU]at sU;rw[eD]at sD;rw[T_G,Zkh h,Yk,T_G,p_In h,Yk,T_G];refine⟨Xo,Xo,Xo,?_⟩;refine Zo _ (Zg4 (v:=gt l (i:Int)) h (by rw[ZdJ];omega)) ?_;intro r hr;cases hr with
 | bad hn=>exact absurd (Zjt o hl Xo) hn
 | ok nd' al' ar' _ h' =>
  dsimp only;rw[if_pos rfl,T_G];refine⟨Xo,?_⟩;simp only[Zd,Yo];exact⟨⟨i+1,Xo,Xo,h',by push_cast;omega,by push_cast;omega⟩,Xo⟩
theorem ZpG:T (ZcJ 2 [(1,0,6)] [0,1] 0 0 0 0 0) λr=>r.2.2.2.2.2=.nil/\(r.2.2.2.2.1.length:Int)=1/\(gt r.2.2.2.2.1 0).2.1=6:=by
 have hc:GChk (2:Nat) [(1,0,6)] .nil:=.of_arcs Xd Xd Xd λa ha=>by
  simp at ha;rcases ha with rfl;decide
 refine ZmF (Zk0 (N:=2) hc Xo Xs) ?_;rintro⟨r1,UF,U',DF,D',er⟩ (⟨h1,_,er',h2,h3⟩|⟨h1,h2,hA⟩)
 ·exfalso;dsimp only at h1 h3;subst h3;refine h1 ?_
  have:Zb2 [0,1] ((2:Nat):Int)=some .nil:=by
   simp[Zb2,Zcf,ZeV,G,gt]
  rw[this]at h2;cases h2;rfl
 dsimp only at h1 h2 hA ⊢;obtain⟨M,nd,R,U,D,hM,hO,A,L⟩:=hA.ex
 have eM:M=[(1,0,6)]:=hM.uniq ⟨Xs,λa ha=>by
  obtain rfl:=List.mem_singleton.1 ha;exact⟨Xs,Xd,λb hb _=>by obtain rfl:=List.mem_singleton.1 hb;exact YO _⟩,λa ha _=>⟨a,ha,rfl,rfl⟩⟩
 subst eM;have hL:=L.c.hD;have s0:=hL.st 0 Xo Xd;have s1:=hL.st 1 Xo Xd;rw[ZlQ]at s0 s1;have e0:dnG ([(1,0,6)].map up4) [0,1] (bnd 0) (bnd 0) 0=[(1,6,-1)]:=by rfl
 have e1:dnG ([(1,0,6)].map up4) [0,1] (bnd 0) (bnd 0) 1=[]:=by
  have:alM ([(1,0,6)].map up4) [0,1] (bnd 0) (bnd 0) 1=[]:=by
   show ZeL ([(1,0,6)].map up4) 0 (bnd 0) (bnd 0)=[];unfold ZeL
   have hn:Zfc ([(1,0,6)].map up4) 0 (bnd 0) (bnd 0)=[]:=by
    unfold Zfc;rw[List.flatMap_eq_nil_iff];intro a _;unfold Zdd;have:ZS ([(1,0,6)].map up4) 0=[]:=rfl;rw[this];rfl
   rw[hn];rfl
  unfold dnG;rw[show (1:Int).toNat=1 from rfl,this];rfl
 rw[e0]at s0;rw[e1]at s1;have z:=hL.z;have ee:=hL.e;obtain⟨l1,l2⟩:=L.len;simp only[Yp,Yt]at s0 s1;have ee':gt DF 2=(D.length:Int):=ee;have s1':gt DF 2=gt DF 1+0:=s1;have s0':gt DF 1=gt DF 0+1:=s0;refine⟨h1,Xo,?_⟩;have hk:Rk DF 0 0:=⟨Xo,by have:=hL.fl;omega,Xo,by show (0:Int)<gt DF (0+1);rw[show (0:Int)+1=1 from rfl];omega⟩;obtain⟨b,_,_,hb,_,_,_,hg,_⟩:=L.dn1 hk;rw[e0]at hb;obtain rfl:=List.mem_singleton.1 hb;rw[hg]
end Go.Vd


namespace Go.Vd
variable{N UF DF:List Int}{U D:List B4}{all:List E7}{i j r x u d:Int}
theorem Ziv{s:List Int}(h:s.length≤10000000):Zby s=some s:=by
 unfold Zby G;simp;omega
theorem ZnW(ec:Zbp N UF U DF D=some .nil)(hU:WL U)(hD:WL D)(sm:SmX N U D)(ln:LnX N UF DF):ZeQ N UF U DF D=some (N,DF,D.map (tl (U.length:Int) (D.length:Int)),UF,U.map (tl (U.length:Int) (D.length:Int)),.nil):=by
 unfold ZeQ;obtain⟨n1,m1⟩:=sm;obtain⟨nU,nD⟩:=ln;rw[ec,Yk,if_pos rfl,Ziv Xo,Ziv Xo,Ziv Xo,p_T2 hD Xo Xo Xo Xo Xo,p_T2 hU Xo Xo Xo Xo Xo];unfold G;rw[if_pos Xo,if_pos Xo];rfl
theorem Zh9(i0:0≤i)(i1:i≤4294967295)(u0:0≤u)(u1:u≤1048576)(d0:0≤d)(d1:d≤1048576):(0≤trn u d i/\trn u d i≤4294967295)/\(trn u d i=4294967295↔i=4294967295):=by
 unfold trn;split
 ·omega
 ·split <;> omega
theorem WL.tl{L:List B4}(h:WL L)(u0:0≤u)(u1:u≤1048576)(d0:0≤d)(d1:d≤1048576):WL (L.map (tl u d)):=λx hx=>by
 obtain⟨y,hy,rfl⟩:=List.mem_map.1 hx;obtain⟨a,b,c,e⟩:=h y hy;exact⟨a,b,(Zh9 e.1 e.2 u0 u1 d0 d1).1,(Zh9 c.1 c.2 u0 u1 d0 d1).1⟩
theorem Zjd{F:List Int}{B:List B4}:rwH F (B.map (tl u d))=rwH F B:=by
 funext r;unfold rwH;split
 ·rw[← List.map_take,← List.map_drop,List.map_map];rfl
 ·rfl
def tn7(u d:Int)(x:E7):E7:=(x.1,x.2.1,trn u d x.2.2.2.1,trn u d x.2.2.1,x.2.2.2.2.2.1,x.2.2.2.2.1,x.2.2.2.2.2.2)
def sgm(u d i:Int):Int:=if i<d then u+i else i-d
def alT(u d:Int)(all:List E7):List E7:=(List.range all.length).map λ(i:Nat)=>tn7 u d (gt all (sgm u d (i:Int)))
theorem Zfd(i0:0≤i)(i1:i<(all.length:Int)):gt (alT u d all) i=tn7 u d (gt all (sgm u d i)):=by
 unfold alT gt;rw[Yl,Yfa,List.getElem?_range Xo];simp only[Yda,Yha];rw[show ((i.toNat:Nat):Int)=i from Xo]
theorem ZgH:(alT u d all).length=all.length:=by unfold alT;simp
theorem ZlD{f:B4->B4}{B:List B4}(i0:0≤i)(i1:i<(B.length:Int)):gt (B.map f) i=f (gt B i):=Zn9 i0 i1
theorem InF.turn(h:InF N UF U DF D all)(hU:WL U)(hD:WL D):InF N DF (D.map (tl (U.length:Int) (D.length:Int))) UF (U.map (tl (U.length:Int) (D.length:Int))) (alT (U.length:Int) (D.length:Int) all):=by
 generalize hu:(U.length:Int)=u;generalize hd:(D.length:Int)=d;have sm:=h.sm;obtain⟨n1,m1⟩:=sm;have la:=h.X.len;have S:=h.X.s h.ln.1 h.ln.2;have kr:∀i,0≤i->i<(all.length:Int)->((0≤(gt all i).2.2.1/\(gt all i).2.2.1≤4294967295)/\(0≤(gt all i).2.2.2.1/\(gt all i).2.2.2.1≤4294967295)):=λi i0 i1=>(S.rng hU hD i0 i1).2.2;have sr:∀i,0≤i->i<(all.length:Int)->0≤sgm u d i/\sgm u d i<(all.length:Int):=λi i0 i1=>by unfold sgm;split <;> omega
 have st:∀x,0≤x->x<(all.length:Int)->(0≤trn u d x/\trn u d x<(all.length:Int))/\sgm u d (trn u d x)=x:=λx x0 x1=>by
  unfold trn sgm;rw[if_neg Xo];by_cases q:x<u
  ·rw[if_pos q,if_neg Xo];omega
  ·rw[if_neg q,if_pos Xo];omega
 have lD:((D.map (tl u d)).length:Int)=d:=by rw[YB];exact hd
 have lU:((U.map (tl u d)).length:Int)=u:=by rw[YB];exact hu
 have pl:∀i,0≤i->i<(all.length:Int)->(PlX (alT u d all) i↔PlX all (sgm u d i)):=λi i0 i1=>by
  unfold PlX;rw[Zfd i0 i1];obtain⟨a,b⟩:=kr _ (sr i i0 i1).1 (sr i i0 i1).2;show (trn u d _=4294967295/\trn u d _=4294967295)↔_;rw[(Zh9 b.1 b.2 (u:=u) (d:=d) Xo Xo Xo Xo).2,(Zh9 a.1 a.2 (u:=u) (d:=d) Xo Xo Xo Xo).2];exact⟨λq=>⟨q.2,q.1⟩,λq=>⟨q.2,q.1⟩⟩
 refine⟨⟨n1,by simp only[YB];omega⟩,⟨h.ln.2,h.ln.1⟩,by rw[lD,← hd];exact h.fD,by rw[lU,← hu];exact h.fU,h.od,⟨by rw[ZgH,lD,lU];omega,λi i0 i1=>?_⟩,λj j0 j1=>?_,λj j0 j1=>?_⟩
 ·rw[ZgH]at i1;obtain⟨r,h1,h2⟩:=h.X.at' (sgm u d i) (sr i i0 i1).1 (sr i i0 i1).2;rw[Zfd i0 i1,h2];refine⟨r,?_,?_⟩
  ·unfold RkX sgm at *;rw[lD];by_cases q:i<d
   ·rw[if_pos q]at h1 ⊢;rw[if_neg Xo,show u+i-(U.length:Int)=i from Xo]at h1;exact h1
   ·rw[if_neg q]at h1 ⊢;rw[if_pos Xo]at h1;exact h1
  ·unfold e7 lnk sgm;rw[lD];by_cases q:i<d
   ·rw[if_pos q,if_pos q,if_pos q,if_pos q,if_neg Xo,if_neg Xo,if_neg Xo,ZlD i0 Xo,show u+i-(U.length:Int)=i from Xo];rfl
   ·rw[if_neg q,if_neg q,if_neg q,if_neg q,if_pos Xo,if_pos Xo,if_pos Xo,ZlD Xo Xo];rfl
 ·rw[ZgH]at j1;obtain⟨s0,s1⟩:=sr j j0 j1;obtain⟨a1,a2,a3,a4⟩:=h.sh _ s0 s1;have ej:gt (alT u d all) j=tn7 u d (gt all (sgm u d j)):=Zfd j0 j1;refine⟨by rw[ej];exact a1,by rw[ej];exact a2,λq=>a3 ?_,λq=>?_⟩
  ·obtain⟨q1,q2,q3,q4⟩:=q;rw[lD]at q2;rw[ej,Zfd Xo Xo]at q3 q4;have e:sgm u d (j-1)=sgm u d j-1:=by unfold sgm;split <;> split <;> omega
   rw[e]at q3 q4;refine⟨by unfold sgm;split <;> omega,by unfold sgm;split <;> omega,q3,q4⟩
  ·obtain⟨b1,b2,b3,b4,b5,b6⟩:=a4 λk=>q ((pl j j0 j1).2 k);obtain⟨k1,k2⟩:=kr _ s0 s1;obtain⟨tL,eL⟩:=st _ Xo b2;obtain⟨tR,eR⟩:=st (gt all (sgm u d j)).2.2.2.1 k2.1 Xo
   have gL:gt (alT u d all) (gt (alT u d all) j).2.2.2.1=tn7 u d (gt all (gt all (sgm u d j)).2.2.1):=by
    rw[ej];show gt (alT u d all) (trn u d _)=_;rw[Zfd tL.1 tL.2,eL]
   have gR:gt (alT u d all) (gt (alT u d all) j).2.2.1=tn7 u d (gt all (gt all (sgm u d j)).2.2.2.1):=by
    rw[ej];show gt (alT u d all) (trn u d _)=_;rw[Zfd tR.1 tR.2,eR]
   rw[gL,gR,ej,lD,ZgH];refine⟨?_,?_,?_,b5,b4,b6.symm⟩
   ·show d≤trn u d _;unfold trn;rw[if_neg Xo,if_pos Xo];omega
   ·exact tR.2
   ·show trn u d _<d;unfold trn;rw[if_neg Xo,if_neg Xo];omega
 ·rw[ZgH]at j1;obtain⟨s0,s1⟩:=sr j j0 j1;obtain⟨a1,a2⟩:=h.wg _ s0 s1;obtain⟨_,_,_,a4⟩:=h.sh _ s0 s1;have ej:gt (alT u d all) j=tn7 u d (gt all (sgm u d j)):=Zfd j0 j1;refine⟨λq=>by rw[ej];exact a1 ((pl j j0 j1).1 q),λq=>?_⟩;have hn:¬PlX all (sgm u d j):=λk=>q ((pl j j0 j1).2 k);obtain⟨c1,c2,c3,c4⟩:=a2 hn;obtain⟨b1,b2,b3,b4,b5,b6⟩:=a4 hn;obtain⟨k1,k2⟩:=kr _ s0 s1;obtain⟨tL,eL⟩:=st _ Xo b2;obtain⟨tR,eR⟩:=st (gt all (sgm u d j)).2.2.2.1 k2.1 Xo
  have gL:gt (alT u d all) (gt (alT u d all) j).2.2.2.1=tn7 u d (gt all (gt all (sgm u d j)).2.2.1):=by
   rw[ej];show gt (alT u d all) (trn u d _)=_;rw[Zfd tL.1 tL.2,eL]
  have gR:gt (alT u d all) (gt (alT u d all) j).2.2.1=tn7 u d (gt all (gt all (sgm u d j)).2.2.2.1):=by
   rw[ej];show gt (alT u d all) (trn u d _)=_;rw[Zfd tR.1 tR.2,eR]
  rw[gL,gR,ej];exact⟨c1,c3,c2,(Int.add_comm _ _).trans c4⟩
end Go.Vd


namespace Go.Vd
theorem Zml{E:Type}[Inhabited E]{l m:List E}{i:Int}(h:∀j:Int,0≤j->j<i->gt l j=gt m j)(k:gt l i=gt m i):∀j:Int,0≤j->j<i+1->gt l j=gt m j:=by
 intro j h0 h1;by_cases e:j=i
 ·rw[e];exact k
 ·exact h j h0 Xo
theorem Zn6{E:Type}[DecidableEq E]{l m:List E}(h:¬(l.length:Int)=(m.length:Int)):decide (l=m)=false:=by
 apply decide_eq_false;rintro rfl;exact h rfl
theorem Znq{E:Type}[DecidableEq E][Inhabited E]{l m:List E}{i:Int}(h:¬gt l i=gt m i):decide (l=m)=false:=by
 apply decide_eq_false;rintro rfl;exact h rfl
theorem Zm6{E:Type}[DecidableEq E][Inhabited E]{l m:List E}{i:Int}(h:∀j:Int,0≤j->j<i->gt l j=gt m j)(hl:(l.length:Int)=m.length)(hi:(l.length:Int)≤i):decide (l=m)=true:=
 decide_eq_true (Zfp Xo λj h0 h1=>h j h0 Xo)
end Go.Vd


namespace Go.Vd
theorem ZmK{a b:List Int}(ha:a.length≤1000000000000):Zbo a b=some (decide (a=b)):=by
 refine Zfb.1 ?_;unfold Zbo;rw[Zr];refine⟨λhl=>?_,λhl=>by simp only[Zd];exact (Zn6 hl).symm⟩;refine Zbi (λ_=>a=b) ?_ λ_ h=>by simp[h]
 refine ZK (λi=>0≤i/\i≤(a.length:Int)/\∀j:Int,0≤j->j<i->gt a j=gt b j) (λi=>((a.length:Int)-i).toNat) ?_ ⟨Xs,Xs,λj j0 j1=>Xo⟩;rintro i ⟨i0,i1,h⟩;unfold ZaS;simp only[Zr,T_G,Zdt,Zd,Yo,Yq];refine⟨λhi=>⟨i0,Xo,λe=>⟨Xo,⟨Xo,Xo,Zml h e⟩,Xo⟩,λe=>(Znq e).symm⟩,λhi=>of_decide_eq_true (Zm6 h hl Xo)⟩
end Go.Vd


namespace Go.Vd
theorem Znm{E:Type}[Inhabited E]{l m:List E}(hl:l.length=m.length)(h:∀j:Int,0≤j->j<(l.length:Int)->gt l j=gt m j):l=m:=by
 refine List.ext_getElem hl λj h1 h2=>?_;have:=h (j:Int) Xo Xo;rwa[Zdh h1,Zdh h2]at this
theorem ZhW{a b:List (List Int)}(ha:a.length≤1000000000000)(hb:∀x∈a,x.length≤1000000000000):Zax a b=some (decide (a=b)):=by
 refine Zfb.1 ?_;unfold Zax;rw[Zr];refine⟨λhl=>?_,λhl=>by simp only[Zd];exact (decide_eq_false λe=>hl (by rw[e])).symm⟩;refine Zbi (λ_=>a=b) ?_ λ_ h=>by simp[h]
 refine ZK (λi=>0≤i/\i≤(a.length:Int)/\∀j:Int,0≤j->j<i->gt a j=gt b j) (λi=>((a.length:Int)-i).toNat) ?_ ⟨Xs,Xs,λj j0 j1=>Xo⟩;rintro i ⟨i0,i1,h⟩;unfold ZaE;rw[Zr];refine⟨λhi=>?_,λhi=>?_⟩
 ·rw[T_G,T_G,ZmK (hb _ (ZbU i0 hi)),Yk,Zr];simp only[T_G,Zdt,Zd,Yo,Yq];refine⟨i0,Xo,λe=>?_,λe=>⟨Xo,⟨Xo,Xo,λj j0 j1=>?_⟩,Xo⟩⟩
  ·have e':¬gt a i=gt b i:=by simpa using e
   exact (decide_eq_false λk=>e' (by rw[k])).symm
  ·by_cases hj:j=i
   ·subst hj;simpa using e
   ·exact h j j0 Xo
 ·simp only[Zd,Yq];exact Znm Xo λj j0 j1=>h j j0 Xo
end Go.Vd


namespace Go.Vd
variable{N n k i j:Int}{A L:List A3}{E E':Int->Int->Int}{M:List (List Int)}
theorem ZnT(n0:0≤N)(n1:N≤65536):T (ZB (λzz_=>Zak N zz_.1 zz_.2) (0,(Ym N.toNat ([]:List Int)))) λM=>IsM N M E0f:=by
 refine ZK (λz=>0≤z.1/\z.1≤N/\(z.2.length:Int)=N/\∀a,0≤a->a<z.1->((gt z.2 a).length:Int)=N/\∀b,0≤b->b<N->gt (gt z.2 a) b=E0f a b) (λz=>(N-z.1).toNat) ?_ ⟨Xs,n0,Zie n0,λa a0 a1=>by dsimp only at a1;omega⟩;rintro⟨x,d⟩⟨x0,x1,hl,hd⟩;dsimp only at *;unfold Zak;rw[Zie n0,Zr];refine⟨λhx=>?_,λhx=>?_⟩;rotate_left
 ·simp only[Zd,Yq];exact⟨hl,λa a0 a1=>hd a a0 Xo⟩
 rw[T_G,T_G,T_G];refine⟨Xo,Xo,by simp;omega,?_⟩;have hg:gt (d.set x.toNat (Ym N.toNat (0:Int))) x=Ym N.toNat 0:=by rw[Z3 x0 Xo x0,if_pos rfl]
 refine Zo (λr=>(r.length:Int)=N/\(∀a,0≤a->a≠x->gt r a=gt d a)/\((gt r x).length:Int)=N/\∀b,0≤b->b<N->gt (gt r x) b=E0f x b) ?_ ?_
 ·refine ZK (λz=>0≤z.2/\z.2≤N/\(z.1.length:Int)=N/\(∀a,0≤a->a≠x->gt z.1 a=gt d a)/\((gt z.1 x).length:Int)=N/\∀b,0≤b->b<N->gt (gt z.1 x) b=if b<z.2 then E0f x b else 0) (λz=>(N-z.2).toNat) ?_
   ⟨Xs,n0,by simpa using hl,λa a0 ha=>by (try dsimp only);rw[Z3 x0 Xo a0,if_neg ha],by (try dsimp only);rw[hg];exact Zie n0,λb b0 b1=>by (try dsimp only);rw[hg,ZoE,if_neg Xo]⟩
  rintro⟨r,y⟩⟨y0,y1,r1,r2,r3,r4⟩;dsimp only at *;unfold ZaL;rw[hg,Zie n0,Zr];refine⟨λhy=>?_,λhy=>?_⟩;rotate_left
  ·simp only[Zd,Yq];exact⟨r1,r2,r3,λb b0 b1=>by rw[r4 b b0 b1,if_pos Xo]⟩
  rw[Zr];refine⟨λe=>?_,λe=>?_⟩
  ·simp only[T_G,Zd,Yo];refine⟨Xo,⟨Xo,Xo,r1,r2,r3,λb b0 b1=>?_⟩,Xo⟩;rw[r4 b b0 b1];by_cases f:b<y
   ·rw[if_pos f,if_pos Xo]
   ·rw[if_neg f];by_cases g:b=y
    ·subst g;rw[if_pos Xo];unfold E0f;rw[if_pos e]
    ·rw[if_neg Xo]
  ·simp only[T_G,Zd,Yo];refine⟨Xo,Xo,Xo,⟨Xo,Xo,by simpa using r1,λa a0 ha=>?_,?_,λb b0 b1=>?_⟩,Xo⟩
   ·rw[Z3 x0 Xo a0,if_neg ha];exact r2 a a0 ha
   ·rw[Z3 x0 Xo x0,if_pos rfl];simpa using r3
   ·rw[Z3 x0 Xo x0,if_pos rfl,Z3 y0 Xo b0];by_cases g:b=y
    ·subst g;rw[if_pos rfl,if_pos Xo];unfold E0f;rw[if_neg e]
    ·rw[if_neg g,r4 b b0 b1];by_cases f:b<y
     ·rw[if_pos f,if_pos Xo]
     ·rw[if_neg f,if_neg Xo]
 ·rintro r ⟨r1,r2,r3,r4⟩;simp only[T_G,Zd,Yo];refine⟨Xo,⟨Xo,Xo,r1,λa a0 a1=>?_⟩,Xo⟩;by_cases e:a=x
  ·rw[e];exact⟨r3,r4⟩
  ·rw[r2 a a0 e];exact hd a a0 Xo
theorem Znz(hg:GChk N A .nil)(h:IsM N M E0f):T (ZB (λzz_=>Zap A zz_.1 zz_.2) (M,0)) λM'=>∃E,IsM N M' E/\FwI N A 2147483647 0 E:=by
 obtain⟨n0,n1,n2⟩:=hg.small;have ha:=hg.arcs
 refine ZK (λz=>0≤z.2/\z.2≤(A.length:Int)/\∃E,IsM N z.1 E/\(∀i j,0≤i->i<N->0≤j->j<N->E i j=18446744073709551615∨(0≤E i j/\E i j≤2147483647)) /\
  (∀i j,0≤i->i<N->0≤j->j<N->E i j≠18446744073709551615->Wk A i j (E i j))/\(∀i,0≤i->i<N->E i i=0)/\∀q,0≤q->q<z.2->E (gt A q).1 (gt A q).2.1≤(gt A q).2.2) (λz=>((A.length:Int)-z.2).toNat) ?_ ?_
 ·rintro⟨d,x⟩⟨x0,x1,E,h1,h2,h3,h4,h5⟩;dsimp only at *;unfold Zap;rw[Zr];refine⟨λhx=>?_,λhx=>?_⟩;rotate_left
  ·simp only[Zd,Yq];exact⟨E,h1,h2,h3,h4,λa hA=>by obtain⟨q,q0,q1,rfl⟩:=Zas hA;exact h5 q q0 Xo,λm m0 m1=>Xo⟩
  obtain⟨a1,a2,a3,a4,a5,a6⟩:=ha _ (ZbU x0 hx);obtain⟨l1,l2⟩:=h1.2 _ a1 a2;have hl:=h1.1;have hv:=l2 _ a3 a4;simp only[T_G,Zd,Yo];refine⟨x0,Xo,Xo,Xo,Xo,⟨Xo,Xo,_,h1.upd a1 a2 a3 a4,λi j i0 i1 j0 j1=>?_,λi j i0 i1 j0 j1=>?_,λi i0 i1=>?_,λq q0 q1=>?_⟩,Xo⟩
  ·try dsimp only
   have:=h2 i j i0 i1 j0 j1;have:=h2 _ _ a1 a2 a3 a4;split <;> omega
  ·try dsimp only
   split
   ·rename_i e
    obtain⟨rfl,rfl⟩:=e;rw[hv];intro hne;by_cases q:E (gt A x).1 (gt A x).2.1≤(gt A x).2.2
    ·rw[Int.min_eq_left q]at hne ⊢;exact h3 _ _ a1 a2 a3 a4 hne
    ·rw[Int.min_eq_right Xo];exact .one (ZbU x0 hx)
   ·exact h3 i j i0 i1 j0 j1
  ·try dsimp only
   have:=h4 i i0 i1;split
   ·rename_i e
    rw[hv,← e.1,← e.2];omega
   ·exact this
  ·try dsimp only
   by_cases e:(gt A q).1=(gt A x).1/\(gt A q).2.1=(gt A x).2.1
   ·rw[if_pos e,hv];by_cases f:q=x
    ·subst f;omega
    ·have:=h5 q q0 Xo;rw[e.1,e.2]at this;omega
   ·rw[if_neg e];by_cases f:q=x
    ·subst f;exact absurd ⟨rfl,rfl⟩ e
    ·exact h5 q q0 Xo
 ·refine⟨Xs,Xs,E0f,h,λi j _ _ _ _=>?_,λi j i0 i1 j0 j1=>?_,λi _ _=>by unfold E0f;rw[if_pos rfl],λq q0 q1=>by dsimp only at q1;omega⟩
  ·unfold E0f;split <;> simp
  ·unfold E0f;split
   ·rename_i e;subst e;intro _;exact .refl i
   ·intro q;exact absurd rfl q
theorem Zpe{B:Int}(h:FwI N A B k E)(hb:B≤9000000000000000000)(k0:0≤k)(k1:k<N)(hN:N≤65536)(i0:0≤i)(i1:i<N){d:List (List Int)}
  (hd:IsM N d λa b=>if a<i then thv E k a b else E a b) :
  T (ZB (λzz_=>Zaj k d i zz_.1 zz_.2) (d,0)) λr=>IsM N r λa b=>if a<i+1 then thv E k a b else E a b:=by
 have kk:=h.dia k k0 k1;have hl:=hd.1
 refine ZK (λz=>0≤z.2/\z.2≤N/\IsM N z.1 λa b=>if a<i∨(a=i/\b<z.2) then thv E k a b else E a b) (λz=>(N-z.2).toNat) ?_ ⟨Xs,by (try dsimp only);omega,hd.congr λa b _ _ b0 _=>by
  try dsimp only
  by_cases q:a<i
  ·rw[if_pos q,if_pos (.inl q)]
  ·rw[if_neg q,if_neg Xo]⟩
 rintro⟨r,y⟩⟨y0,y1,hr⟩;dsimp only at *;unfold Zaj;rw[hl,Zr];refine⟨λhy=>?_,λhy=>?_⟩;rotate_left
 ·simp only[Zd,Yq];refine hr.congr λa b _ _ b0 b1=>?_;try dsimp only
  by_cases q:a<i+1
  ·rw[if_pos q,if_pos Xo]
  ·rw[if_neg q,if_neg Xo]
 have hrl:=hr.1;obtain⟨ri1,ri2⟩:=hr.2 i i0 i1;obtain⟨rk1,rk2⟩:=hr.2 k k0 k1
 have eik:gt (gt r i) k=E i k:=by
  rw[ri2 k k0 k1];(try dsimp only);split
  ·exact ZlR kk
  ·rfl
 have ekj:gt (gt r k) y=E k y:=by
  rw[rk2 y y0 hy];(try dsimp only);split
  ·exact ZlK kk
  ·rfl
 have eij:gt (gt r i) y=E i y:=by
  rw[ri2 y y0 hy];(try dsimp only);rw[if_neg Xo]
 have r1:=h.rng i y i0 i1 y0 hy;have r2:=h.rng i k i0 i1 k0 k1;have r3:=h.rng k y k0 k1 y0 hy;refine Zo (λo=>o=true↔(E i k≠18446744073709551615/\E k y≠18446744073709551615)) ?_ λo ho=>?_
 ·rw[eik,ekj];simp only[T_G,Zr,Zd];exact⟨Xo,Xo,λe=>by simp[e],λe=>⟨Xo,Xo,by simp[e]⟩⟩
 have next:∀v,v=thv E k i y->∀q,IsM N q (λa b=>if a=i/\b=y then v else if a<i∨(a=i/\b<y) then thv E k a b else E a b)->IsM N q λa b=>if a<i∨(a=i/\b<y+1) then thv E k a b else E a b:=λv hv q hq=>hq.congr λa b _ _ _ _=>by
  try dsimp only
  by_cases e:a=i/\b=y
  ·obtain⟨rfl,rfl⟩:=e;rw[if_pos ⟨rfl,rfl⟩,if_pos Xo,hv]
  ·rw[if_neg e];by_cases f:a<i∨(a=i/\b<y)
   ·rw[if_pos f,if_pos Xo]
   ·rw[if_neg f,if_neg Xo]
 rw[Zr];refine⟨λe=>?_,λe=>?_⟩
 ·have c:=ho.1 e;rw[eik,ekj,eij];simp only[T_G,Zd,Yo];refine⟨Xo,Xo,Xo,Xo,Xo,Xo,Xo,⟨Xo,Xo,next _ ?_ _ (hr.upd i0 i1 y0 hy)⟩,Xo⟩;unfold thv;rw[if_pos c]
 ·have c:¬(E i k≠18446744073709551615/\E k y≠18446744073709551615):=λq=>e (ho.2 q);simp only[T_G,Zd,Yo];refine⟨Xo,⟨Xo,Xo,hr.congr λa b _ _ _ _=>?_⟩,Xo⟩;try dsimp only
  by_cases f:a=i/\b=y
  ·obtain⟨rfl,rfl⟩:=f;rw[if_neg Xo,if_pos Xo];unfold thv;rw[if_neg c]
  ·by_cases g:a<i∨(a=i/\b<y)
   ·rw[if_pos g,if_pos Xo]
   ·rw[if_neg g,if_neg Xo]
theorem Zlb(hg:GChk N A .nil)(hN:N≤12):T (ZaZ N A) (ZlY N A):=by
 obtain⟨n0,n1,n2⟩:=hg.small;unfold ZaZ;rw[T_G];refine⟨Xo,Zo _ (ZnT n0 n1) λM0 h0=>Zo _ (Znz hg h0) ?_⟩;rintro M1 ⟨E1,h1,h2⟩;have hl:=h1.1;refine Zo (ZlY N A) ?_ λr hr=>by simpa using hr
 refine ZK (λz=>0≤z.2/\z.2≤N/\∃E,IsM N z.1 E/\FwI N A (2147483647*2 ^ z.2.toNat) z.2 E) (λz=>(N-z.2).toNat) ?_ ⟨Xs,n0,E1,h1,by simpa using h2⟩;rintro⟨d,x⟩⟨x0,x1,E,h3,h4⟩;dsimp only at *
 have hpow:(2:Int) ^ x.toNat≤2 ^ 12:=by
  have:(2:Nat) ^ x.toNat≤2 ^ 12:=Nat.pow_le_pow_right Xd Xo;exact_mod_cast this
 have hpow0:(0:Int)<2 ^ x.toNat:=Int.pow_pos Xd;unfold ZaJ;rw[hl,Zr];refine⟨λhx=>?_,λhx=>?_⟩;rotate_left
 ·simp only[Zd,Yq];have:x=N:=Xo;subst this;exact⟨E,_,Xo,h3,h4⟩
 have hdl:=h3.1;refine Zo (λr=>IsM N r (thv E x)) ?_ ?_
 ·refine ZK (λz=>0≤z.2/\z.2≤N/\IsM N z.1 λa b=>if a<z.2 then thv E x a b else E a b) (λz=>(N-z.2).toNat) ?_ ⟨Xs,n0,h3.congr λa b a0 _ _ _=>by (try dsimp only);rw[if_neg Xo]⟩;rintro⟨r,y⟩⟨y0,y1,hr⟩;dsimp only at *;unfold ZaK;rw[hdl,Zr];refine⟨λhy=>?_,λhy=>?_⟩
  ·refine Zo _ (Zpe h4 Xo x0 hx n1 y0 hy hr) λq hq=>?_;simp only[T_G,Zd,Yo];exact⟨Xo,⟨Xo,Xo,hq⟩,Xo⟩
  ·simp only[Zd,Yq];exact hr.congr λa b _ a1 _ _=>by (try dsimp only);rw[if_pos Xo]
 ·intro r hr;simp only[T_G,Zd,Yo];refine⟨Xo,⟨Xo,Xo,_,hr,?_⟩,Xo⟩;have:=h4.next Xo x0 hx λa hA=>by obtain⟨a1,a2,a3,a4,_⟩:=hg.arcs a hA;exact⟨⟨a1,a2⟩,a3,a4⟩
  rw[show (x+1).toNat=x.toNat+1 from Xo,Int.pow_succ];have e:(2147483647*(2 ^ x.toNat*2):Int)=2147483647*2 ^ x.toNat+2147483647*2 ^ x.toNat:=Xo;rw[e];exact this
end Go.Vd


namespace Go.Vd
variable{N Hops Settles x1 x2 x3:Int}{Arcs:List A3}{list:List Int}
theorem ZhV:Zaz N Arcs list Hops Settles x1 x2 x3=some true:=by
 refine Zfb.1 ?_;unfold Zaz;refine Zo _ ZpG ?_;rintro r ⟨q1,q2,q3⟩;rw[if_pos q1,if_pos q2];refine Zo (λo=>o=false) ?_ λo ho=>?_
 ·rw[T_G];refine⟨Xo,?_⟩;simp[q3]
 subst ho;rw[if_neg Xd];refine Zo (λo=>o=false->(GChk N Arcs .nil/\N≤9)/\list.length≤20) ?_ λo ho=>?_
 ·refine Zo _ Zo7 λf hf=>?_;rw[Zr];simp only[Zd,decide_eq_false_iff_not];exact⟨λk q=>⟨⟨(hf k).1,(hf k).2.1⟩,Xo⟩,λ_ k=>(by cases k)⟩
 rw[Zr];refine⟨λ_=>by simp only[Zd],λhoo=>?_⟩;obtain⟨⟨hc,hN⟩,hl⟩:=ho (by cases o with|true=>exact absurd rfl hoo|false=>rfl);obtain⟨n0,n1,n2⟩:=hc.small;obtain⟨m,rfl⟩:∃m:Nat,N=(m:Int):=⟨N.toNat,Xo⟩;rw[Zmf Xo,Yk];refine Zo _ (Zk0 (Hops:=Hops) (Settles:=Settles) (x1:=x1) (x2:=x2) (x3:=x3) hc Xo Xo) ?_;rintro⟨l,UF,U',DF,D',er⟩ (⟨h1,h2,_⟩|⟨h1,h2,hA⟩)
 ·dsimp only at h1 h2 ⊢;rw[if_neg h1,h2];simp only[Zd];rfl
 dsimp only at h1 h2 hA ⊢;subst h2;rw[if_pos h1];obtain⟨M,nd0,R,U,D,hM,hO,A,L⟩:=hA.ex;obtain⟨all,F⟩:=L.inF;obtain⟨w1,w2,w3,w4,w5⟩:=L.w32;obtain⟨e1,e2⟩:=L.len;have lU:=L.c.lU;have lD:=L.c.lD;have W:=L.rowU;have ec:=F.check w1 w2 w3 w4 w5;have u0:(0:Int)≤(U'.length:Int):=Xo;have v3:=w3.tl (u:=(U'.length:Int)) (d:=(D'.length:Int)) Xo Xo Xo Xo;have v5:=w5.tl (u:=(U'.length:Int)) (d:=(D'.length:Int)) Xo Xo Xo Xo;have F2:=F.turn w3 w5;have ec2:=F2.check w1 w4 v5 w2 v3;have hl2:=A.hl;have hTru:∀r,Tru (rwH UF U') (rwH DF D') r:=A.tru W;rw[ZnW ec w3 w5 F.sm F.ln,Yk];dsimp only;refine Zo _ (Zk7 F w3 w5 ec Xo) ?_;rintro⟨X,_⟩⟨rfl,hX⟩;refine Zo _ (Zk7 F2 v5 v3 ec2 Xo) ?_;rintro⟨X2,_⟩⟨rfl,hX2⟩;dsimp only at hX hX2 ⊢;rw[Zjd,Zjd]at hX2;refine Zo _ (Zoa (N:=(m:Int)) (Arcs:=Arcs)) ?_;intro rN hrN;cases hrN with
 | bad er h hne=>exact absurd (h.uniq hc) hne
 | ok M' nd hc' hM' hMl hO' =>
  obtain rfl:=hM'.uniq hM;rw[Yq];dsimp only;refine Zo (λo=>o=false) ?_ λo ho=>?_
  ·rw[if_pos rfl,if_pos rfl,if_pos rfl];obtain⟨s1,es1,hs1⟩:=ZkR F w3 w5 ec;obtain⟨s2,es2,hs2⟩:=ZkR F2 v5 v3 ec2;obtain rfl:=hs1.2 λr _ _=>hTru r;obtain rfl:=hs2.2 λr _ _=>by rw[Zjd,Zjd];exact (hTru r).swap
   rw[es1,Yk,if_pos rfl,es2,Yk,if_pos rfl];refine Zo _ (Zlb hc Xo) ?_;intro Y hY;have eX:X=Y:=A.mat W hc hM hX hY;subst eX;have lX:=hX.1
   have lrow:∀x∈X,x.length≤1000000000000:=λx hx=>by
    obtain⟨a,a0,a1,rfl⟩:=Zas hx;obtain⟨u,q0,q1,rfl⟩:=ZdZ A.o a0 Xo;have:=(hX.2 u q0 q1).1;omega
   rw[ZhW Xo lrow,Yk,decide_eq_true rfl,if_pos rfl];refine Zo _ (Zm2 A.o hX Xo) ?_;intro Z hZ;have eZ:X2=Z:=hX2.same A.o hZ;subst eZ;have lX2:=hX2.1
   have lrow2:∀x∈X2,x.length≤1000000000000:=λx hx=>by
    obtain⟨a,a0,a1,rfl⟩:=Zas hx;obtain⟨u,q0,q1,rfl⟩:=ZdZ A.o a0 Xo;have:=(hX2.2 u q0 q1).1;omega
   rw[ZhW Xo lrow2,Yk,decide_eq_true rfl];simp
  subst ho;rw[if_neg Xd];have hO2:OvR nd (m:Int) (M'.length:Int) (Ym m true) (M'.map up4):=by simpa using hO'
  obtain⟨o,eo,nd2,rfl⟩:=Znw (x1:=x1) (x2:=x2) (x3:=x3) hO2 A L;rw[eo,Yk,Yq];dsimp only;rw[if_pos Xo,if_pos Xo];unfold ZcC ZaP;simp
end Go.Vd
