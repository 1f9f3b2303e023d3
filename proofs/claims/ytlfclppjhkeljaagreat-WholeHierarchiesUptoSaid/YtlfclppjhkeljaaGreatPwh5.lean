/- Texts. -/
import Derived.Test.YtlfclppjhkeljaaGreatPwh4
set_option linter.all false
open Bool renaming false_eq_true→Y5
open Classical renaming byContradiction→Yga
open Int renaming lt_trichotomy→Yaa,le_refl→YO
open List renaming getElem?_eq_getElem→Yn,getD_eq_getElem?_getD→Yl,getElem?_append_left→YF,length_cons→Yp,replicate→Ym,length_map→YB,map_append→Y2,take_of_length_le→YE,length_take→YG,filter_cons→YX,getElem?_eq_none→YQ,getElem?_take→YY,mem_cons_self→Yw,mem_cons_of_mem→Ys,length_append→Yy,length_nil→Yt,length_filter_le→Yea,length_set→Yv,getElem_mem→Yia,filter_append→Y0,getElem?_drop→Yja,take_append_drop→YT,eq_nil_of_length_eq_zero→Yx,mem_append_left→YC,mem_append_right→YS,mem_of_mem_take→YN,getElem?_map→Yfa,length_replicate→Y6,getElem?_append_right→YV
open Nat renaming zero_add→Y8,le_refl→Yj,le_trans→YL,mul_le_mul_right→Yz
open Option renaming bind_some→Yk,getD_some→Yha,map_some→Yda
open Sum renaming elim_inr→Yq,elim_inl→Yo,inr→Yr,inl→Yu,elim→YR
set_option maxHeartbeats 4000000

namespace Go.Vd
theorem Zep{E:Type}[Inhabited E]{l:List E}{i:Int}(h0:0≤i)(h1:i<(l.length:Int)):l.take (i+1).toNat=l.take i.toNat++[gt l i]:=by
 have hi:i.toNat<l.length:=Xo;rw[show (i+1).toNat=i.toNat+1 from Xo,List.take_add_one,Yn hi];have:gt l i=l[i.toNat]:=by simp[gt,Yl,hi]
 rw[this];rfl
theorem Z3{E:Type}[Inhabited E]{l:List E}{i j:Int}{v:E}(i0:0≤i)(i1:i<(l.length:Int))(j0:0≤j):gt (l.set i.toNat v) j=if j=i then v else gt l j:=by
 unfold gt;rw[Yl,Yl,List.getElem?_set];by_cases h:j=i
 ·subst h;rw[if_pos rfl,if_pos rfl,if_pos Xo];rfl
 ·rw[if_neg h,if_neg Xo]
theorem Zfp{E:Type}[Inhabited E]{l m:List E}(hl:l.length=m.length)(h:∀j:Int,0≤j->j<(l.length:Int)->gt l j=gt m j):l=m:=by
 refine List.ext_getElem hl λj h1 h2=>?_;have:=h (j:Int) Xo Xo;rwa[Zdh h1,Zdh h2]at this
end Go.Vd


namespace Go.Vd
abbrev A3:=Int×Int×Int
theorem eq3{x y:A3}(h1:x.1=y.1)(h2:x.2.1=y.2.1)(h3:x.2.2=y.2.2):x=y:=by
 obtain⟨a,b,c⟩:=x;obtain⟨a',b',c'⟩:=y;simp only at h1 h2 h3;subst h1;subst h2;subst h3;rfl
theorem Zas{E:Type}[Inhabited E]{l:List E}{x:E}(h:x∈l):∃i:Int,0≤i/\i<(l.length:Int)/\x=gt l i:=by
 obtain⟨i,hi,rfl⟩:=List.getElem_of_mem h;exact⟨i,Xo,Xo,(Zdh hi).symm⟩
end Go.Vd


namespace Go.Vd
abbrev B4:=Int×Int×Int×Int
abbrev E7:=Int×Int×Int×Int×Int×Int×Int
abbrev E8:=Int×Int×Int×Int×Int×Int×Int×Int
abbrev W32(l:List Int):Prop:=∀x∈l,(0≤x/\x≤4294967295)
abbrev WL(l:List B4):Prop:=∀x∈l,(0≤x.1/\x.1≤4294967295)/\(0≤x.2.1/\x.2.1≤18446744073709551615)/\(0≤x.2.2.1/\x.2.2.1≤4294967295)/\(0≤x.2.2.2/\x.2.2.2≤4294967295)
structure Fst(l:List Int)(k:Int):Prop where
 z:gt l 0=0
 up:∀r,0≤r->r<(l.length:Int)-1->gt l r≤gt l (r+1)
 e:gt l ((l.length:Int)-1)=k
def Rk(l:List Int)(i r:Int):Prop:=0≤r/\r<(l.length:Int)-1/\gt l r≤i/\i<gt l (r+1)
variable{l N UF DF:List Int}{U D:List B4}{k i r:Int}{all:List E7}
theorem Fst.mono(h:Fst l k):∀(m:Nat) (a:Int),0≤a->a+m≤(l.length:Int)-1->gt l a≤gt l (a+m):=by
 intro m;induction m with
 | zero=>intro a _ _;simp
 | succ m ih =>
  intro a a0 a1;have h1:=ih a a0 Xo;have h2:=h.up (a+m) Xo Xo;rw[show a+((m+1:Nat):Int)=a+m+1 from Xo];omega
theorem Fst.le(h:Fst l k){a b:Int}(a0:0≤a)(ab:a≤b)(b1:b≤(l.length:Int)-1):gt l a≤gt l b:=by
 have:=h.mono (b-a).toNat a a0 Xo;rwa[show a+((b-a).toNat:Int)=b from Xo]at this
theorem Fst.uniq(h:Fst l k){r':Int}(h1:Rk l i r)(h2:Rk l i r'):r=r':=by
 obtain⟨a0,a1,a2,a3⟩:=h1;obtain⟨b0,b1,b2,b3⟩:=h2;rcases Yaa r r' with q|q|q
 ·have:=h.le (a:=r+1) (b:=r') Xo Xo Xo;omega
 ·exact q
 ·have:=h.le (a:=r'+1) (b:=r) Xo Xo Xo;omega
theorem Fst.rk(h:Fst l k)(i0:0≤i)(i1:i<k)(hl:0<(l.length:Int)):∃r,Rk l i r:=by
 have key:∀m:Nat,(m:Int)≤(l.length:Int)-1->i<gt l m->∃r,Rk l i r:=by
  intro m;induction m with
  | zero=>intro _ q;rw[show ((0:Nat):Int)=0 from rfl,h.z]at q;omega
  | succ m ih =>
   intro hm q;by_cases e:i<gt l m
   ·exact ih Xo e
   ·exact⟨m,Xo,Xo,Xo,by rw[show ((m+1:Nat):Int)=(m:Int)+1 from rfl]at q;exact q⟩
 exact key (l.length-1) Xo (by rw[show ((l.length-1:Nat):Int)=(l.length:Int)-1 from Xo,h.e];exact i1)
theorem ZiU{a b n:Int}:ZaA a b (.no n)=some (.at a b (.no n)):=by
 unfold ZaA;rw[if_neg Xs]
def ZcY(l:List Int):Prop:=(∀r,0≤r->r<(l.length:Int)->0≤gt l r/\gt l r<(l.length:Int))/\∀r r',0≤r->r<(l.length:Int)->0≤r'->r'<(l.length:Int)->gt l r=gt l r'->r=r'
end Go.Vd


namespace Go.Vd
variable{l N UF DF:List Int}{U D:List B4}{k i r:Int}{all:List E7}{ok_:List E8->Bool}
theorem ZgL{E:Type}[Inhabited E]{l:List E}{y:E}{j:Int}(j0:0≤j)(j1:j<(l.length:Int)+1):gt (l++[y]) j=if j=l.length then y else gt l j:=by
 obtain⟨j,rfl⟩:=Int.eq_ofNat_of_zero_le j0;by_cases h:(j:Int)=l.length
 ·rw[if_pos h];have:j=l.length:=Xo;subst this;simp[gt,Yl]
 ·rw[if_neg h];have:j<l.length:=Xo;simp[gt,Yl,YF this]
theorem Zi8{E:Type}[Inhabited E]{L:List E}{a b j:Int}(a0:0≤a)(j0:0≤j)(h:a+j<b)(hb:b≤(L.length:Int)):gt ((L.take b.toNat).drop a.toNat) j=gt L (a+j):=by
 obtain⟨j,rfl⟩:=Int.eq_ofNat_of_zero_le j0;obtain⟨a,rfl⟩:=Int.eq_ofNat_of_zero_le a0;rw[Zdh (by simp;omega),show (a:Int)+(j:Int)=((a+j:Nat):Int) from Xo,Zdh Xo];simp[List.getElem_drop,List.getElem_take]
theorem ZhI{E:Type}{L:List E}{a b:Int}(a0:0≤a)(ab:a≤b)(hb:b≤(L.length:Int)):(((L.take b.toNat).drop a.toNat).length:Int)=b-a:=by
 simp;omega
def upE(i r:Int)(x:B4):E8:=(i,x.1,x.2.1,x.2.2.1,x.2.2.2,r,x.1,r)
def dnE(i r:Int)(x:B4):E8:=(i,x.1,x.2.1,x.2.2.1,x.2.2.2,x.1,r,r)
def UpT(UF:List Int)(U:List B4)(m:Int)(t:List E8):Prop:=∀i,0≤i->i<m->∀r,Rk UF i r->gt t i=upE i r (gt U i)
def DnT(u:Int)(DF:List Int)(D:List B4)(m:Int)(t:List E8):Prop:=∀i,0≤i->i<m->∀r,Rk DF i r->gt t (u+i)=dnE (u+i) r (gt D i)
theorem p_ups(hok:∀t:List E8,t.length≤3000000->ok_ t=true)(hf:Fst UF (U.length:Int))(hn:(UF.length:Int)=N.length+1)(hN:N.length≤65536)(hl:U.length≤1048576)(hU:WL U) :
  T (ZB (λzz_=>ZbZ ok_ N UF U zz_.1 zz_.2.1 zz_.2.2) ([],0,0)) λo=>(o.1.length:Int)=U.length/\o.2=(U.length:Int)/\UpT UF U (U.length:Int) o.1:=by
 have fin:gt UF (N.length:Int)=U.length:=by
  have:=hf.e;rwa[show (UF.length:Int)-1=N.length from Xo]at this
 refine ZK (λz=>0≤z.2.1/\z.2.1≤(N.length:Int)/\z.2.2=gt UF z.2.1/\(z.1.length:Int)=gt UF z.2.1/\UpT UF U (gt UF z.2.1) z.1) (λz=>((N.length:Int)-z.2.1).toNat) ?_ ⟨Xs,Xs,hf.z.symm,by simp[hf.z],λi i0 i1=>by dsimp only at i1;rw[hf.z]at i1;omega⟩;rintro⟨y,q,c⟩⟨q0,q1,hcc,hy,ht⟩;dsimp only at *;subst hcc;unfold ZbZ;rw[Zr];refine⟨λhq=>?_,λhq=>?_⟩;rotate_left
 ·have e:q=N.length:=Xo;subst e;rw[fin]at hy ht ⊢;simp only[Zd,Yq];exact⟨hy,trivial,ht⟩
 have m1:=hf.up q q0 Xo;have m0:=hf.le (a:=0) (b:=q) Xo q0 Xo;have m2:=hf.le (a:=q+1) (b:=N.length) Xo Xo Xo;rw[hf.z]at m0;rw[fin]at m2;simp only[T_G];refine⟨Xo,Xo,Xo,Xo,?_⟩;refine Zo (λo=>(o.1.length:Int)=gt UF (q+1)/\o.2=gt UF (q+1)/\UpT UF U (gt UF (q+1)) o.1) ?_ ?_
 ·have ls:=ZhI (L:=U) m0 m1 m2;refine ZK (λz=>0≤z.2.2/\z.2.2≤gt UF (q+1)-gt UF q/\z.2.1=gt UF q+z.2.2/\(z.1.length:Int)=gt UF q+z.2.2/\UpT UF U (gt UF q+z.2.2) z.1) (λz=>(gt UF (q+1)-gt UF q-z.2.2).toNat) ?_ ⟨Xs,by simp;omega,Xs,by simpa using hy,by simpa using ht⟩;rintro⟨y,c,j⟩⟨j0,j1,hcc,hy,ht⟩;dsimp only at *;subst hcc;unfold ZcP;rw[ls,Zr];refine⟨λhj=>?_,λhj=>?_⟩;rotate_left
  ·have e:gt UF q+j=gt UF (q+1):=Xo;rw[e]at hy ht ⊢;simp only[Zd,Yq];exact⟨hy,trivial,ht⟩
  rw[Zi8 m0 j0 Xo m2];have hx:=hU _ (ZbU (xs:=U) (i:=gt UF q+j) Xo Xo);simp only[T_G,Zd,Yo];refine⟨j0,Xo,hok _ (by simp;omega),Xo,Xo,⟨Xo,Xo,Xo,by simp;omega,λi i0 i1 r hr=>?_⟩,Xo⟩;rw[ZgL i0 Xo,hy];by_cases e:i=gt UF q+j
  ·rw[if_pos e];have:Rk UF i q:=⟨q0,Xo,Xo,Xo⟩;obtain rfl:=hf.uniq hr this;rw[e];rfl
  ·rw[if_neg e];exact ht i i0 Xo r hr
 ·rintro⟨y',c'⟩⟨h1,h2,h3⟩;dsimp only at *;simp only[Zd,Yo];exact⟨⟨Xo,Xo,h2,h1,h3⟩,Xo⟩
theorem p_dns{t0:List E8}{u:Int}(u0:0≤u)(hu:(t0.length:Int)=u)(hul:u≤1048576)(hok:∀t:List E8,t.length≤3000000->ok_ t=true)(hf:Fst DF (D.length:Int))(hn:(DF.length:Int)=N.length+1)(hN:N.length≤65536)(hl:D.length≤1048576)(hU:WL D) :
  T (ZB (λzz_=>ZbW ok_ N DF D zz_.1 zz_.2.1 zz_.2.2) (t0,u,0)) λo=>(o.length:Int)=u+D.length/\(∀i,0≤i->i<u->gt o i=gt t0 i)/\DnT u DF D (D.length:Int) o:=by
 have fin:gt DF (N.length:Int)=D.length:=by
  have:=hf.e;rwa[show (DF.length:Int)-1=N.length from Xo]at this
 refine ZK (λz=>0≤z.2.2/\z.2.2≤(N.length:Int)/\z.2.1=u+gt DF z.2.2/\(z.1.length:Int)=u+gt DF z.2.2/\(∀i,0≤i->i<u->gt z.1 i=gt t0 i)/\DnT u DF D (gt DF z.2.2) z.1) (λz=>((N.length:Int)-z.2.2).toNat) ?_ ⟨Xs,Xs,by simp[hf.z],by simp[hf.z,hu],λi _ _=>rfl,λi i0 i1=>by dsimp only at i1;rw[hf.z]at i1;omega⟩;rintro⟨y,c,q⟩⟨q0,q1,hcc,hy,hk,ht⟩;dsimp only at *;subst hcc;unfold ZbW;rw[Zr];refine⟨λhq=>?_,λhq=>?_⟩;rotate_left
 ·have e:q=N.length:=Xo;subst e;rw[fin]at hy ht;simp only[Zd,Yq];exact⟨hy,hk,ht⟩
 have m1:=hf.up q q0 Xo;have m0:=hf.le (a:=0) (b:=q) Xo q0 Xo;have m2:=hf.le (a:=q+1) (b:=N.length) Xo Xo Xo;rw[hf.z]at m0;rw[fin]at m2;simp only[T_G];refine⟨Xo,Xo,Xo,Xo,?_⟩;refine Zo (λo=>(o.1.length:Int)=u+gt DF (q+1)/\o.2=u+gt DF (q+1)/\(∀i,0≤i->i<u->gt o.1 i=gt t0 i)/\DnT u DF D (gt DF (q+1)) o.1) ?_ ?_
 ·have ls:=ZhI (L:=D) m0 m1 m2;refine ZK (λz=>0≤z.2.2/\z.2.2≤gt DF (q+1)-gt DF q/\z.2.1=u+gt DF q+z.2.2/\(z.1.length:Int)=u+gt DF q+z.2.2/\(∀i,0≤i->i<u->gt z.1 i=gt t0 i)/\DnT u DF D (gt DF q+z.2.2) z.1) (λz=>(gt DF (q+1)-gt DF q-z.2.2).toNat) ?_ ⟨Xs,by simp;omega,Xs,by simpa using hy,hk,by simpa using ht⟩;rintro⟨y,c,j⟩⟨j0,j1,hcc,hy,hk,ht⟩;dsimp only at *;subst hcc;unfold ZcR;rw[ls,Zr];refine⟨λhj=>?_,λhj=>?_⟩;rotate_left
  ·have e:gt DF q+j=gt DF (q+1):=Xo;rw[e]at ht;simp only[Zd,Yq];exact⟨Xo,Xo,hk,ht⟩
  rw[Zi8 m0 j0 Xo m2];have hx:=hU _ (ZbU (xs:=D) (i:=gt DF q+j) Xo Xo);simp only[T_G,Zd,Yo];refine⟨j0,Xo,hok _ (by simp;omega),Xo,Xo,⟨Xo,Xo,Xo,by simp;omega,λi i0 i1=>?_,λi i0 i1 r hr=>?_⟩,Xo⟩
  ·rw[ZgL i0 Xo,if_neg Xo];exact hk i i0 i1
  rw[ZgL Xo Xo,hy];by_cases e:i=gt DF q+j
  ·rw[if_pos Xo];have:Rk DF i q:=⟨q0,Xo,Xo,Xo⟩;obtain rfl:=hf.uniq hr this;rw[e];unfold dnE;rw[Int.add_assoc]
  ·rw[if_neg Xo];exact ht i i0 Xo r hr
 ·rintro⟨y',c'⟩⟨h1,h2,h3,h4⟩;dsimp only at *;simp only[Zd,Yo];exact⟨⟨Xo,Xo,h2,h1,h3,h4⟩,Xo⟩
theorem Zks:∀(t:List E8) (acc:List E7),acc.length+t.length≤2000000000->Zej (λx_ zz_=>ZaD x_ zz_) acc t=some (acc++t.map (·.2)):=by
 intro t;induction t with
 | nil=>intro acc _;simp[Zej]
 | cons x t ih =>
  intro acc h;simp only[Yp]at h
  have e:ZaD x acc=some (acc++[x.2]):=by
   unfold ZaD G;rw[if_pos Xo]
  simp only[Zej];rw[e,Yk,ih _ (by simp;omega)];simp
end Go.Vd


namespace Go.Vd
variable{l N UF DF:List Int}{U D:List B4}{k i r:Int}{all:List E7}
def lnk(U D:List B4)(i:Int):B4:=if i<(U.length:Int) then gt U i else gt D (i-U.length)
theorem Zpc(hU:WL U)(hD:WL D)(i0:0≤i)(i1:i<(U.length:Int)+D.length):(0≤(lnk U D i).1/\(lnk U D i).1≤4294967295)/\(0≤(lnk U D i).2.1/\(lnk U D i).2.1≤18446744073709551615)/\(0≤(lnk U D i).2.2.1/\(lnk U D i).2.2.1≤4294967295)/\(0≤(lnk U D i).2.2.2/\(lnk U D i).2.2.2≤4294967295):=by
 unfold lnk;by_cases h:i<(U.length:Int)
 ·rw[if_pos h];exact hU _ (ZbU i0 h)
 ·rw[if_neg h];exact hD _ (ZbU Xo Xo)
structure AllS(N:List Int)(U D:List B4)(all:List E7):Prop where
 len:(all.length:Int)=U.length+D.length
 at':∀i,0≤i->i<(all.length:Int)->∃r,0≤r/\r<(N.length:Int)/\gt all i=((lnk U D i).1,(lnk U D i).2.1,(lnk U D i).2.2.1,(lnk U D i).2.2.2,(if i<(U.length:Int) then r else (lnk U D i).1),(if i<(U.length:Int) then (lnk U D i).1 else r),r)
theorem Zn9{E F:Type}[Inhabited E][Inhabited F]{l:List E}{f:E->F}{i:Int}(i0:0≤i)(i1:i<(l.length:Int)):gt (l.map f) i=f (gt l i):=by
 obtain⟨i,rfl⟩:=Int.eq_ofNat_of_zero_le i0;rw[Zdh (show i<(l.map f).length by simp;omega),Zdh Xo];simp
theorem ZlC{a b c d:Int}:ZdP a b c d=some (decide (c=4294967295/\d=4294967295)):=by
 unfold ZdP;by_cases h:c=4294967295 <;> simp[h]
def Shp(N:List Int)(U:List B4)(all:List E7)(i:Int):Prop:=
 (gt all i).1<(N.length:Int)/\(gt all i).2.2.2.2.2.2<(gt all i).1/\(¬((gt all i).2.2.1=4294967295/\(gt all i).2.2.2.1=4294967295) ->
  (U.length:Int)≤(gt all i).2.2.1/\(gt all i).2.2.1<(all.length:Int)/\(gt all i).2.2.2.1<(U.length:Int) /\
  (gt all (gt all i).2.2.1).2.2.2.2.1=(gt all i).2.2.2.2.1/\(gt all (gt all i).2.2.2.1).2.2.2.2.2.1=(gt all i).2.2.2.2.2.1/\(gt all (gt all i).2.2.1).2.2.2.2.2.2=(gt all (gt all i).2.2.2.1).2.2.2.2.2.2)
def Wgt(all:List E7)(i:Int):Prop:=
 ¬((gt all i).2.2.1=4294967295/\(gt all i).2.2.2.1=4294967295)->0≤(gt all (gt all i).2.2.1).2.1+(gt all (gt all i).2.2.2.1).2.1/\(gt all (gt all i).2.2.1).2.1+(gt all (gt all i).2.2.2.1).2.1≤18446744073709551615/\(gt all (gt all i).2.2.1).2.1+(gt all (gt all i).2.2.2.1).2.1=(gt all i).2.1
theorem AllS.rng(h:AllS N U D all)(hU:WL U)(hD:WL D)(i0:0≤i)(i1:i<(all.length:Int)):(0≤(gt all i).1/\(gt all i).1≤4294967295)/\(0≤(gt all i).2.1/\(gt all i).2.1≤18446744073709551615)/\(0≤(gt all i).2.2.1/\(gt all i).2.2.1≤4294967295)/\(0≤(gt all i).2.2.2.1/\(gt all i).2.2.2.1≤4294967295):=by
 obtain⟨r,_,_,e⟩:=h.at' i i0 i1;rw[e];exact Zpc hU hD i0 (by have:=h.len;omega)
structure Form(N:List Int)(U D:List B4)(all:List E7):Prop where
 as':AllS N U D all
 ord:ZcY N
 n:N.length≤65536
 m:U.length+D.length≤1048576
 shp:∀i,0≤i->i<(all.length:Int)->Shp N U all i
 wgt:∀i,0≤i->i<(all.length:Int)->Wgt all i
end Go.Vd


namespace Go.Vd
variable{l N UF DF:List Int}{U D:List B4}{k i r:Int}{all:List E7}
inductive FstA(l:List Int)(k:Int):Er->Prop
 | z:gt l 0≠0->FstA l k (.no 14)
 | dn (r:Int):gt l 0=0->0≤r->r<(l.length:Int)-1->(∀q,0≤q->q<r->gt l q≤gt l (q+1))->gt l (r+1)<gt l r->FstA l k (.at 3 r (.no 14))
 | e:gt l 0=0->(∀q,0≤q->q<(l.length:Int)-1->gt l q≤gt l (q+1))->gt l ((l.length:Int)-1)≠k->FstA l k (.no 14)
 | ok:Fst l k->FstA l k .nil
theorem FstA.uniq{a b:Er}(h:FstA l k a)(g:FstA l k b):a=b:=by
 cases h with
 | z h1 =>
  cases g with
  | z _=>rfl
  | dn _ g1=>exact absurd g1 h1
  | e g1 _ _=>exact absurd g1 h1
  | ok g=>exact absurd g.z h1
 | dn r h1 h2 h3 h4 h5 =>
  cases g with
  | z g1=>exact absurd h1 g1
  | dn r' g1 g2 g3 g4 g5 =>
   rcases Yaa r r' with q|q|q
   ·have:=g4 r h2 q;omega
   ·subst q;rfl
   ·have:=h4 r' g2 q;omega
  | e _ g2 _=>have:=g2 r h2 h3;omega
  | ok g=>have:=g.up r h2 h3;omega
 | e h1 h2 h3 =>
  cases g with
  | z g1=>exact absurd h1 g1
  | dn r' g1 g2 g3 g4 g5=>have:=h2 r' g2 g3;omega
  | e _ _ _=>rfl
  | ok g=>exact absurd g.e h3
 | ok h =>
  cases g with
  | z g1=>exact absurd h.z g1
  | dn r' g1 g2 g3 g4 g5=>have:=h.up r' g2 g3;omega
  | e _ _ g3=>exact absurd h.e g3
  | ok _=>rfl
theorem ZjK(hw:W32 l)(h0:0<(l.length:Int))(hl:l.length≤1000000):T (Zdo l k) (FstA l k):=by
 unfold Zdo
 rw[T_G,Zr];refine⟨h0,λhz=>?_,λhz=>by simp only[Zd];exact .z hz⟩;rw[T_G];refine⟨Xo,Zbi (λ_=>∀r,0≤r->r<(l.length:Int)-1->gt l r≤gt l (r+1)) ?_ λ_ hu=>?_⟩
 ·refine ZK (λi=>0≤i/\i≤(l.length:Int)-1/\∀r,0≤r->r<i->gt l r≤gt l (r+1)) (λi=>((l.length:Int)-1-i).toNat) ?_ ⟨Xs,Xo,λr r0 r1=>Xo⟩;rintro i ⟨i0,i1,hi⟩;unfold Zc4;rw[ZiU];simp only[Zr,T_G,Zdt,Zd,Yk,Yo,Yq];refine⟨λhlt=>⟨Xo,Xo,Xo,λhd=>.dn i hz i0 hlt hi hd,λhge=>⟨Xo,⟨Xo,Xo,λr r0 r1=>?_⟩,Xo⟩⟩,λhge r r0 r1=>hi r r0 Xo⟩;by_cases e:r=i
  ·subst e;omega
  ·exact hi r r0 Xo
 ·have:=hw _ (ZbU (i:=(l.length:Int)-1) Xo Xo);simp only[T_G,Zr,Zd];exact⟨Xo,Xo,λhe=>.ok ⟨hz,hu,he⟩,λhe=>.e hz hu he⟩
inductive OrdA(l:List Int):Er->Prop
 | bad (r:Int):0≤r->r<(l.length:Int)->(∀q,0≤q->q<r->gt l q<(l.length:Int))->(∀q p,0≤q->q<p->p<r->gt l q≠gt l p)->(gt l r≥(l.length:Int)∨∃q,0≤q/\q<r/\gt l q=gt l r)->OrdA l (.at 3 r (.no 20))
 | ok:ZcY l->OrdA l .nil
theorem OrdA.uniq{a b:Er}(h:OrdA l a)(g:OrdA l b):a=b:=by
 cases h with
 | bad r h1 h2 h3 h4 h5 =>
  cases g with
  | bad r' g1 g2 g3 g4 g5 =>
   rcases Yaa r r' with q|q|q
   ·rcases h5 with h5|⟨p,p0,p1,p2⟩
    ·have:=g3 r h1 q;omega
    ·exact absurd p2 (g4 p r p0 p1 q)
   ·subst q;rfl
   ·rcases g5 with g5|⟨p,p0,p1,p2⟩
    ·have:=h3 r' g1 q;omega
    ·exact absurd p2 (h4 p r' p0 p1 q)
  | ok g =>
   rcases h5 with h5|⟨p,p0,p1,p2⟩
   ·have:=(g.1 r h1 h2).2;omega
   ·have:=g.2 p r p0 Xo h1 h2 p2;omega
 | ok h =>
  cases g with
  | bad r h1 h2 h3 h4 h5 =>
   rcases h5 with h5|⟨p,p0,p1,p2⟩
   ·have:=(h.1 r h1 h2).2;omega
   ·have:=h.2 p r p0 Xo h1 h2 p2;omega
  | ok _=>rfl
theorem Znp(hw:W32 l)(hl:l.length≤1000000):T (Zeq l) (OrdA l):=by
 unfold Zeq;rw[T_G];refine⟨Xo,Zbi (λ_=>ZcY l) ?_ λ_ h=>by simp only[Zd];exact .ok h⟩;refine ZK (λz=>0≤z.1/\z.1≤(l.length:Int)/\(z.2.length:Int)=l.length/\(∀r,0≤r->r<z.1->gt l r<(l.length:Int))/\(∀q p,0≤q->q<p->p<z.1->gt l q≠gt l p)/\∀v,0≤v->v<(l.length:Int)->(gt z.2 v>0↔∃q,0≤q/\q<z.1/\gt l q=v)) (λz=>((l.length:Int)-z.1).toNat) ?_ ⟨Xs,Xs,Xs,λr r0 r1=>by dsimp only at r1;omega,λr r' r0 r1 r2=>by dsimp only at r2;omega,λv v0 v1=>?_⟩;rotate_left
 ·have:gt (Ym l.length (0:Int)) v=0:=by
   simp[gt,Yl,List.getElem?_replicate];split <;> rfl
  dsimp only;rw[this];exact⟨λh=>Xo,λ⟨q,q0,q1,_⟩=>Xo⟩
 rintro⟨i,sn⟩⟨i0,i1,ls,h1,h2,h3⟩;dsimp only at *;unfold Zdy;rw[ZiU,Zr];refine⟨λhi=>?_,λhi=>?_⟩;rotate_left
 ·simp only[Zd,Yq];refine⟨λr r0 r1=>⟨(hw _ (ZbU r0 r1)).1,h1 r r0 Xo⟩,λr r' r0 r1 q0 q1 e=>?_⟩;rcases Yaa r r' with q|q|q
  ·exact absurd e (h2 r r' r0 q Xo)
  ·exact q
  ·exact absurd e.symm (h2 r' r q0 q Xo)
 have hr:=hw _ (ZbU i0 hi);rw[T_G];refine⟨i0,Zo (λo=>o=true↔(gt l i≥(l.length:Int)∨∃q,0≤q/\q<i/\gt l q=gt l i)) ?_ λo ho=>?_⟩
 ·simp only[T_G,Zr,Zd];refine⟨Xo,λh=>by simp[h],λhlt=>⟨Xo,?_⟩⟩;have:=h3 (gt l i) hr.1 Xo;rw[decide_eq_true_iff,this];exact⟨λh=>.inr h,λh=>h.resolve_left hlt⟩
 rw[Zr];refine⟨λhb=>?_,λhne=>?_⟩
 ·simp only[Yk,Zdt,Zd,Yq,Yo];exact .bad i i0 hi h1 h2 (ho.1 hb)
 have hn:¬(gt l i≥(l.length:Int)∨∃q,0≤q/\q<i/\gt l q=gt l i):=λq=>hne (ho.2 q)
 have a1:gt l i<(l.length:Int):=by
  have:=λq=>hn (.inl q);omega
 simp only[T_G,Zd,Yo];refine⟨Xo,Xo,⟨Xo,Xo,by simpa using ls,λr r0 r1=>?_,λr r' r0 r1 r2=>?_,λv v0 v1=>?_⟩,Xo⟩
 ·by_cases e:r=i
  ·subst e;exact a1
  ·exact h1 r r0 Xo
 ·by_cases e:r'=i
  ·subst e;exact λq=>hn (.inr ⟨r,r0,r1,q⟩)
  ·exact h2 r r' r0 r1 Xo
 ·rw[Z3 hr.1 Xo v0];by_cases e:v=gt l i
  ·rw[if_pos e];exact⟨λ_=>⟨i,i0,Xo,e.symm⟩,λ_=>Xo⟩
  ·rw[if_neg e,h3 v v0 v1];refine⟨λ⟨q,q0,q1,q2⟩=>⟨q,q0,Xo,q2⟩,λ⟨q,q0,q1,q2⟩=>⟨q,q0,?_,q2⟩⟩;by_cases e2:q=i
   ·subst e2;exact absurd q2.symm e
   ·omega
end Go.Vd


namespace Go.Vd
variable{l N UF DF:List Int}{U D:List B4}{k i r:Int}{all all':List E7}
def RkX(UF DF:List Int)(U:List B4)(i r:Int):Prop:=if i<(U.length:Int) then Rk UF i r else Rk DF (i-U.length) r
def e7(U D:List B4)(i r:Int):E7:=((lnk U D i).1,(lnk U D i).2.1,(lnk U D i).2.2.1,(lnk U D i).2.2.2,(if i<(U.length:Int) then r else (lnk U D i).1),(if i<(U.length:Int) then (lnk U D i).1 else r),r)
structure AllX(UF DF:List Int)(U D:List B4)(all:List E7):Prop where
 len:(all.length:Int)=U.length+D.length
 at':∀i,0≤i->i<(all.length:Int)->∃r,RkX UF DF U i r/\gt all i=e7 U D i r
theorem RkX.uniq(hU:Fst UF (U.length:Int))(hD:Fst DF (D.length:Int)){r':Int}(h:RkX UF DF U i r)(g:RkX UF DF U i r'):r=r':=by
 unfold RkX at h g;by_cases q:i<(U.length:Int)
 ·rw[if_pos q]at h g;exact hU.uniq h g
 ·rw[if_neg q]at h g;exact hD.uniq h g
theorem RkX.ex(hU:Fst UF (U.length:Int))(hD:Fst DF (D.length:Int))(l1:0<(UF.length:Int))(l2:0<(DF.length:Int))(i0:0≤i)(i1:i<(U.length:Int)+D.length):∃r,RkX UF DF U i r:=by
 unfold RkX;by_cases q:i<(U.length:Int)
 ·obtain⟨r,h⟩:=hU.rk i0 q l1;exact⟨r,by rw[if_pos q];exact h⟩
 ·obtain⟨r,h⟩:=hD.rk (i:=i - U.length) Xo Xo l2;exact⟨r,by rw[if_neg q];exact h⟩
theorem RkX.rng(nU:(UF.length:Int)=N.length+1)(nD:(DF.length:Int)=N.length+1)(h:RkX UF DF U i r):0≤r/\r<(N.length:Int):=by
 unfold RkX at h;split at h <;> (obtain⟨a,b,_⟩:=h;omega)
theorem AllX.s(nU:(UF.length:Int)=N.length+1)(nD:(DF.length:Int)=N.length+1)(h:AllX UF DF U D all):AllS N U D all:=by
 refine⟨h.len,λi i0 i1=>?_⟩;obtain⟨r,h1,h2⟩:=h.at' i i0 i1;obtain⟨r0,r1⟩:=h1.rng nU nD;exact⟨r,r0,r1,h2⟩
theorem AllX.uniq(hU:Fst UF (U.length:Int))(hD:Fst DF (D.length:Int))(h:AllX UF DF U D all)(g:AllX UF DF U D all'):all=all':=by
 have l1:=h.len;have l2:=g.len;refine Zfp Xo λj j0 j1=>?_;obtain⟨r,a1,a2⟩:=h.at' j j0 j1;obtain⟨r',b1,b2⟩:=g.at' j j0 Xo;rw[a2,b2,RkX.uniq hU hD a1 b1]
theorem ZoM{t0 t:List E8}(hfU:Fst UF (U.length:Int))(hfD:Fst DF (D.length:Int))(l1:0<(UF.length:Int))(l2:0<(DF.length:Int))
  (h0:(t0.length:Int)=U.length) (hu:UpT UF U (U.length:Int) t0) (h1:(t.length:Int)=U.length+D.length) (hk:∀i,0≤i->i<(U.length:Int)->gt t i=gt t0 i) (hd:DnT (U.length:Int) DF D (D.length:Int) t):AllX UF DF U D (t.map (·.2)):=by
 refine⟨by rw[YB];exact h1,λi i0 i1=>?_⟩;rw[YB]at i1;rw[Zn9 i0 i1];obtain⟨r,hr⟩:=RkX.ex (U:=U) (D:=D) hfU hfD l1 l2 i0 Xo;refine⟨r,hr,?_⟩;unfold RkX at hr;by_cases h:i<(U.length:Int)
 ·rw[if_pos h]at hr;rw[hk i i0 h,hu i i0 h r hr];unfold e7 lnk;rw[if_pos h,if_pos h,if_pos h];rfl
 ·rw[if_neg h]at hr;have:=hd (i-U.length) Xo Xo r hr;rw[show (U.length:Int)+(i-U.length)=i from Xo]at this;rw[this];unfold e7 lnk;rw[if_neg h,if_neg h,if_neg h];rfl
def PlX(all:List E7)(i:Int):Prop:=(gt all i).2.2.1=4294967295/\(gt all i).2.2.2.1=4294967295
def Zfg(N:List Int)(U:List B4)(all:List E7)(i:Int):Prop:=
 (gt all i).1<(N.length:Int)/\(gt all i).2.2.2.2.2.2<(gt all i).1/\¬(0<i/\i≠(U.length:Int)/\(gt all (i-1)).2.2.2.2.2.2=(gt all i).2.2.2.2.2.2/\(gt all (i-1)).1≥(gt all i).1)/\(¬PlX all i ->
  (U.length:Int)≤(gt all i).2.2.1/\(gt all i).2.2.1<(all.length:Int)/\(gt all i).2.2.2.1<(U.length:Int) /\
  (gt all (gt all i).2.2.1).2.2.2.2.1=(gt all i).2.2.2.2.1/\(gt all (gt all i).2.2.2.1).2.2.2.2.2.1=(gt all i).2.2.2.2.2.1/\(gt all (gt all i).2.2.1).2.2.2.2.2.2=(gt all (gt all i).2.2.2.1).2.2.2.2.2.2)
def ZfM(all:List E7)(i:Int):Prop:=
 (PlX all i->(gt all i).2.1≤2147483647)/\(¬PlX all i->(gt all i).2.1≤140737488355328/\(gt all (gt all i).2.2.1).2.1≤140737488355328/\(gt all (gt all i).2.2.2.1).2.1≤140737488355328/\(gt all (gt all i).2.2.1).2.1+(gt all (gt all i).2.2.2.1).2.1=(gt all i).2.1)
theorem Zn1(h:AllS N U D all)(hU:WL U)(hD:WL D)(hs:U.length+D.length≤1048576)(i0:0≤i)(i1:i<(all.length:Int)):T (Zen N UF U DF D all i) λb=>b=true↔Zfg N U all i:=by
 obtain⟨g1,g2,g3,g4⟩:=h.rng hU hD i0 i1;have hl:=h.len;unfold Zen Zfg;rw[T_G];refine⟨⟨i0,i1⟩,Zo (λo=>o=true↔¬((gt all i).1<(N.length:Int)/\(gt all i).2.2.2.2.2.2<(gt all i).1)) ?_ λo ho=>?_⟩
 ·simp only[T_G,Zr,Zd];exact⟨Xo,λq=>by simp;omega,λq=>by simp;omega⟩
 rw[Zr];refine⟨λhb=>by simp only[Zd];exact⟨λq=>(by cases q),λq=>absurd ⟨q.1,q.2.1⟩ (ho.1 hb)⟩,λhn=>?_⟩;obtain⟨a1,a2⟩:(gt all i).1<(N.length:Int)/\(gt all i).2.2.2.2.2.2<(gt all i).1:=Classical.not_not.1 λq=>hn (ho.2 q);refine Zo (λo=>o=true↔(0<i/\i≠(U.length:Int)/\(gt all (i-1)).2.2.2.2.2.2=(gt all i).2.2.2.2.2.2/\(gt all (i-1)).1≥(gt all i).1)) ?_ λo ho=>?_
 ·simp only[T_G,Zr,Zd];refine⟨λq1=>⟨λq2=>?_,λq2=>⟨Xo,Xo,λq3=>⟨Xo,?_⟩,λq3=>?_⟩⟩,λq1=>?_⟩
  ·exact⟨λx=>(by cases x),λx=>absurd q2 x.2.1⟩
  ·rw[decide_eq_true_iff];exact⟨λx=>⟨q1,q2,q3,x⟩,λx=>x.2.2.2⟩
  ·exact⟨λx=>(by cases x),λx=>absurd x.2.2.1 q3⟩
  ·exact⟨λx=>(by cases x),λx=>absurd x.1 q1⟩
 rw[Zr];refine⟨λhb=>by simp only[Zd];exact⟨λq=>(by cases q),λq=>absurd (ho.1 hb) q.2.2.1⟩,λhn=>?_⟩;have a3:=λq=>hn (ho.2 q);rw[ZlC,Yk,Zr];refine⟨λhp=>?_,λhp=>?_⟩
 ·simp only[Zd];exact⟨λ_=>⟨a1,a2,a3,λq=>absurd (of_decide_eq_true hp) q⟩,λ_=>trivial⟩
 have hp':¬PlX all i:=by simpa [PlX] using hp
 rw[T_G,T_G];refine⟨Xo,Xo,Zo (λo=>o=true↔¬((U.length:Int)≤(gt all i).2.2.1/\(gt all i).2.2.1<(all.length:Int)/\(gt all i).2.2.2.1<(U.length:Int))) ?_ λo ho=>?_⟩
 ·simp only[Zr,Zd];exact⟨λ_=>by simp;omega,λh1=>⟨λ_=>by simp;omega,λh2=>by simp;omega⟩⟩
 rw[Zr];refine⟨λhb=>by simp only[Zd];exact⟨λq=>(by cases q),λq=>absurd (ho.1 hb) λz=>z ⟨(q.2.2.2 hp').1,(q.2.2.2 hp').2.1,(q.2.2.2 hp').2.2.1⟩⟩,λhn=>?_⟩;obtain⟨b1,b2,b3⟩:(U.length:Int)≤(gt all i).2.2.1/\(gt all i).2.2.1<(all.length:Int)/\(gt all i).2.2.2.1<(U.length:Int):=Classical.not_not.1 λq=>hn (ho.2 q);simp only[T_G,Zr,Zd];refine⟨Xo,Xo,λh1=>⟨λh2=>?_,λh2=>?_⟩,λh1=>?_⟩
 ·rw[decide_eq_true_iff];exact⟨λh3=>⟨a1,a2,a3,λ_=>⟨b1,b2,b3,h1,h2,h3⟩⟩,λq=>(q.2.2.2 hp').2.2.2.2.2⟩
 ·exact⟨λq=>(by cases q),λq=>absurd (q.2.2.2 hp').2.2.2.2.1 h2⟩
 ·exact⟨λq=>(by cases q),λq=>absurd (q.2.2.2 hp').2.2.2.1 h1⟩
theorem ZmU(h:AllS N U D all)(hU:WL U)(hD:WL D)(i0:0≤i)(i1:i<(all.length:Int))(hs:Zfg N U all i):T (Zeb all i) λb=>b=true↔ZfM all i:=by
 obtain⟨g1,g2,g3,g4⟩:=h.rng hU hD i0 i1;have hl:=h.len;unfold Zeb ZfM;rw[T_G,ZlC,Yk,Zr];refine⟨⟨i0,i1⟩,λhp=>?_,λhp=>?_⟩
 ·have hp':PlX all i:=by simpa [PlX] using hp
  simp only[Zd,decide_eq_true_iff];exact⟨λq=>⟨λ_=>q,λz=>absurd hp' z⟩,λq=>q.1 hp'⟩
 have hp':¬PlX all i:=by simpa [PlX] using hp
 obtain⟨_,_,_,q⟩:=hs;obtain⟨b1,b2,b3,_⟩:=q hp';obtain⟨_,c2,_⟩:=h.rng hU hD (i:=(gt all i).2.2.1) Xo b2;obtain⟨_,d2,_⟩:=h.rng hU hD (i:=(gt all i).2.2.2.1) Xo Xo;simp only[T_G,Zr,Zd,decide_eq_true_iff];refine⟨Xo,Xo,λh1=>⟨λh2=>⟨λh3=>⟨Xo,λh4=>⟨λz=>absurd z hp',λ_=>⟨h1,h2,h3,h4⟩⟩,λq=>(q.2 hp').2.2.2⟩,λh3=>⟨λq=>(by cases q),λq=>absurd (q.2 hp').2.2.1 h3⟩⟩,λh2=>⟨λq=>(by cases q),λq=>absurd (q.2 hp').2.1 h2⟩⟩,λh1=>⟨λq=>(by cases q),λq=>absurd (q.2 hp').1 h1⟩⟩
end Go.Vd


namespace Go.Vd
variable{l N UF DF:List Int}{U D:List B4}{k i r:Int}{all all':List E7}
inductive LnkA(N:List Int)(U:List B4)(all:List E7):Er->Prop
 | shp (i:Int):0≤i->i<(all.length:Int)->(∀j,0≤j->j<i->Zfg N U all j/\ZfM all j)->¬Zfg N U all i->LnkA N U all (.at 4 i (.no 14))
 | wgt (i:Int):0≤i->i<(all.length:Int)->(∀j,0≤j->j<i->Zfg N U all j/\ZfM all j)->Zfg N U all i->¬ZfM all i->LnkA N U all (.at 4 i (.no 8))
 | ok:(∀j,0≤j->j<(all.length:Int)->Zfg N U all j/\ZfM all j)->LnkA N U all .nil
theorem LnkA.uniq{a b:Er}(h:LnkA N U all a)(g:LnkA N U all b):a=b:=by
 cases h with
 | shp i h1 h2 h3 h4 =>
  cases g with
  | shp j g1 g2 g3 g4 =>
   rcases Yaa i j with q|q|q
   ·exact absurd (g3 i h1 q).1 h4
   ·subst q;rfl
   ·exact absurd (h3 j g1 q).1 g4
  | wgt j g1 g2 g3 g4 g5 =>
   rcases Yaa i j with q|q|q
   ·exact absurd (g3 i h1 q).1 h4
   ·subst q;exact absurd g4 h4
   ·exact absurd (h3 j g1 q).2 g5
  | ok g=>exact absurd (g i h1 h2).1 h4
 | wgt i h1 h2 h3 h4 h5 =>
  cases g with
  | shp j g1 g2 g3 g4 =>
   rcases Yaa i j with q|q|q
   ·exact absurd (g3 i h1 q).2 h5
   ·subst q;exact absurd h4 g4
   ·exact absurd (h3 j g1 q).1 g4
  | wgt j g1 g2 g3 g4 g5 =>
   rcases Yaa i j with q|q|q
   ·exact absurd (g3 i h1 q).2 h5
   ·subst q;rfl
   ·exact absurd (h3 j g1 q).2 g5
  | ok g=>exact absurd (g i h1 h2).2 h5
 | ok h =>
  cases g with
  | shp j g1 g2 g3 g4=>exact absurd (h j g1 g2).1 g4
  | wgt j g1 g2 g3 g4 g5=>exact absurd (h j g1 g2).2 g5
  | ok _=>rfl
def SmX(N:List Int)(U D:List B4):Prop:=N.length≤65536/\U.length+D.length≤1048576
def LnX(N UF DF:List Int):Prop:=(UF.length:Int)=N.length+1/\(DF.length:Int)=N.length+1
inductive HierA(N UF:List Int)(U:List B4)(DF:List Int)(D:List B4):Er->Prop
 | lim:¬SmX N U D->HierA N UF U DF D (.no 9)
 | len:SmX N U D->¬LnX N UF DF->HierA N UF U DF D (.no 14)
 | up (er:Er):SmX N U D->LnX N UF DF->FstA UF (U.length:Int) er->er≠.nil->HierA N UF U DF D er
 | dn (er:Er):SmX N U D->LnX N UF DF->Fst UF (U.length:Int)->FstA DF (D.length:Int) er->er≠.nil->HierA N UF U DF D er
 | ord (er:Er):SmX N U D->LnX N UF DF->Fst UF (U.length:Int)->Fst DF (D.length:Int)->OrdA N er->er≠.nil->HierA N UF U DF D er
 | lnk (er:Er) (all:List E7):SmX N U D->LnX N UF DF->Fst UF (U.length:Int)->Fst DF (D.length:Int)->ZcY N->AllX UF DF U D all->LnkA N U all er->HierA N UF U DF D er
theorem FstA.nilD(h:FstA l k .nil):Fst l k:=by cases h;assumption
theorem OrdA.nilD(h:OrdA l .nil):ZcY l:=by cases h;assumption
theorem FstA.no{a:Er}(h:FstA l k a)(ha:a≠.nil)(g:Fst l k):False:=ha (h.uniq (.ok g))
theorem OrdA.no{a:Er}(h:OrdA l a)(ha:a≠.nil)(g:ZcY l):False:=ha (h.uniq (.ok g))
theorem HierA.uniq{a b:Er}(h:HierA N UF U DF D a)(g:HierA N UF U DF D b):a=b:=by
 cases h with
 | lim h1 =>
  cases g with
  | lim _=>rfl
  | len g1 _=>exact absurd g1 h1
  | up _ g1 _ _ _=>exact absurd g1 h1
  | dn _ g1 _ _ _ _=>exact absurd g1 h1
  | ord _ g1 _ _ _ _ _=>exact absurd g1 h1
  | lnk _ _ g1 _ _ _ _ _ _=>exact absurd g1 h1
 | len h1 h2 =>
  cases g with
  | lim g1=>exact absurd h1 g1
  | len _ _=>rfl
  | up _ _ g2 _ _=>exact absurd g2 h2
  | dn _ _ g2 _ _ _=>exact absurd g2 h2
  | ord _ _ g2 _ _ _ _=>exact absurd g2 h2
  | lnk _ _ _ g2 _ _ _ _ _=>exact absurd g2 h2
 | up _ h1 h2 h3 h4 =>
  cases g with
  | lim g1=>exact absurd h1 g1
  | len _ g2=>exact absurd h2 g2
  | up _ _ _ g3 _=>exact h3.uniq g3
  | dn _ _ _ g3 _ _=>exact (h3.no h4 g3).elim
  | ord _ _ _ g3 _ _ _=>exact (h3.no h4 g3).elim
  | lnk _ _ _ _ g3 _ _ _ _=>exact (h3.no h4 g3).elim
 | dn _ h1 h2 h3 h4 h5 =>
  cases g with
  | lim g1=>exact absurd h1 g1
  | len _ g2=>exact absurd h2 g2
  | up _ _ _ g3 g4=>exact (g3.no g4 h3).elim
  | dn _ _ _ _ g4 _=>exact h4.uniq g4
  | ord _ _ _ _ g4 _ _=>exact (h4.no h5 g4).elim
  | lnk _ _ _ _ _ g4 _ _ _=>exact (h4.no h5 g4).elim
 | ord _ h1 h2 h3 h4 h5 h6 =>
  cases g with
  | lim g1=>exact absurd h1 g1
  | len _ g2=>exact absurd h2 g2
  | up _ _ _ g3 g4=>exact (g3.no g4 h3).elim
  | dn _ _ _ _ g4 g5=>exact (g4.no g5 h4).elim
  | ord _ _ _ _ _ g5 _=>exact h5.uniq g5
  | lnk _ _ _ _ _ _ g5 _ _=>exact (h5.no h6 g5).elim
 | lnk _ all h1 h2 h3 h4 h5 h6 h7 =>
  cases g with
  | lim g1=>exact absurd h1 g1
  | len _ g2=>exact absurd h2 g2
  | up _ _ _ g3 g4=>exact (g3.no g4 h3).elim
  | dn _ _ _ _ g4 g5=>exact (g4.no g5 h4).elim
  | ord _ _ _ _ _ g5 g6=>exact (g5.no g6 h5).elim
  | lnk _ all' _ _ _ _ _ g6 g7 =>
   obtain rfl:=h6.uniq h3 h4 g6;exact h7.uniq g7
theorem ZoI(hN:W32 N)(hUF:W32 UF)(hU:WL U)(hDF:W32 DF)(hD:WL D)(lU:U.length≤9000000000000)(lD:D.length≤9000000000000)(lN:N.length≤9000000000000000):T (ZeO N UF U DF D) λr=>HierA N UF U DF D r.2/\(r.2=.nil->SmX N U D/\LnX N UF DF/\Fst UF (U.length:Int)/\Fst DF (D.length:Int)/\ZcY N/\AllX UF DF U D r.1/\∀j,0≤j->j<(r.1.length:Int)->Zfg N U r.1 j/\ZfM r.1 j)/\(r.2≠.nil->r.1=[]):=by
 unfold ZeO;refine Zo (λo=>o=true↔¬SmX N U D) ?_ λo ho=>?_
 ·unfold SmX;simp only[T_G,Zr,Zd];exact⟨λ_=>by simp;omega,λh1=>⟨Xo,by rw[decide_eq_true_iff];omega⟩⟩
 rw[Zr];refine⟨λhb=>by simp only[Zd];exact⟨.lim (ho.1 hb),λq=>(by cases q),λ_=>trivial⟩,λhn=>?_⟩;have sm:SmX N U D:=Classical.not_not.1 λq=>hn (ho.2 q);have sm':=sm;obtain⟨n1,m1⟩:=sm';refine Zo (λo=>o=true↔¬LnX N UF DF) ?_ λo ho=>?_
 ·unfold LnX;simp only[T_G,Zr,Zd];exact⟨Xo,λh1=>by simp[h1],λh1=>by simp[h1]⟩
 rw[Zr];refine⟨λhb=>by simp only[Zd];exact⟨.len sm (ho.1 hb),λq=>(by cases q),λ_=>trivial⟩,λhn=>?_⟩;have ln:LnX N UF DF:=Classical.not_not.1 λq=>hn (ho.2 q);have ln':=ln;obtain⟨nU,nD⟩:=ln';refine Zo _ (ZjK hUF Xo Xo) λer h1=>?_;rw[Zr];refine⟨λe1=>?_,λe1=>by simp only[Zd];exact⟨.up er sm ln h1 e1,λq=>absurd q e1,λ_=>trivial⟩⟩;subst e1;have fU:=h1.nilD;refine Zo _ (ZjK hDF Xo Xo) λer h2=>?_;rw[Zr];refine⟨λe2=>?_,λe2=>by simp only[Zd];exact⟨.dn er sm ln fU h2 e2,λq=>absurd q e2,λ_=>trivial⟩⟩;subst e2;have fD:=h2.nilD;refine Zo _ (Znp hN Xo) λer h3=>?_;rw[Zr];refine⟨λe3=>?_,λe3=>by simp only[Zd];exact⟨.ord er sm ln fU fD h3 e3,λq=>absurd q e3,λ_=>trivial⟩⟩;subst e3;have od:=h3.nilD;rw[show Zff N UF U DF D=some () from rfl,Yk]
 have hok:∀t:List E8,t.length≤3000000->(λtr_=>(Zej (λx_ zz_=>ZaD x_ zz_) [] tr_).isSome) t=true:=λt ht=>by
  show (Zej (λx_ zz_=>ZaD x_ zz_) [] t).isSome=true;rw[Zks t [] (by simp;omega)];rfl
 refine Zo (λt:List E8=>(t.length:Int)=U.length+D.length/\AllX UF DF U D (t.map (·.2))) ?_ ?_
 ·unfold ZeD;refine Zo _ (p_ups hok fU nU n1 Xo hU) ?_;rintro⟨t0,c⟩⟨a1,rfl,a3⟩;dsimp only at *;refine Zo _ (p_dns Xo a1 Xo hok fD nD n1 Xo hD) λt ⟨b1,b2,b3⟩=>?_;simp only[Zd];exact⟨b1,ZoM fU fD Xo Xo a1 a3 b1 b2 b3⟩
 rintro t ⟨ht,hX⟩;rw[Zks t [] (by simp;omega),Yk,List.nil_append];generalize t.map (·.2)=all at hX;have hA:=hX.s nU nD;have hl:=hA.len
 refine Zbi (λ_=>∀i,0≤i->i<(all.length:Int)->Zfg N U all i/\ZfM all i) ?_ λ_ h=>by
  simp only[Zd];exact⟨.lnk .nil all sm ln fU fD od hX (.ok h),λ_=>⟨sm,ln,fU,fD,od,hX,h⟩,λq=>absurd rfl q⟩
 refine ZK (λi=>0≤i/\i≤(all.length:Int)/\∀j,0≤j->j<i->Zfg N U all j/\ZfM all j) (λi=>((all.length:Int)-i).toNat) ?_ ⟨Xs,Xo,λj j0 j1=>Xo⟩;rintro i ⟨i0,i1,hi⟩;unfold ZdL;rw[Zr];refine⟨λhlt=>?_,λhge=>by simp only[Zd,Yq];exact λj j0 j1=>hi j j0 Xo⟩;refine Zo _ (Zn1 hA hU hD m1 i0 hlt) λb hb=>?_;rw[ZiU,ZiU,Zr];refine⟨λhn=>?_,λhn=>?_⟩
 ·have ns:¬Zfg N U all i:=λq=>by simp[hb.2 q]at hn
  simp only[Yk,Zdt,Zd,Yq,Yo];exact⟨.lnk _ all sm ln fU fD od hX (.shp i i0 hlt hi ns),λq=>(by cases q),λ_=>trivial⟩
 have sh:=hb.1 (by simpa using hn);refine Zo _ (ZmU hA hU hD i0 hlt sh) λb hb=>?_;rw[Zr];refine⟨λhn=>?_,λhn=>?_⟩
 ·have ns:¬ZfM all i:=λq=>by simp[hb.2 q]at hn
  simp only[Yk,Zdt,Zd,Yq,Yo];exact⟨.lnk _ all sm ln fU fD od hX (.wgt i i0 hlt hi sh ns),λq=>(by cases q),λ_=>trivial⟩
 have wg:=hb.1 (by simpa using hn);simp only[T_G,Zd,Yo];refine⟨Xo,⟨Xo,Xo,λj j0 j1=>?_⟩,Xo⟩;by_cases e:j=i
 ·subst e;exact⟨sh,wg⟩
 ·exact hi j j0 Xo
end Go.Vd


namespace Go.Vd
variable{l N UF DF ranks:List Int}{U D:List B4}{k i r:Int}{all all':List E7}
def trn(u d x:Int):Int:=if x=4294967295 then x else if x<u then x+d else x-u
def tl(u d:Int)(x:B4):B4:=(x.1,x.2.1,trn u d x.2.2.2,trn u d x.2.2.1)
theorem p_T1{u d:Int}(i0:0≤i)(i1:i≤4294967295)(u0:0≤u)(u1:u≤1048576)(d0:0≤d)(d1:d≤1048576):Zdr i u d=some (trn u d i):=by
 unfold Zdr trn G;by_cases h:i=4294967295
 ·rw[if_pos h,if_pos h]
 ·rw[if_neg h,if_neg h];by_cases q:i<u
  ·rw[if_pos q,if_pos q,if_pos Xo]
  ·rw[if_neg q,if_neg q,if_pos Xo]
theorem Zpl{f:B4->B4}{L:List B4}{i:Int}(i0:0≤i)(i1:i<(L.length:Int)):(L.take i.toNat).map f++[f (gt L i)]=(L.take (i+1).toNat).map f:=by
 rw[Zep i0 i1,Y2];rfl
theorem p_T2{L:List B4}{u d:Int}(hL:WL L)(hl:L.length≤1048576)(u0:0≤u)(u1:u≤1048576)(d0:0≤d)(d1:d≤1048576):Zdm L u d=some (L.map (tl u d)):=by
 refine Zfb.1 ?_;unfold Zdm;rw[Zf3];refine ZK (λs=>0≤s.2/\s.2≤(L.length:Int)/\s.1=(L.take s.2.toNat).map (tl u d)) (λs=>((L.length:Int)-s.2).toNat) ?_ Xs;rintro⟨m,i⟩⟨h0,h1,h2⟩;dsimp only at h0 h1 h2 ⊢;subst h2;unfold Zdb;rw[Zr];refine⟨λhi=>?_,λhi=>by simp only[Zd,Yq];rw[YE Xo]⟩;obtain⟨_,_,a,b⟩:=hL _ (ZbU h0 hi);rw[T_G,p_T1 b.1 b.2 u0 u1 d0 d1,Yk,p_T1 a.1 a.2 u0 u1 d0 d1,Yk];simp only[T_G,Zd,Yo];have hm:((L.take i.toNat).map (tl u d)).length=i.toNat:=by rw[YB,YG];omega
 exact⟨h0,Xo,Xo,⟨Xo,Xo,Zpl (f:=tl u d) h0 hi⟩,Xo⟩
end Go.Vd


namespace Go.Vd
theorem ZfG:∀{N:Nat} {l:List Int},l.Nodup->(∀x∈l,0≤x/\x<(N:Int))->l.length≤N:=by
 intro N;induction N with
 | zero =>
  intro l _ h;cases l with
  | nil=>simp
  | cons a l=>have:=h a Xs;omega
 | succ N ih =>
  intro l hn h
  have h1:(l.filter (λx=>decide (x≠(N:Int)))).length≤N:=ih (hn.filter _) λx hx=>by
   have hm:=List.mem_filter.1 hx;have:=h x hm.1;have h3:=of_decide_eq_true hm.2;omega
  have h2:l.length≤(l.filter (λx=>decide (x≠(N:Int)))).length+1:=by
   clear h h1 ih;induction l with
   | nil=>simp
   | cons a l ih2 =>
    rw[List.nodup_cons]at hn;by_cases e:a=(N:Int)
    ·have:l.filter (λx=>decide (x≠(N:Int)))=l:=List.filter_eq_self.2 λx hx=>decide_eq_true λe2=>hn.1 (by rw[e,← e2];exact hx);rw[YX,if_neg (by simp[e]),this];simp
    ·rw[YX,if_pos (by simp[e])];have:=ih2 hn.2;simp only[Yp];omega
  omega
end Go.Vd


namespace Go.Vd
abbrev Lab:=Int->Option (Int×Int×Int)
def lup(L:Lab)(x:Int)(y:Int×Int×Int):Lab:=λz=>if z=x then some y else L z
def opn(L:Lab)(x d:Int):Prop:=match L x with
 | none=>True
 | some y=>y.2.2=0/\d<y.1
instance (L:Lab)(x d:Int):Decidable (opn L x d):=by
 unfold opn
 cases L x with
 | none=>exact inferInstanceAs (Decidable True)
 | some y=>exact inferInstanceAs (Decidable (_/\_))
def ZfI(d hp:Int)(L:Lab)(a:Int×Int):Lab:=if opn L a.1 (d+a.2) then lup L a.1 (d+a.2,hp+1,0) else L
def Ziw(row:Int->Yf)(hops:Int)(L:Lab)(v:Int)(y:Int×Int×Int):Lab:=
 if y.2.1≥hops then lup L v (y.1,y.2.1,1) else (row v).foldl (ZfI y.1 y.2.1) (lup L v (y.1,y.2.1,1))
def WPick(L:Lab)(v:Int)(y:Int×Int×Int):Prop:=
 L v=some y/\y.2.2=0/\∀x z,L x=some z->z.2.2=0->y.1<z.1∨(y.1=z.1/\v≤x)
def WNo(L:Lab):Prop:=∀x z,L x=some z->z.2.2≠0
variable{L L':Lab}{row:Int->Yf}{hops settles most c N v:Int}{y:Int×Int×Int}{ss:List Int}
theorem WPick.uniq{v w:Int}{y z:Int×Int×Int}(h:WPick L v y)(k:WPick L w z):v=w/\y=z:=by
 have h1:=h.2.2 w z k.1 k.2.1;have h2:=k.2.2 v y h.1 h.2.1;have e:v=w:=Xo;subst e;exact⟨rfl,Option.some.inj (h.1.symm.trans k.1)⟩
theorem WPick.no(h:WPick L v y)(k:WNo L):False:=k v y h.1 h.2.1
inductive WR(row:Int->Yf)(hops settles most:Int):Int->Lab->Lab->Prop
 | full (c:Int) (L:Lab):settles≤c->WR row hops settles most c L L
 | none (c:Int) (L:Lab):c<settles->WNo L->WR row hops settles most c L L
 | far (c:Int) (L:Lab) (v:Int) (y:Int×Int×Int):c<settles->WPick L v y->y.1>most->WR row hops settles most c L L
 | go (c:Int) (L:Lab) (v:Int) (y:Int×Int×Int) (L':Lab):c<settles->WPick L v y->¬y.1>most->WR row hops settles most (c+1) (Ziw row hops L v y) L'->WR row hops settles most c L L'
theorem WR.uniq{A B:Lab}(h:WR row hops settles most c L A)(k:WR row hops settles most c L B):A=B:=by
 induction h with
 | full c L h1 =>
  cases k with
  | full=>rfl
  | none=>rfl
  | far=>rfl
  | go _ _ _ _ _ k1=>omega
 | none c L h1 h2 =>
  cases k with
  | full=>rfl
  | none=>rfl
  | far=>rfl
  | go _ _ _ _ _ _ k2=>exact (k2.no h2).elim
 | far c L v y h1 h2 h3 =>
  cases k with
  | full=>rfl
  | none=>rfl
  | far=>rfl
  | go _ _ _ _ _ _ k2 k3=>rw[(h2.uniq k2).2]at h3;exact absurd h3 k3
 | go c L v y L' h1 h2 h3 _ ih =>
  cases k with
  | full _ _ k1=>omega
  | none _ _ _ k2=>exact (h2.no k2).elim
  | far _ _ _ _ _ k2 k3=>rw[← (h2.uniq k2).2]at k3;exact absurd k3 h3
  | go _ _ w z _ _ k2 _ k4 =>
   obtain⟨rfl,rfl⟩:=h2.uniq k2;exact ih k4
def Zn8(row:Int->Yf)(N:Int):Prop:=∀v,∀a∈row v,(0≤a.1/\a.1<N)/\0≤a.2/\a.2≤140737488355328
structure WI(N c:Int)(L:Lab)(ss:List Int):Prop where
 dom:∀x y,L x=some y->0≤x/\x<N
 val:∀x y,L x=some y->0≤y.1/\y.1≤c*140737488355328/\0≤y.2.1/\y.2.1≤c/\(y.2.2=0∨y.2.2=1)
 st:∀x,x∈ss↔∃y,L x=some y/\y.2.2=1
 nd:ss.Nodup
theorem WI.len(h:WI N c L ss)(n0:0≤N):(ss.length:Int)≤N:=by
 obtain⟨n,rfl⟩:=Int.eq_ofNat_of_zero_le n0
 have:=ZfG (N:=n) h.nd λx hx=>by
  obtain⟨y,h1,_⟩:=(h.st x).1 hx;exact h.dom x y h1
 omega
theorem WI.mono(h:WI N c L ss){c':Int}(hc:c≤c'):WI N c' L ss:=
 ⟨h.dom,λx y e=>by have:=h.val x y e;omega,h.st,h.nd⟩
theorem WI.settle(h:WI N c L ss)(e:L v=some y)(h0:y.2.2=0):WI N c (lup L v (y.1,y.2.1,1)) (v::ss):=by
 have hv:=h.val v y e
 have hn:v∉ss:=λhm=>by
  obtain⟨z,h1,h2⟩:=(h.st v).1 hm;rw[e]at h1;cases h1;omega
 refine⟨λx z hz=>?_,λx z hz=>?_,λx=>?_,List.nodup_cons.2 ⟨hn,h.nd⟩⟩
 ·unfold lup at hz;by_cases hx:x=v
  ·rw[hx];exact h.dom v y e
  ·rw[if_neg hx]at hz;exact h.dom x z hz
 ·unfold lup at hz;by_cases hx:x=v
  ·rw[if_pos hx]at hz;cases hz;exact⟨hv.1,hv.2.1,hv.2.2.1,hv.2.2.2.1,.inr rfl⟩
  ·rw[if_neg hx]at hz;exact h.val x z hz
 ·unfold lup;by_cases hx:x=v
  ·rw[if_pos hx,hx];exact⟨λ_=>⟨_,rfl,rfl⟩,λ_=>Xs⟩
  ·rw[if_neg hx];simp only[List.mem_cons,hx,false_or];exact h.st x
theorem WI.rel(h:WI N c L ss){d hp:Int}{a:Int×Int}(d0:0≤d)(d1:d+a.2≤c*140737488355328)(p0:0≤hp)(p1:hp+1≤c)(a0:0≤a.1/\a.1<N)(w0:0≤a.2):WI N c (ZfI d hp L a) ss:=by
 unfold ZfI;by_cases ho:opn L a.1 (d+a.2)
 ·rw[if_pos ho];refine⟨λx z hz=>?_,λx z hz=>?_,λx=>?_,h.nd⟩
  ·unfold lup at hz;by_cases hx:x=a.1
   ·rw[hx];exact a0
   ·rw[if_neg hx]at hz;exact h.dom x z hz
  ·unfold lup at hz;by_cases hx:x=a.1
   ·rw[if_pos hx]at hz;cases hz;exact⟨by dsimp only;omega,by dsimp only;omega,by dsimp only;omega,by dsimp only;omega,.inl rfl⟩
   ·rw[if_neg hx]at hz;exact h.val x z hz
  ·rw[h.st x];unfold lup;by_cases hx:x=a.1
   ·rw[if_pos hx];constructor
    ·rintro⟨z,h1,h2⟩;rw[hx]at h1;unfold opn at ho;rw[h1]at ho;dsimp only at ho;omega
    ·rintro⟨z,h1,h2⟩;cases h1;cases h2
   ·rw[if_neg hx]
 ·rw[if_neg ho];exact h
theorem WI.fold{d hp:Int}(d0:0≤d)(d1:d+140737488355328≤c*140737488355328)(p0:0≤hp)(p1:hp+1≤c):∀{l:Yf} {L:Lab},WI N c L ss->(∀a∈l,(0≤a.1/\a.1<N)/\0≤a.2/\a.2≤140737488355328)->WI N c (l.foldl (ZfI d hp) L) ss:=by
 intro l;induction l with
 | nil=>intro L h _;exact h
 | cons a l ih =>
  intro L h hl;have:=hl a Xs;exact ih (h.rel d0 Xo p0 p1 this.1 this.2.1) λb hb=>hl b (by simp[hb])
theorem WI.set(h:WI N c L ss)(hr:Zn8 row N)(hp:WPick L v y):WI N (c+1) (Ziw row hops L v y) (v::ss):=by
 have hv:=h.val v y hp.1;have h1:=(h.settle hp.1 hp.2.1).mono (c':=c+1) Xo;unfold Ziw;split
 ·exact h1
 ·exact WI.fold Xo Xo Xo Xo h1 (hr v)
def ZfK(u:Int):Lab:=lup (λ_=>none) u (0,0,0)
theorem WI.zero{u:Int}(u0:0≤u)(u1:u<N):WI N 0 (ZfK u) []:=by
 refine⟨λx z hz=>?_,λx z hz=>?_,λx=>?_,List.nodup_nil⟩
 ·unfold ZfK lup at hz;by_cases hx:x=u
  ·rw[hx];exact⟨u0,u1⟩
  ·rw[if_neg hx]at hz;cases hz
 ·unfold ZfK lup at hz;by_cases hx:x=u
  ·rw[if_pos hx]at hz;cases hz;simp
  ·rw[if_neg hx]at hz;cases hz
 ·simp only[List.not_mem_nil,false_iff];rintro⟨z,h1,h2⟩;unfold ZfK lup at h1;by_cases hx:x=u
  ·rw[if_pos hx]at h1;cases h1;cases h2
  ·rw[if_neg hx]at h1;cases h1
end Go.Vd


namespace Go.Vd
abbrev Nd3:=Bool×Yd×Yd
variable{a:List Nd3}{b1 b2 b3 b4:Int}{f:Int->Option (Int×Int×Int)}{q:Yf}{i j n:Int}
theorem Zjm(i0:0≤i)(i1:i<(q.length:Int))(j0:0≤j)(j1:j<(q.length:Int)):Zat q i j=some (decide (Less (gt q i) (gt q j))):=by
 unfold Zat G;rw[if_pos ⟨i0,i1⟩,if_pos ⟨j0,j1⟩];generalize gt q i=x;generalize gt q j=y;unfold Less;by_cases h:x.1<y.1
 ·rw[if_pos h];simp[h]
 ·rw[if_neg h];by_cases e:x.1=y.1
  ·rw[if_pos e];simp[h,e]
  ·rw[if_neg e];simp[h,e]
theorem Zjo(i0:0≤i)(i1:i<(q.length:Int))(j0:0≤j)(j1:j<(q.length:Int)):Zaw q i j=some (swp q i j):=by
 unfold Zaw G;rw[if_pos ⟨j0,j1⟩,if_pos ⟨i0,i1⟩,if_pos (by simpa using j1)];rfl
theorem p_hUp(hl:q.length≤1000000000000)(j0:0≤j)(j1:j<(q.length:Int))(U:Up2 q.length (gt q) j) :
  T (Zcb a b1 b2 b3 b4 q f j) λr=>r.Perm q/\Hq r:=by
 unfold Zcb;refine Zo (λr=>r.Perm q/\Hq r) ?_ λr h=>by simpa using h
 refine ZK (λz=>z.1.Perm q/\0≤z.2/\z.2<(q.length:Int)/\Up2 q.length (gt z.1) z.2) (λz=>z.2.toNat) ?_ ⟨List.Perm.refl _,j0,j1,U⟩;rintro⟨h,i⟩⟨hp,i0,i1,V⟩;dsimp only at *;have hlen:=hp.length_eq;unfold Zbv;by_cases hz:i=0
 ·subst hz;simp only[T_G];refine⟨Xo,Xd,?_⟩;rw[if_pos Xd,Yk,if_pos rfl];simp only[Zd,Yq];refine⟨hp,?_⟩;have:=V.done (.inl rfl);unfold Hq;rw[hlen];exact this
 ·have hpar:ZX i<i/\0≤ZX i:=by unfold ZX;omega
  rw[tdiv2 Xo];simp only[T_G];refine⟨Xo,Xo,?_⟩;rw[if_neg Xo,Zjm Xo Xo hpar.2 Xo,Yk,Yk];by_cases hless:Less (gt h i) (gt h (ZX i))
  ·rw[decide_eq_true hless,if_neg Xd,Zjo hpar.2 Xo Xo Xo,Yk];simp only[Zd,Yo];refine⟨⟨(ZiD hpar.2 Xo Xo Xo).trans hp,hpar.2,Xo,?_⟩,Xo⟩;refine V.step Xo i1 hless λp p0 p1=>?_;rw[ZkM hpar.2 Xo Xo Xo p0];by_cases e1:p=i
   ·subst e1;rw[if_pos rfl,if_neg Xo,if_pos rfl]
   ·rw[if_neg e1];by_cases e2:p=ZX i
    ·rw[if_pos e2,if_pos e2]
    ·rw[if_neg e2,if_neg e2,if_neg e1]
  ·rw[decide_eq_false hless,if_pos Xd];simp only[Zd,Yq];refine⟨hp,?_⟩;have:=V.done (.inr hless);unfold Hq;rw[hlen];exact this
theorem ZoK(hl:q.length≤1000000000000)(n0:0≤n)(n1:n≤(q.length:Int))(D:Down2 n (gt q) 0) :
  T (ZbD a b1 b2 b3 b4 q f 0 n) λr=>r.2.Perm q/\Ord2 n (gt r.2)/\∀p,n≤p->p<(q.length:Int)->gt r.2 p=gt q p:=by
 unfold ZbD;refine Zo (λr=>r.2.Perm q/\Ord2 n (gt r.2)/\∀p,n≤p->p<(q.length:Int)->gt r.2 p=gt q p) ?_ λr h=>by simpa using h
 refine ZK (λz=>z.1.Perm q/\0≤z.2/\(z.2<n∨z.2=0)/\Down2 n (gt z.1) z.2/\∀p,n≤p->p<(q.length:Int)->gt z.1 p=gt q p) (λz=>(n-z.2).toNat) ?_ ⟨List.Perm.refl _,Xs,.inr rfl,D,λ_ _ _=>rfl⟩;rintro⟨h,i⟩⟨hp,i0,i1,E,hr⟩;dsimp only at *;have hlen:=hp.length_eq;have kids:∀c,1≤c->ZX c=i->c=2*i+1∨c=2*i+1+1:=λc c0 hc=>by unfold ZX at hc;omega
 have par1:ZX (2*i+1)=i:=by unfold ZX;omega
 have par2':ZX (2*i+1+1)=i:=by unfold ZX;omega
 unfold ZaX;simp only[T_G];refine⟨Xo,Xo,?_⟩;by_cases hn:2*i+1≥n
 ·rw[if_pos hn,Yk,if_pos rfl];simp only[Zd,Yq];refine⟨hp,E.done λc c0 c1 hc=>?_,hr⟩;have:=kids c c0 hc;omega
 ·rw[if_neg hn,Yk,if_neg (by simp;omega)];have hin:i<n:=Xo;simp only[T_G];refine⟨Xo,?_⟩
  -- the lesser child
  refine Zo (λo=>o=decide (2*i+1+1<n/\Less (gt h (2*i+1+1)) (gt h (2*i+1)))) ?_ ?_
  ·by_cases h2:2*i+1+1<n
   ·rw[if_pos h2,Zjm Xo Xo Xo Xo,Yk];simp[h2]
   ·rw[if_neg h2];simp[h2]
  rintro _ rfl
  have key:∀c,1≤c->c<n->ZX c=i->(∀d,1≤d->d<n->ZX d=i->¬Less (gt h d) (gt h c)) ->
    T ((Zat h c i).bind λy82=>if (!y82)=true then (some (Yr (i,h))) else (((Zaw h i c).bind λy92=>some (Yu (y92,c))))) (YR (λz:Yf×Int=>(z.1.Perm q/\0≤z.2/\(z.2<n∨z.2=0)/\Down2 n (gt z.1) z.2/\∀p,n≤p->p<(q.length:Int)->gt z.1 p=gt q p)/\(n-z.2).toNat<(n-i).toNat) λr:Int×Yf=>r.2.Perm q/\Ord2 n (gt r.2)/\∀p,n≤p->p<(q.length:Int)->gt r.2 p=gt q p):=by
   intro c c0 c1 hc hm;have hci:i<c:=by have:=kids c c0 hc;omega
   rw[Zjm Xo Xo i0 Xo,Yk];by_cases hless:Less (gt h c) (gt h i)
   ·rw[decide_eq_true hless,if_neg Xd,Zjo i0 Xo Xo Xo,Yk];simp only[Zd,Yo];have hs:∀p,0≤p->gt (swp h i c) p=if p=c then gt h i else if p=i then gt h c else gt h p:=λp p0=>ZkM i0 Xo Xo Xo p0;refine⟨⟨(ZiD i0 Xo Xo Xo).trans hp,Xo,.inl c1,E.step i0 c0 c1 hc hm hless λp p0 p1=>hs p p0,λp p0 p1=>?_⟩,Xo⟩;rw[hs p Xo,if_neg Xo,if_neg Xo];exact hr p p0 p1
   ·rw[decide_eq_false hless,if_pos Xd];simp only[Zd,Yq];refine⟨hp,E.done λd d0 d1 hd=>?_,hr⟩;exact Zes (hm d d0 d1 hd) hless
  by_cases hpick:2*i+1+1<n/\Less (gt h (2*i+1+1)) (gt h (2*i+1))
  ·rw[decide_eq_true hpick,if_pos rfl,Yk];refine key _ Xo hpick.1 par2' λd d0 d1 hd=>?_;rcases kids d d0 hd with rfl|rfl
   ·exact hpick.2.irr
   ·unfold Less;omega
  ·rw[decide_eq_false hpick,if_neg Xd,Yk];refine key _ Xo Xo par1 λd d0 d1 hd=>?_;rcases kids d d0 hd with rfl|rfl
   ·unfold Less;omega
   ·exact λk=>hpick ⟨d1,k⟩
theorem ZkX{E:Type}[Inhabited E]{l:List E}{x:E}{p:Int}(p0:0≤p):gt (l++[x]) p=if p=(l.length:Int) then x else gt l p:=by
 unfold gt;rw[Yl,Yl];by_cases h:p=(l.length:Int)
 ·subst h;simp
 ·rw[if_neg h];by_cases h2:p<(l.length:Int)
  ·rw[YF Xo]
  ·rw[YQ (by simp;omega),YQ Xo]
theorem ZnP{E:Type}[Inhabited E]{l:List E}{m:Nat}{p:Int}(p0:0≤p)(p1:p<(m:Int)):gt (l.take m) p=gt l p:=by
 unfold gt;rw[Yl,Yl,YY,if_pos Xo]
theorem Zo5{d v:Int}(hq:Hq q)(hl:q.length≤100000000000):T (ZbA a b1 b2 b3 b4 q f d v) λr=>r.Perm ((d,v)::q)/\Hq r:=by
 unfold ZbA ZcX Zbl;have hln:(q++[(d,v)]).length=q.length+1:=Xs
 rw[Zf3,T_G];refine⟨Xo,?_⟩;simp only[Zd,Yk,hln,T_G];refine⟨Xo,?_⟩;refine Zo _ (p_hUp (q:=q++[(d,v)]) Xo Xo (by rw[hln];omega) ?_) ?_
 ·rw[hln,show ((q.length+1:Nat):Int)-1=(q.length:Int) from Xo];have pl:∀p,1≤p->ZX p<p/\0≤ZX p:=λp hp=>by unfold ZX;omega
  refine⟨λp p0 p1 hp=>?_,λi0 c c0 c1 hc=>?_⟩
  ·have:=pl p p0;rw[ZkX Xo,if_neg hp,ZkX Xo,if_neg Xo];exact hq p p0 Xo
  ·have:=pl c c0;omega
 ·rintro r ⟨h1,h2⟩;simp only[Zd];exact⟨h1.trans (List.perm_append_singleton _ _),h2⟩
theorem ZpN(hq:Hq q)(hl:q.length≤100000000000)(h0:0<(q.length:Int)):T (ZbR a b1 b2 b3 b4 q f) λr=>(r.1,r.2.1)=gt q 0/\(gt q 0::r.2.2.2).Perm q/\Hq r.2.2.2:=by
 unfold ZbR Zbl;simp only[Yk,T_G];refine⟨Xo,?_⟩;have hs:∀p,0≤p->gt (swp q 0 ((q.length:Int)-1)) p=if p=(q.length:Int)-1 then gt q 0 else if p=0 then gt q ((q.length:Int)-1) else gt q p:=λp p0=>ZkM Xo Xo Xo Xo p0;have hsl:(swp q 0 ((q.length:Int)-1)).length=q.length:=ZoU;have hsp:=ZiD (l:=q) (i:=0) (j:=(q.length:Int)-1) Xo Xo Xo Xo;rw[Zjo Xo Xo Xo Xo,Yk];refine Zo _ (ZoK (q:=swp q 0 ((q.length:Int)-1)) Xo Xo Xo ?_) ?_
 ·have pl:∀p,1≤p->ZX p<p/\0≤ZX p:=λp hp=>by unfold ZX;omega
  refine⟨λp p0 p1 hp=>?_,λi0=>Xo⟩;have:=pl p p0;rw[hs p Xo,if_neg Xo,if_neg Xo,hs _ this.2,if_neg Xo,if_neg hp];exact hq p p0 Xo
 ·rintro⟨b,r⟩⟨h1,h2,h3⟩;dsimp only at *;have hrl:=h1.length_eq;rw[hsl]at hrl;have hlast:=h3 ((q.length:Int)-1) Xo Xo;rw[hs _ Xo,if_pos rfl]at hlast;unfold Zdk;simp only[T_G,Zf3,Zd,hrl];refine⟨Xo,Xo,Xo,?_⟩
  have hsplit:r=r.take ((q.length:Int)-1).toNat++[gt r ((q.length:Int)-1)]:=by
   have e:r.take (((q.length:Int)-1).toNat+1)=r:=YE Xo;have e2:=List.take_add_one (l:=r) (i:=((q.length:Int)-1).toNat);rw[e]at e2
   have:r[((q.length:Int)-1).toNat]?.toList=[gt r ((q.length:Int)-1)]:=by
    unfold gt;rw[Yl,Yn Xo];rfl
   rw[this]at e2;exact e2
  refine⟨by rw[hlast],?_,?_⟩
  ·rw[hlast]at hsplit;refine List.Perm.trans ?_ (h1.trans hsp);conv=>rhs;rw[hsplit]
   exact (List.perm_append_singleton _ _).symm
  ·have hlt:(r.take ((q.length:Int)-1).toNat).length=q.length-1:=by rw[YG];omega
   unfold Hq;rw[hlt];refine Ord2.congr (h:=gt r) ?_ λp p0 p1=>ZnP p0 Xo;rw[show ((q.length-1:Nat):Int)=(q.length:Int)-1 from Xo];exact h2
end Go.Vd


namespace Go.Vd
abbrev Hf:=Int×Int×Int
abbrev OAr:=Int×Int×Int×Int
def Ris(l:List Hf):Prop:=l.Pairwise λa b=>a.1<b.1
theorem Ris.uniq{l m:List Hf}(h:Ris l)(k:Ris m)(e:∀x,x∈l↔x∈m):l=m:=by
 induction l generalizing m with
 | nil =>
  cases m with
  | nil=>rfl
  | cons b m=>exact absurd ((e b).2 (Yw ..)) Xs
 | cons a l ih =>
  cases m with
  | nil=>exact absurd ((e a).1 (Yw ..)) Xs
  | cons b m =>
   obtain⟨h1,h2⟩:=List.pairwise_cons.1 h;obtain⟨k1,k2⟩:=List.pairwise_cons.1 k
   have hab:a=b:=by
    rcases List.mem_cons.1 ((e a).1 (Yw ..)) with q|q
    ·exact q
    ·rcases List.mem_cons.1 ((e b).2 (Yw ..)) with p|p
     ·exact p.symm
     ·have:=h1 b p;have:=k1 a q;omega
   subst hab;congr 1;refine ih h2 k2 λx=>?_;have hx:=e x;constructor
   ·intro q;rcases List.mem_cons.1 (hx.1 (Ys _ q)) with p|p
    ·subst p;have:=h1 _ q;omega
    ·exact p
   ·intro q;rcases List.mem_cons.1 (hx.2 (Ys _ q)) with p|p
    ·subst p;have:=k1 _ q;omega
    ·exact p
def Zdl(h:Hf)(l:List Hf):List Hf:=l.filter (λx=>decide (x.1<h.1))++h::l.filter (λx=>decide (h.1<x.1))
def ZeI(v:Int)(l:List Hf):List Hf:=l.filter (λx=>decide (x.1≠v))
theorem Zg1{h x:Hf}{l:List Hf}:x∈Zdl h l↔x=h∨(x∈l/\x.1≠h.1):=by
 simp only[Zdl,List.mem_append,List.mem_cons,List.mem_filter,decide_eq_true_eq];constructor
 ·rintro (⟨a,b⟩|a|⟨a,b⟩)
  ·exact .inr ⟨a,Xo⟩
  ·exact .inl a
  ·exact .inr ⟨a,Xo⟩
 ·rintro (a|⟨a,b⟩)
  ·exact .inr (.inl a)
  ·by_cases q:x.1<h.1
   ·exact .inl ⟨a,q⟩
   ·exact .inr (.inr ⟨a,Xo⟩)
theorem ZkP{v:Int}{x:Hf}{l:List Hf}:x∈ZeI v l↔x∈l/\x.1≠v:=by simp[ZeI]
theorem Ris.nil:Ris []:=List.Pairwise.nil
theorem Ris.ins{h:Hf}{l:List Hf}(k:Ris l):Ris (Zdl h l):=by
 refine List.pairwise_append.2 ⟨k.filter _,List.pairwise_cons.2 ⟨λx hx=>?_,k.filter _⟩,λx hx y hy=>?_⟩
 ·have:=(List.mem_filter.1 hx).2;simpa using this
 ·have h1:x.1<h.1:=by have:=(List.mem_filter.1 hx).2;simpa using this
  rcases List.mem_cons.1 hy with e|e
  ·subst e;exact h1
  ·have:h.1<y.1:=by have:=(List.mem_filter.1 e).2;simpa using this
   omega
theorem Ris.del{v:Int}{l:List Hf}(k:Ris l):Ris (ZeI v l):=k.filter _
def cl(f:OAr->Option Hf)(l0:List Hf)(arcs:List OAr):List Hf:=arcs.foldl (λl a=>match f a with|some h=>Zdl h l|none=>l) l0
def Ds(f:OAr->Option Hf)(arcs:List OAr):Prop:=arcs.Pairwise λa b=>∀h k,f a=some h->f b=some k->h.1≠k.1
theorem ZmR{f:OAr->Option Hf}{arcs:List OAr}:∀{l0:List Hf},Ris l0->Ris (cl f l0 arcs):=by
 induction arcs with
 | nil=>exact λh=>h
 | cons a arcs ih =>
  intro l0 h;unfold cl;rw[List.foldl_cons];refine ih ?_;cases f a with
  | none=>exact h
  | some x=>exact h.ins
theorem ZmW{f:OAr->Option Hf}{arcs:List OAr}(hd:Ds f arcs){x:Hf}:∀{l0:List Hf},x∈cl f l0 arcs↔(∃a∈arcs,f a=some x)∨(x∈l0/\∀a∈arcs,∀h,f a=some h->h.1≠x.1):=by
 induction arcs with
 | nil=>intro l0;simp[cl]
 | cons a arcs ih =>
  intro l0;obtain⟨d1,d2⟩:=List.pairwise_cons.1 hd;have e:cl f l0 (a::arcs)=cl f (match f a with|some h=>Zdl h l0|none=>l0) arcs:=by unfold cl;rw[List.foldl_cons]
  rw[e,ih d2];cases hf:f a with
  | none =>
   dsimp only;constructor
   ·rintro (⟨b,hb,h⟩|⟨h1,h2⟩)
    ·exact .inl ⟨b,Ys _ hb,h⟩
    ·refine .inr ⟨h1,λb hb h hh=>?_⟩;rcases List.mem_cons.1 hb with e|e
     ·rw[e,hf]at hh;cases hh
     ·exact h2 b e h hh
   ·rintro (⟨b,hb,h⟩|⟨h1,h2⟩)
    ·rcases List.mem_cons.1 hb with e|e
     ·rw[e,hf]at h;cases h
     ·exact .inl ⟨b,e,h⟩
    ·exact .inr ⟨h1,λb hb=>h2 b (Ys _ hb)⟩
  | some y =>
   dsimp only;rw[Zg1];constructor
   ·rintro (⟨b,hb,h⟩|⟨h1|⟨h1,h3⟩,h2⟩)
    ·exact .inl ⟨b,Ys _ hb,h⟩
    ·exact .inl ⟨a,Yw ..,by rw[hf,h1]⟩
    ·refine .inr ⟨h1,λb hb h hh=>?_⟩;rcases List.mem_cons.1 hb with e|e
     ·rw[e,hf]at hh;cases hh;exact λq=>h3 q.symm
     ·exact h2 b e h hh
   ·rintro (⟨b,hb,h⟩|⟨h1,h2⟩)
    ·rcases List.mem_cons.1 hb with e|e
     ·rw[e,hf]at h;cases h;exact .inr ⟨.inl rfl,λc hc k hk=>λq=>d1 c hc x k hf hk q.symm⟩
     ·exact .inl ⟨b,e,h⟩
    ·exact .inr ⟨.inr ⟨h1,λq=>h2 a (Yw ..) y hf q.symm⟩,λb hb=>h2 b (Ys _ hb)⟩
def Zgx(v:Int)(a:OAr):Option Hf:=if a.1=v then some a.2 else none
def fIn(v:Int)(a:OAr):Option Hf:=if a.2.1=v then some (a.1,a.2.2) else none
def ZS(arcs:List OAr)(v:Int):List Hf:=cl (Zgx v) [] arcs
def inL(arcs:List OAr)(v:Int):List Hf:=cl (fIn v) [] arcs
def KD(arcs:List OAr):Prop:=arcs.Pairwise λa b=>¬(a.1=b.1/\a.2.1=b.2.1)
theorem KD.out{arcs:List OAr}(h:KD arcs)(v:Int):Ds (Zgx v) arcs:=h.imp λ{a b} q x y hx hy e=>by
 unfold Zgx at hx hy;split at hx
 ·split at hy
  ·cases hx;cases hy;exact q ⟨Xo,e⟩
  ·cases hy
 ·cases hx
theorem KD.inn{arcs:List OAr}(h:KD arcs)(v:Int):Ds (fIn v) arcs:=h.imp λ{a b} q x y hx hy e=>by
 unfold fIn at hx hy;split at hx
 ·split at hy
  ·cases hx;cases hy;exact q ⟨e,Xo⟩
  ·cases hy
 ·cases hx
theorem ZcG(arcs:List OAr)(v:Int):Ris (ZS arcs v):=ZmR .nil
theorem ZdN(arcs:List OAr)(v:Int):Ris (inL arcs v):=ZmR .nil
theorem Z2{arcs:List OAr}(h:KD arcs){v:Int}{x:Hf}:x∈ZS arcs v↔(v,x)∈arcs:=by
 unfold ZS;rw[ZmW (h.out v)];simp only[List.not_mem_nil,false_and,or_false];constructor
 ·rintro⟨a,ha,e⟩;unfold Zgx at e;split at e
  ·rename_i q;cases e;rw[← q];exact ha
  ·cases e
 ·exact λhm=>⟨_,hm,by simp[Zgx]⟩
theorem Zay{arcs:List OAr}(h:KD arcs){v:Int}{x:Hf}:x∈inL arcs v↔(x.1,v,x.2)∈arcs:=by
 unfold inL;rw[ZmW (h.inn v)];simp only[List.not_mem_nil,false_and,or_false];constructor
 ·rintro⟨a,ha,e⟩;unfold fIn at e;split at e
  ·rename_i q;cases e;rw[← q];exact ha
  ·cases e
 ·exact λhm=>⟨_,hm,by simp[fIn]⟩
def ZgB(arcs:List OAr)(a:OAr):List OAr:=arcs.filter (λx=>decide (¬(x.1=a.1/\x.2.1=a.2.1)))++[a]
def ZeU(arcs:List OAr)(v:Int):List OAr:=arcs.filter (λx=>decide (x.1≠v/\x.2.1≠v))
theorem ZdF{arcs:List OAr}{a x:OAr}:x∈ZgB arcs a↔x=a∨(x∈arcs/\¬(x.1=a.1/\x.2.1=a.2.1)):=by
 simp only[ZgB,List.mem_append,List.mem_filter,decide_eq_true_eq,List.mem_singleton];exact⟨λh=>h.elim (λh=>.inr h) .inl,λh=>h.elim .inr .inl⟩
theorem Zck{arcs:List OAr}{v:Int}{x:OAr}:x∈ZeU arcs v↔x∈arcs/\x.1≠v/\x.2.1≠v:=by simp[ZeU]
theorem KD.put{arcs:List OAr}(h:KD arcs)(a:OAr):KD (ZgB arcs a):=by
 refine List.pairwise_append.2 ⟨h.filter _,List.pairwise_singleton _ _,λx hx y hy=>?_⟩;rw[List.mem_singleton.1 hy];exact of_decide_eq_true (List.mem_filter.1 hx).2
theorem KD.rem{arcs:List OAr}(h:KD arcs)(v:Int):KD (ZeU arcs v):=h.filter _
theorem Znl{arcs:List OAr}(h:KD arcs)(a:OAr)(v:Int):ZS (ZgB arcs a) v=if v=a.1 then Zdl a.2 (ZS arcs v) else ZS arcs v:=by
 split
 ·rename_i e
  subst e;refine (ZcG _ _).uniq (ZcG _ _).ins λx=>?_;rw[Z2 (h.put a),Zg1,Z2 h,ZdF];constructor
  ·rintro (q|⟨q1,q2⟩)
   ·exact .inl (by rw[← q])
   ·exact .inr ⟨q1,λe=>q2 ⟨rfl,e⟩⟩
  ·rintro (q|⟨q1,q2⟩)
   ·exact .inl (by rw[q])
   ·exact .inr ⟨q1,λe=>q2 e.2⟩
 ·rename_i e
  refine (ZcG _ _).uniq (ZcG _ _) λx=>?_;rw[Z2 (h.put a),Z2 h,ZdF];constructor
  ·rintro (q|⟨q1,q2⟩)
   ·exact absurd (by rw[← q]) e
   ·exact q1
  ·exact λq=>.inr ⟨q,λk=>e k.1⟩
theorem ZoH{arcs:List OAr}(h:KD arcs)(a:OAr)(v:Int):inL (ZgB arcs a) v=if v=a.2.1 then Zdl (a.1,a.2.2) (inL arcs v) else inL arcs v:=by
 split
 ·rename_i e
  subst e;refine (ZdN _ _).uniq (ZdN _ _).ins λx=>?_;rw[Zay (h.put a),Zg1,Zay h,ZdF];constructor
  ·rintro (q|⟨q1,q2⟩)
   ·exact .inl (by rw[← q])
   ·exact .inr ⟨q1,λe=>q2 ⟨e,rfl⟩⟩
  ·rintro (q|⟨q1,q2⟩)
   ·exact .inl (by rw[q])
   ·exact .inr ⟨q1,λe=>q2 e.1⟩
 ·rename_i e
  refine (ZdN _ _).uniq (ZdN _ _) λx=>?_;rw[Zay (h.put a),Zay h,ZdF];constructor
  ·rintro (q|⟨q1,q2⟩)
   ·exact absurd (by rw[← q]) e
   ·exact q1
  ·exact λq=>.inr ⟨q,λk=>e k.2⟩
theorem ZnU{arcs:List OAr}(h:KD arcs)(v x:Int):ZS (ZeU arcs v) x=if x=v then [] else ZeI v (ZS arcs x):=by
 split
 ·rename_i e
  refine (ZcG _ _).uniq .nil λy=>?_;rw[Z2 (h.rem v),Zck];simp[e]
 ·rename_i e
  refine (ZcG _ _).uniq (ZcG _ _).del λy=>?_;rw[Z2 (h.rem v),ZkP,Z2 h,Zck];exact⟨λ⟨a,_,b⟩=>⟨a,b⟩,λ⟨a,b⟩=>⟨a,e,b⟩⟩
theorem Zo0{arcs:List OAr}(h:KD arcs)(v x:Int):inL (ZeU arcs v) x=if x=v then [] else ZeI v (inL arcs x):=by
 split
 ·rename_i e
  refine (ZdN _ _).uniq .nil λy=>?_;rw[Zay (h.rem v),Zck];simp[e]
 ·rename_i e
  refine (ZdN _ _).uniq (ZdN _ _).del λy=>?_;rw[Zay (h.rem v),ZkP,Zay h,Zck];exact⟨λ⟨a,b,_⟩=>⟨a,b⟩,λ⟨a,b⟩=>⟨a,b,e⟩⟩
theorem ZmD{f:OAr->Option Hf}{arcs:List OAr}(hd:Ds f arcs):∀{l0:List Hf},(∀x∈l0,∀a∈arcs,∀h,f a=some h->h.1≠x.1)->Ris l0->(cl f l0 arcs).length=l0.length+(arcs.filter λa=>(f a).isSome).length:=by
 induction arcs with
 | nil=>intro l0 _ _;simp[cl]
 | cons a arcs ih =>
  intro l0 h hr;obtain⟨d1,d2⟩:=List.pairwise_cons.1 hd;have e:cl f l0 (a::arcs)=cl f (match f a with|some h=>Zdl h l0|none=>l0) arcs:=by unfold cl;rw[List.foldl_cons]
  rw[e,YX];cases hf:f a with
  | none =>
   dsimp only;rw[ih d2 (λx hx b hb=>h x hx b (Ys _ hb)) hr];simp
  | some y =>
   dsimp only;rw[ih d2 (λx hx b hb k hk=>?_) hr.ins]
   ·have hne:∀x∈l0,x.1≠y.1:=λx hx e=>h x hx a (Yw ..) y hf e.symm
    have hl:(Zdl y l0).length=l0.length+1:=by
     clear ih e d1 d2 hd h hr;unfold Zdl;rw[Yy,Yp]
     have:(l0.filter λx=>decide (x.1<y.1)).length+(l0.filter λx=>decide (y.1<x.1)).length=l0.length:=by
      induction l0 with
      | nil=>rfl
      | cons b l0 ih =>
       have h1:=hne b (Yw ..);have h2:=ih λx hx=>hne x (Ys _ hx);rw[YX,YX];by_cases q:b.1<y.1
       ·rw[if_pos (by simpa using q),if_neg (by simp;omega)];simp only[Yp];omega
       ·rw[if_neg (by simpa using q),if_pos (by simp;omega)];simp only[Yp];omega
     omega
    rw[hl];simp;omega
   ·rcases Zg1.1 hx with q|⟨q,_⟩
    ·rw[q];exact λe=>d1 b hb y k hf hk e.symm
    ·exact h x q b (Ys _ hb) k hk
theorem Zk8{arcs:List OAr}(h:KD arcs)(v:Int):(ZS arcs v).length=(arcs.filter λa=>decide (a.1=v)).length:=by
 unfold ZS;rw[ZmD (h.out v) (λx hx=>by cases hx) .nil,Yt,Y8];congr 1;apply List.filter_congr;intro a _;by_cases e:a.1=v <;> simp[Zgx,e]
theorem ZlF{arcs:List OAr}(h:KD arcs)(v:Int):(inL arcs v).length=(arcs.filter λa=>decide (a.2.1=v)).length:=by
 unfold inL;rw[ZmD (h.inn v) (λx hx=>by cases hx) .nil,Yt,Y8];congr 1;apply List.filter_congr;intro a _;by_cases e:a.2.1=v <;> simp[fIn,e]
theorem ZoD{arcs:List OAr}(h:KD arcs)(hn:∀a∈arcs,a.1≠a.2.1)(v:Int):arcs.length=(ZeU arcs v).length+((ZS arcs v).length+(inL arcs v).length):=by
 rw[Zk8 h,ZlF h];clear h;unfold ZeU;induction arcs with
 | nil=>rfl
 | cons a arcs ih =>
  have h1:=hn a (Yw ..);have h2:=ih λx hx=>hn x (Ys _ hx);rw[YX,YX,YX];by_cases q:a.1=v
  ·rw[if_neg (by simp[q]),if_pos (by simpa using q),if_neg (by simp;omega)];simp only[Yp];omega
  ·by_cases p:a.2.1=v
   ·rw[if_neg (by simp[p]),if_neg (by simpa using q),if_pos (by simpa using p)];simp only[Yp];omega
   ·rw[if_pos (by simp[q,p]),if_neg (by simpa using q),if_neg (by simpa using p)];simp only[Yp];omega
theorem Zo2{arcs:List OAr}(h:KD arcs)(a:OAr):(ZgB arcs a).length=if (∃x∈arcs,x.1=a.1/\x.2.1=a.2.1) then arcs.length else arcs.length+1:=by
 unfold ZgB;rw[Yy,List.length_singleton];induction arcs with
 | nil=>simp
 | cons b arcs ih =>
  obtain⟨h1,h2⟩:=List.pairwise_cons.1 h;have ih':=ih h2;rw[YX];by_cases q:b.1=a.1/\b.2.1=a.2.1
  ·rw[if_neg (by simp[q]),if_pos ⟨b,Yw ..,q⟩];have hno:¬∃x∈arcs,x.1=a.1/\x.2.1=a.2.1:=λ⟨x,hx,e⟩=>h1 x hx ⟨by rw[q.1,e.1],by rw[q.2,e.2]⟩;rw[if_neg hno]at ih';simp only[Yp];omega
  ·rw[if_pos (decide_eq_true q),Yp];by_cases p:∃x∈arcs,x.1=a.1/\x.2.1=a.2.1
   ·rw[if_pos p]at ih';obtain⟨x,hx,e⟩:=p;rw[if_pos ⟨x,Ys _ hx,e⟩];simp only[Yp];omega
   ·rw[if_neg p]at ih';rw[if_neg]
    ·simp only[Yp];omega
    ·rintro⟨x,hx,e⟩;rcases List.mem_cons.1 hx with k|k
     ·rw[k]at e;exact q e
     ·exact p ⟨x,k,e⟩
end Go.Vd


namespace Go.Vd
def Zcw(x y:Int×Int×Int):Prop:=x.1=y.1/\x.2.1=y.2.1
instance (x y:Int×Int×Int):Decidable (Zcw x y):=by unfold Zcw;infer_instance
def ltk(x y:A3):Prop:=x.1<y.1∨(x.1=y.1/\x.2.1<y.2.1)
structure Nrm(A L:List A3):Prop where
 inc:L.Pairwise ltk
 sub:∀a∈L,a∈A/\a.1≠a.2.1/\∀b∈A,Zcw b a->a.2.2≤b.2.2
 sup:∀a∈A,a.1≠a.2.1->∃b∈L,Zcw b a
theorem ZmE:∀{L M:List A3},L.Pairwise ltk->M.Pairwise ltk->(∀x,x∈L↔x∈M)->L=M:=by
 intro L;induction L with
 | nil =>
  intro M _ _ h;cases M with
  | nil=>rfl
  | cons b M=>have:=(h b).2 (Yw ..);cases this
 | cons a L ih =>
  intro M hL hM h;cases M with
  | nil=>have:=(h a).1 (Yw ..);cases this
  | cons b M =>
   have hab:a=b:=by
    rcases List.mem_cons.1 ((h a).1 (Yw ..)) with h1|h1
    ·exact h1
    ·rcases List.mem_cons.1 ((h b).2 (Yw ..)) with h2|h2
     ·exact h2.symm
     ·have k1:=(List.pairwise_cons.1 hM).1 a h1;have k2:=(List.pairwise_cons.1 hL).1 b h2;unfold ltk at k1 k2;omega
   subst hab;rw[ih (List.pairwise_cons.1 hL).2 (List.pairwise_cons.1 hM).2 λx=>⟨λhx=>?_,λhx=>?_⟩]
   ·rcases List.mem_cons.1 ((h x).1 (Ys _ hx)) with rfl|h1
    ·have:=(List.pairwise_cons.1 hL).1 x hx;unfold ltk at this;omega
    ·exact h1
   ·rcases List.mem_cons.1 ((h x).2 (Ys _ hx)) with rfl|h1
    ·have:=(List.pairwise_cons.1 hM).1 x hx;unfold ltk at this;omega
    ·exact h1
theorem Zot{L:List A3}(h:L.Pairwise ltk):∀x∈L,∀y∈L,x=y∨ltk x y∨ltk y x:=by
 induction L with
 | nil=>intro x hx;cases hx
 | cons a L ih =>
  intro x hx y hy;obtain⟨h1,h2⟩:=List.pairwise_cons.1 h;rcases List.mem_cons.1 hx with ex|hx'
  ·rcases List.mem_cons.1 hy with ey|hy'
   ·exact .inl (ex.trans ey.symm)
   ·rw[ex];exact .inr (.inl (h1 y hy'))
  ·rcases List.mem_cons.1 hy with ey|hy'
   ·rw[ey];exact .inr (.inr (h1 x hx'))
   ·exact ih h2 x hx' y hy'
theorem ZoW{L:List A3}(h:L.Pairwise ltk){x y:A3}(hx:x∈L)(hy:y∈L)(k:Zcw x y):x=y:=by
 rcases Zot h x hx y hy with h|h|h
 ·exact h
 ·unfold ltk at h;unfold Zcw at k;omega
 ·unfold ltk at h;unfold Zcw at k;omega
theorem Nrm.mem{A L M:List A3}(h:Nrm A L)(k:Nrm A M){x:A3}(hx:x∈L):x∈M:=by
 obtain⟨h1,h2,h3⟩:=h.sub x hx;obtain⟨b,b1,b2⟩:=k.sup x h1 h2;obtain⟨k1,k2,k3⟩:=k.sub b b1;have e1:=h3 b k1 b2;have e2:=k3 x h1 ⟨b2.1.symm,b2.2.symm⟩;have:x=b:=eq3 b2.1.symm b2.2.symm Xo;rw[this];exact b1
theorem Nrm.uniq{A L M:List A3}(h:Nrm A L)(k:Nrm A M):L=M:=
 ZmE h.inc k.inc λx=>⟨h.mem k,k.mem h⟩
end Go.Vd


namespace Go.Vd
variable{l N UF DF ranks:List Int}{U D:List B4}{k i j r:Int}{all all':List E7}
structure InF(N UF:List Int)(U:List B4)(DF:List Int)(D:List B4)(all:List E7):Prop where
 sm:SmX N U D
 ln:LnX N UF DF
 fU:Fst UF (U.length:Int)
 fD:Fst DF (D.length:Int)
 od:ZcY N
 X:AllX UF DF U D all
 sh:∀j,0≤j->j<(all.length:Int)->Zfg N U all j
 wg:∀j,0≤j->j<(all.length:Int)->ZfM all j
theorem InF.rank(h:InF N UF U DF D all)(i0:0≤i)(i1:i<(all.length:Int))(h1:RkX UF DF U i r):gt all i=e7 U D i r:=by
 obtain⟨r',a,b⟩:=h.X.at' i i0 i1;rw[b,RkX.uniq h.fU h.fD a h1]
def tlE(x:E7):Int:=x.2.2.2.2.1
def hdE(x:E7):Int:=x.2.2.2.2.2.1
theorem InF.ends(h:InF N UF U DF D all)(i0:0≤i)(i1:i<(all.length:Int)):∃r,RkX UF DF U i r/\0≤r/\r<(gt all i).1/\(gt all i).1<(N.length:Int)/\((i<(U.length:Int)/\tlE (gt all i)=r/\hdE (gt all i)=(gt all i).1)∨((U.length:Int)≤i/\tlE (gt all i)=(gt all i).1/\hdE (gt all i)=r)):=by
 obtain⟨r,a,b⟩:=h.X.at' i i0 i1;obtain⟨s1,s2,_⟩:=h.sh i i0 i1;obtain⟨r0,r1⟩:=a.rng h.ln.1 h.ln.2;refine⟨r,a,r0,?_,s1,?_⟩
 ·rw[b]at s2 ⊢;exact s2
 ·rw[b];unfold tlE hdE e7;by_cases q:i<(U.length:Int)
  ·exact .inl ⟨q,by simp[q],by simp[q]⟩
  ·exact .inr ⟨Xo,by simp[q],by simp[q]⟩
instance:Decidable (PlX all i):=by unfold PlX;exact inferInstance
def ar(N:List Int)(x:E7):A3:=(gt N (tlE x),gt N (hdE x),x.2.1)
end Go.Vd


namespace Go.Vd
abbrev Nod:=Bool×List Hf×List Hf
structure OvR(nodes:List Nod)(alive arcs:Int)(A:List Bool)(L:List OAr):Prop where
 ln:nodes.length=A.length
 sm:A.length≤65536
 kd:KD L
 en:∀a∈L,0≤a.1/\a.1<(A.length:Int)/\0≤a.2.1/\a.2.1<(A.length:Int)/\gt A a.1=true/\gt A a.2.1=true/\a.1≠a.2.1/\0≤a.2.2.1/\a.2.2.1≤140737488355328/\-1≤a.2.2.2/\a.2.2.2<(A.length:Int)
 nd:∀v,0≤v->v<(A.length:Int)->gt nodes v=(!gt A v,ZS L v,inL L v)
 al:alive=((A.filter id).length:Int)
 ar:arcs=(L.length:Int)
 lb:L.length≤1000000
variable{nodes nodes':List Nod}{alive arcs:Int}{A:List Bool}{L:List OAr}{u v w wt via:Int}
theorem ZgY(h:KD L)(v:Int):(ZS L v).length≤L.length:=by rw[Zk8 h];exact Yea _ _
theorem ZhO(h:KD L)(v:Int):(inL L v).length≤L.length:=by rw[ZlF h];exact Yea _ _
theorem OvR.put(h:OvR nodes alive arcs A L)(u0:0≤u)(u1:u<(A.length:Int))(w0:0≤w)(w1:w<(A.length:Int))(au:gt A u=true)(aw:gt A w=true)(uw:u≠w)(t0:0≤wt)(t1:wt≤140737488355328)(v0:-1≤via)(v1:via<(A.length:Int))(hb:L.length<1000000)
  (hl:nodes'.length=nodes.length) (hn:∀x,0≤x->x<(A.length:Int)->gt nodes' x=((gt nodes x).1,if x=u then Zdl (w,wt,via) (gt nodes x).2.1 else (gt nodes x).2.1,if x=w then Zdl (u,wt,via) (gt nodes x).2.2 else (gt nodes x).2.2)) :
  OvR nodes' alive (if (∃x∈L,x.1=u/\x.2.1=w) then arcs else arcs+1) A (ZgB L (u,w,wt,via)):=by
 have hp:=Zo2 h.kd (u,w,wt,via);refine⟨by rw[hl,h.ln],h.sm,h.kd.put _,λa ha=>?_,λx x0 x1=>?_,h.al,?_,?_⟩
 ·rcases ZdF.1 ha with e|⟨e,_⟩
  ·rw[e];exact⟨u0,u1,w0,w1,au,aw,uw,t0,t1,v0,v1⟩
  ·exact h.en a e
 ·rw[hn x x0 x1,h.nd x x0 x1,Znl h.kd,ZoH h.kd]
 ·rw[hp];have:=h.ar;split
  ·exact this
  ·rw[this];simp
 ·rw[hp];have:=h.lb;split <;> omega
theorem ZjR:∀{A:List Bool} {i:Nat} (hi:i<A.length),A[i]=true->((A.set i false).filter id).length+1=(A.filter id).length
 | a::A,0,_,h=>by
  have:a=true:=h;subst this;simp
 | a::A,i+1,hi,h=>by
  have:=ZjR (A:=A) (i:=i) (by simpa using hi) (by simpa using h);cases a <;> simp <;> omega
theorem ZfY{A:List Bool}{v x:Int}(v0:0≤v)(v1:v<(A.length:Int))(x0:0≤x):gt (A.set v.toNat false) x=if x=v then false else gt A x:=Z3 v0 v1 x0
theorem OvR.rem(h:OvR nodes alive arcs A L)(v0:0≤v)(v1:v<(A.length:Int))(av:gt A v=true)
  (hl:nodes'.length=nodes.length) (hn:∀x,0≤x->x<(A.length:Int)->gt nodes' x=if x=v then (true,[],[]) else ((gt nodes x).1,ZeI v (gt nodes x).2.1,ZeI v (gt nodes x).2.2)) :
  OvR nodes' (alive-1) (arcs-(((ZS L v).length:Int)+(inL L v).length)) (A.set v.toNat false) (ZeU L v):=by
 have hr:=ZoD h.kd (λa ha=>(h.en a ha).2.2.2.2.2.2.1) v;have hs:(A.set v.toNat false).length=A.length:=Yv;refine⟨by rw[hl,h.ln,hs],by rw[hs];exact h.sm,h.kd.rem v,λa ha=>?_,λx x0 x1=>?_,?_,?_,?_⟩
 ·obtain⟨e,e1,e2⟩:=Zck.1 ha;obtain⟨a1,a2,a3,a4,a5,a6,a7⟩:=h.en a e;rw[hs,ZfY v0 v1 a1,ZfY v0 v1 a3,if_neg e1,if_neg e2];exact⟨a1,a2,a3,a4,a5,a6,a7⟩
 ·rw[hs]at x1;rw[hn x x0 x1,h.nd x x0 x1,ZnU h.kd,Zo0 h.kd,ZfY v0 v1 x0];by_cases e:x=v
  ·rw[if_pos e,if_pos e,if_pos e,if_pos e];rfl
  ·rw[if_neg e,if_neg e,if_neg e,if_neg e]
 ·have hi:v.toNat<A.length:=Xo
  have hg:A[v.toNat]=true:=by
   have:gt A v=A[v.toNat]:=by simp[gt,Yl,Yn hi]
   rw[← this];exact av
  have:=ZjR hi hg;have:=h.al;omega
 ·have:=h.ar;omega
 ·have:=h.lb;omega
theorem ZkB{h:Hf}{l:List Hf}(k:∀x∈l,x.1<h.1):Zdl h l=l++[h]:=by
 unfold Zdl;rw[List.filter_eq_self.2 λx hx=>by simpa using k x hx,List.filter_eq_nil_iff.2 λx hx=>by have:=k x hx;simp;omega]
theorem Zni(L:List OAr)(a:OAr)(v:Int):ZS (L++[a]) v=if v=a.1 then Zdl a.2 (ZS L v) else ZS L v:=by
 unfold ZS cl;rw[List.foldl_append];simp only[List.foldl_cons,List.foldl_nil];by_cases e:v=a.1
 ·rw[if_pos e];have:Zgx v a=some a.2:=by simp[Zgx,e]
  rw[this]
 ·rw[if_neg e];have:Zgx v a=none:=by simp[Zgx];exact λh=>e h.symm
  rw[this]
theorem Zn5(L:List OAr)(a:OAr)(v:Int):inL (L++[a]) v=if v=a.2.1 then Zdl (a.1,a.2.2) (inL L v) else inL L v:=by
 unfold inL cl;rw[List.foldl_append];simp only[List.foldl_cons,List.foldl_nil];by_cases e:v=a.2.1
 ·rw[if_pos e];have:fIn v a=some (a.1,a.2.2):=by simp[fIn,e]
  rw[this]
 ·rw[if_neg e];have:fIn v a=none:=by simp[fIn];exact λh=>e h.symm
  rw[this]
def up4(a:Int×Int×Int):OAr:=(a.1,a.2.1,a.2.2,-1)
theorem KD.up{M:Yd}(h:M.Pairwise ltk):KD (M.map up4):=by
 unfold KD;rw[List.pairwise_map];refine h.imp λ{a b} q=>?_;unfold ltk at q;show ¬(a.1=b.1/\a.2.1=b.2.1);omega
end Go.Vd


namespace Go.Vd
variable{l:List Hf}{v w wt via:Int}{h:Hf}
theorem ZgK{i:Int}(h0:0≤i)(h1:i<(l.length:Int)):gt l i∈l:=by
 unfold gt;rw[Yl,Yn Xo];exact Yia _
theorem Zl4{a m b:List Hf}(ha:∀x∈a,x.1<h.1)(hm:∀x∈m,x.1=h.1)(hb:∀x∈b,h.1<x.1):Zdl h (a++(m++b))=a++([h]++b):=by
 unfold Zdl
 rw[Y0,Y0,Y0,Y0,
  List.filter_eq_self.2 (λx hx=>decide_eq_true (ha x hx)),List.filter_eq_nil_iff.2 (λx hx=>by have:=hm x hx;simp;omega),List.filter_eq_nil_iff.2 (λx hx=>by have:=hb x hx;simp;omega),
  show a.filter (λx=>decide (h.1<x.1))=[] from List.filter_eq_nil_iff.2 λx hx=>(by have:=ha x hx;simp;omega),show m.filter (λx=>decide (h.1<x.1))=[] from List.filter_eq_nil_iff.2 λx hx=>(by have:=hm x hx;simp;omega),show b.filter (λx=>decide (h.1<x.1))=b from List.filter_eq_self.2 λx hx=>decide_eq_true (hb x hx)]
 simp
theorem Zl6{a m b:List Hf}(ha:∀x∈a,x.1<v)(hm:∀x∈m,x.1=v)(hb:∀x∈b,v<x.1):ZeI v (a++(m++b))=a++b:=by
 unfold ZeI;rw[Y0,Y0,List.filter_eq_self.2 (λx hx=>decide_eq_true (by have:=ha x hx;omega)),show m.filter (λx=>decide (x.1≠v))=[] from List.filter_eq_nil_iff.2 λx hx=>(by have:=hm x hx;simp;omega),show b.filter (λx=>decide (x.1≠v))=b from List.filter_eq_self.2 λx hx=>decide_eq_true (by have:=hb x hx;omega)];simp
theorem Zh2(k:∀x∈l,x.1≠v):ZeI v l=l:=List.filter_eq_self.2 λx hx=>decide_eq_true (k x hx)
theorem Ris.gt(k:Ris l){i j:Int}(i0:0≤i)(ij:i<j)(j1:j<(l.length:Int)):(gt l i).1<(gt l j).1:=by
 have:=List.pairwise_iff_getElem.1 k i.toNat j.toNat Xo Xo Xo
 have e:∀{n:Int},0≤n->(h:n<(l.length:Int))->Go.Vd.gt l n=l[n.toNat]'Xo:=λ{n} n0 n1=>by
  unfold Go.Vd.gt;rw[Yl,Yn Xo];rfl
 rw[e i0 Xo,e Xo j1];exact this
theorem Zio{i:Int}{x:Hf}(i1:i≤(l.length:Int))(hx:x∈l.take i.toNat):∃j,0≤j/\j<i/\x=gt l j:=by
 obtain⟨j,j0,j1,e⟩:=Zas hx;rw[YG]at j1;refine⟨j,j0,Xo,?_⟩;rw[e];unfold gt;rw[Yl,Yl,YY,if_pos Xo]
theorem Zin{i:Int}{x:Hf}(i0:0≤i)(hx:x∈l.drop i.toNat):∃j,i≤j/\j<(l.length:Int)/\x=gt l j:=by
 obtain⟨j,j0,j1,e⟩:=Zas hx;rw[List.length_drop]at j1;refine⟨i+j,Xo,Xo,?_⟩;rw[e];unfold gt;rw[Yl,Yl,Yja,show (i+j).toNat=i.toNat+j.toNat by omega]
structure FdR(l:List Hf)(v:Int)(p:Int)(b:Bool):Prop where
 p0:0≤p
 p1:p≤(l.length:Int)
 yes:b=true->p<(l.length:Int)/\(gt l p).1=v
 no:b=false->∀x∈l,x.1≠v
 lo:0≤v->v<65536->∀j,0≤j->j<p->(gt l j).1<v
 hi:0≤v->v<65536->∀j,p≤j->j<(l.length:Int)->v≤(gt l j).1
theorem Zoi{a b c:Int}(a0:0≤a)(a1:a<65536)(v0:-9223372036854775808≤v)(v1:v≤9223372036854775807):∃r,Zdc a b c v=some r/\(r=0↔a=v)/\(0≤v->(r<0↔a<v)):=by
 refine⟨_,rfl,?_,λh=>?_⟩
 ·rw[IntKind.wrap_i64];omega
 ·rw[IntKind.wrap_i64];omega
theorem ZkE(hr:Ris l)(hb:∀x∈l,0≤x.1/\x.1<65536)(hl:l.length≤1000000)(v0:-9223372036854775808≤v)(v1:v≤9223372036854775807):T (Zce l v) λr=>FdR l v r.1 r.2:=by
 have gtm:∀{i:Int},0≤i->i<(l.length:Int)->gt l i∈l:=λ{i} i0 i1=>ZgK i0 i1;unfold Zce;refine Zo (λr=>FdR l v r.1 r.2) ?_ λr h=>by simp only[Zd];exact h
 unfold ZbL;refine Zo (λp=>0≤p/\p≤(l.length:Int)/\(0≤v->v<65536->(∀j,0≤j->j<p->(gt l j).1<v)/\∀j,p≤j->j<(l.length:Int)->v≤(gt l j).1)) ?_ ?_
 ·refine ZK (λz=>0≤z.2/\z.2≤z.1/\z.1≤(l.length:Int)/\(0≤v->v<65536->(∀j,0≤j->j<z.2->(gt l j).1<v)/\∀j,z.1≤j->j<(l.length:Int)->v≤(gt l j).1)) (λz=>(z.1-z.2).toNat) ?_ ⟨Xs,Xs,Xs,λ_ _=>⟨λj j0 j1=>by dsimp only at j1;omega,λj j0 j1=>by dsimp only at j0;omega⟩⟩;rintro⟨j,i⟩⟨i0,ij,j1,k⟩;dsimp only at *;unfold ZaF;rw[Zr];refine⟨λhlt=>?_,λhge=>?_⟩
  ·have hm:=hb _ (gtm (i:=(i+j) / 2) Xo Xo);obtain⟨r,e,r1,r2⟩:=Zoi (b:=(gt l ((i+j) / 2)).2.1) (c:=(gt l ((i+j) / 2)).2.2) hm.1 hm.2 v0 v1;simp only[T_G];refine⟨Xo,Xo,Xo,Xo,?_⟩;rw[e,Yk,Zr];refine⟨λhc=>?_,λhc=>?_⟩
   ·simp only[T_G,Zd,Yo];refine⟨Xo,⟨Xo,Xo,j1,λa b=>⟨λq q0 q1=>?_,(k a b).2⟩⟩,Xo⟩;have hm:=(r2 a).1 hc;by_cases e:q=(i+j) / 2
    ·rw[e];exact hm
    ·have:=hr.gt q0 Xo (show (i+j) / 2<(l.length:Int) by omega);omega
   ·simp only[Zd,Yo];refine⟨⟨i0,Xo,Xo,λa b=>⟨(k a b).1,λq q0 q1=>?_⟩⟩,Xo⟩;have hm:¬(gt l ((i+j) / 2)).1<v:=λh=>hc ((r2 a).2 h);by_cases e:q=(i+j) / 2
    ·rw[e];omega
    ·have:=hr.gt (show 0≤(i+j) / 2 by omega) (show (i+j) / 2<q by omega) q1;omega
  ·simp only[Zd,Yq];refine⟨i0,Xo,λa b=>⟨(k a b).1,λq q0 q1=>(k a b).2 q Xo q1⟩⟩
 ·rintro p ⟨p0,p1,k⟩;rw[Zr];have out:∀x∈l,¬(0≤v/\v<65536)->x.1≠v:=λx hx hn e=>by have:=hb x hx;omega
  refine⟨λhlt=>?_,λhge=>?_⟩
  ·have hm:=hb _ (gtm p0 hlt);obtain⟨r,e,r1,r2⟩:=Zoi (b:=(gt l p).2.1) (c:=(gt l p).2.2) hm.1 hm.2 v0 v1;simp only[T_G];refine⟨p0,?_⟩;rw[e,Yk];simp only[Zd];refine⟨p0,p1,λhb=>⟨hlt,r1.1 (of_decide_eq_true hb)⟩,λhf x hx=>?_,λa b=>(k a b).1,λa b=>(k a b).2⟩;by_cases hv:0≤v/\v<65536
   ·obtain⟨q,q0,q1,rfl⟩:=Zas hx;have hne:(gt l p).1≠v:=λe=>of_decide_eq_false hf (r1.2 e);by_cases hqp:q<p
    ·have:=(k hv.1 hv.2).1 q q0 hqp;omega
    ·have h1:=(k hv.1 hv.2).2 p (YO _) hlt;by_cases e:q=p
     ·rw[e];exact hne
     ·have:=hr.gt p0 (show p<q by omega) q1;omega
   ·exact out x hx hv
  ·simp only[Zd];refine⟨p0,p1,λh=>(by cases h),λ_ x hx=>?_,λa b=>(k a b).1,λa b=>(k a b).2⟩;by_cases hv:0≤v/\v<65536
   ·obtain⟨q,q0,q1,rfl⟩:=Zas hx;have:=(k hv.1 hv.2).1 q q0 Xo;omega
   ·exact out x hx hv
theorem FdR.split(hr:Ris l){p:Int}{b:Bool}(f:FdR l v p b)(v0:0≤v)(v1:v<65536):∃m,l=l.take p.toNat++(m++l.drop (p.toNat+m.length))/\(∀x∈l.take p.toNat,x.1<v)/\(∀x∈m,x.1=v)/\(∀x∈l.drop (p.toNat+m.length),v<x.1)/\m.length=if b=true then 1 else 0:=by
 have a:∀x∈l.take p.toNat,x.1<v:=λx hx=>by
  obtain⟨j,j0,j1,rfl⟩:=Zio f.p1 hx;exact f.lo v0 v1 j j0 j1
 cases b with
 | true =>
  obtain⟨h1,h2⟩:=f.yes rfl;refine⟨[gt l p],?_,a,λx hx=>by rw[List.mem_singleton.1 hx];exact h2,λx hx=>?_,rfl⟩
  ·have e:=Zep f.p0 h1;rw[← List.append_assoc,← e,show p.toNat + [gt l p].length=(p+1).toNat by simp only[Yp,Yt];have:=f.p0;omega,YT]
  ·rw[show p.toNat + [gt l p].length=(p+1).toNat by simp only[Yp,Yt];have:=f.p0;omega]at hx;have:=f.p0;obtain⟨j,j0,j1,rfl⟩:=Zin Xo hx;have:=hr.gt f.p0 (show p<j by omega) j1;omega
 | false =>
  refine⟨[],Xs,a,(λx hx=>by cases hx),λx hx=>?_,rfl⟩;obtain⟨j,j0,j1,rfl⟩:=Zin f.p0 (by simpa using hx);have h1:=f.hi v0 v1 j j0 j1;have h2:=f.no rfl (gt l j) (ZgK (by have:=f.p0;omega) j1);omega
theorem Zm5(hr:Ris l)(hb:∀x∈l,0≤x.1/\x.1<65536)(hl:l.length≤1000000)(v0:0≤v)(v1:v<65536):ZbF l v wt via=some (Zdl (v,wt,via) l):=by
 refine Zfb.1 ?_;unfold ZbF;refine Zo _ (ZkE hr hb hl Xo Xo) ?_;rintro⟨p,b⟩ f;dsimp only at *;obtain⟨m,e,a1,a2,a3,a4⟩:=f.split hr v0 v1;have p0:=f.p0;have p1:=f.p1
 have hs:Zdl (v,wt,via) l=l.take p.toNat++([(v,wt,via)]++l.drop (p.toNat+m.length)):=by
  conv=>lhs;rw[e]
  exact Zl4 a1 a2 a3
 rw[hs,Zr];refine⟨λhb=>?_,λhb=>?_⟩
 ·rw[if_pos hb]at a4;have h1:=(f.yes hb).1;simp only[T_G,Zd];refine⟨⟨p0,h1⟩,?_⟩;rw[a4,List.set_eq_take_append_cons_drop,if_pos Xo];simp
 ·rw[if_neg hb]at a4;simp only[T_G,Zd];refine⟨⟨p0,p1,Xo⟩,?_⟩;rw[a4,Nat.add_zero]
theorem ZjL(hr:Ris l)(hb:∀x∈l,0≤x.1/\x.1<65536)(hl:l.length≤1000000)(v0:0≤v)(v1:v<65536):ZbY l v=some (ZeI v l):=by
 refine Zfb.1 ?_;unfold ZbY;refine Zo _ (ZkE hr hb hl Xo Xo) ?_;rintro⟨p,b⟩ f;dsimp only at *;obtain⟨m,e,a1,a2,a3,a4⟩:=f.split hr v0 v1;have p0:=f.p0;have p1:=f.p1
 have hs:ZeI v l=l.take p.toNat++l.drop (p.toNat+m.length):=by
  conv=>lhs;rw[e]
  exact Zl6 a1 a2 a3
 rw[Zr];refine⟨λhb=>?_,λhb=>?_⟩
 ·have hb':b=false:=by simpa using hb
  simp only[Zd];exact (Zh2 (f.no hb')).symm
 ·have hb':b=true:=by simpa using hb
  rw[if_pos hb']at a4;have h1:=(f.yes hb').1;simp only[T_G,Zd];refine⟨Xo,Xo,?_⟩;rw[hs,a4,show (p+1).toNat=p.toNat+1 by omega]
end Go.Vd


namespace Go.Vd
theorem ZmV{x y:Int}:ZcK x y=some (if x<y then -1 else if x>y then 1 else 0):=by
 unfold ZcK ZeR;simp only[Yk];simp;by_cases h1:x<y
 ·simp[h1]
 ·by_cases h2:y<x <;> simp[h1,h2]
theorem p_Or3{a b c:Int}:Zf8 [a,b,c]=some (if a≠0 then a else if b≠0 then b else c):=by
 unfold Zf8;have h3:Zc0 [a,b,c] 3=some (Yr (Yr ())):=by unfold Zc0;rw[if_neg Xs]
 have step:∀i:Int,0≤i->i<3->Zc0 [a,b,c] i=if gt [a,b,c] i=0 then some (Yu (i+1)) else some (Yr (Yu (gt [a,b,c] i))):=λi i0 i1=>by
  unfold Zc0 G;rw[if_pos (by simp;omega),if_pos i0];split
  ·rw[if_pos Xo]
  ·rfl
 have g0:gt [a,b,c] 0=a:=rfl;have g1:gt [a,b,c] 1=b:=rfl;have g2:gt [a,b,c] 2=c:=rfl;rw[ZeV,step 0 Xo Xo,g0];by_cases ha:a=0
 ·rw[if_pos ha,if_neg (by simp[ha]),Yk,Yo,show (0:Int)+1=1 from rfl,ZeV,step 1 Xo Xo,g1];by_cases hb:b=0
  ·rw[if_pos hb,if_neg (by simp[hb]),Yk,Yo,show (1:Int)+1=2 from rfl,ZeV,step 2 Xo Xo,g2];by_cases hc:c=0
   ·rw[if_pos hc,Yk,Yo,show (2:Int)+1=3 from rfl,ZeV,h3];simp[hc]
   ·rw[if_neg hc];simp
  ·rw[if_neg hb,if_pos hb];simp
 ·rw[if_neg ha,if_pos ha];simp
def lt3(x y:Int×Int×Int):Prop:=x.1<y.1∨(x.1=y.1/\(x.2.1<y.2.1∨(x.2.1=y.2.1/\x.2.2<y.2.2)))
instance (x y:Int×Int×Int):Decidable (lt3 x y):=by unfold lt3;infer_instance
noncomputable abbrev Zhk:Int×Int×Int->Int×Int×Int->Option Int:=λa_ b_=>Zcg a_.1 a_.2.1 a_.2.2 b_.1 b_.2.1 b_.2.2
theorem ZlS(x y:Int×Int×Int):∃r,Zhk x y=some r/\(r<0↔lt3 x y):=by
 unfold Zhk Zcg;simp only[ZmV,Yk,p_Or3];refine⟨_,rfl,?_⟩;unfold lt3;by_cases a1:x.1<y.1
 ·simp[a1]
 ·by_cases a2:x.1>y.1
  ·have:¬x.1=y.1:=Xo;simp[a1,a2,this]
  ·have e:x.1=y.1:=Xo;by_cases b1:x.2.1<y.2.1
   ·simp[e,b1]
   ·by_cases b2:x.2.1>y.2.1
    ·have:¬x.2.1=y.2.1:=Xo;simp[e,b1,b2,this]
    ·have e2:x.2.1=y.2.1:=Xo;by_cases c1:x.2.2<y.2.2
     ·simp[e,e2,c1]
     ·by_cases c2:x.2.2>y.2.2 <;> simp[e,e2,c1,c2]
theorem ZeE(x y:Int×Int×Int):(Zhk x y).getD 0<0↔lt3 x y:=by
 obtain⟨r,h1,h2⟩:=ZlS x y;rw[h1];exact h2
theorem ZlI:SortOk Zhk:=
 { ans:=λx y=>let ⟨r,h,_⟩:=ZlS x y;⟨r,h⟩
   irr:=λx=>by rw[ZeE];unfold lt3;omega
   trn:=λx y z=>by rw[ZeE,ZeE,ZeE];unfold lt3;omega
   ntr:=λx y z=>by rw[ZeE,ZeE,ZeE];unfold lt3;omega
   tot:=λx y h1 h2=>by
    rw[ZeE]at h1 h2;obtain⟨x1,x2,x3⟩:=x;obtain⟨y1,y2,y3⟩:=y;unfold lt3 at h1 h2;dsimp only at h1 h2;simp only[Prod.mk.injEq];omega }
theorem Zpf(xs:Yd):ZeS (λ(a_ b_:Int×Int×Int)=>Zcg a_.1 a_.2.1 a_.2.2 b_.1 b_.2.1 b_.2.2) xs=some (Zah Zhk xs):=ZnK ZlI xs
theorem ZmQ(xs:Yd):(Zah Zhk xs).Pairwise λx y=>¬lt3 y x:=(Zh3 ZlI xs).imp λh=>by rwa[ZeE]at h
theorem ZmG{x y:Int×Int×Int}:Zdq x.1 x.2.1 x.2.2 y.1 y.2.1 y.2.2=some (decide (Zcw x y)):=by
 unfold Zdq Zcw;by_cases h:x.1=y.1 <;> simp[h]
def cpt(s:Yd):Nat->Yd
 | 0=>[]
 | k+1=>cpt s k++if k≠0/\Zcw (gt s (k:Int)) (gt s ((k:Int)-1)) then [] else [gt s (k:Int)]
theorem Zo8(s:Yd)(k:Nat):(cpt s k).length≤k:=by
 induction k with
 | zero=>simp[cpt]
 | succ k ih =>
  simp only[cpt,Yy];split <;> simp <;> omega
theorem Zg6{s:Yd}{i:Int}(i0:0≤i):cpt s (i+1).toNat=cpt s i.toNat++if i≠0/\Zcw (gt s i) (gt s (i-1)) then [] else [gt s i]:=by
 rw[show (i+1).toNat=i.toNat+1 from Xo];simp only[cpt];rw[show ((i.toNat:Nat):Int)=i from Xo];have:i.toNat≠0↔i≠0:=Xo;simp only[ne_eq,this]
theorem Zlx{E:Type}[Inhabited E]{l:List E}{k j:Int}(k0:0≤k)(j0:0≤j):gt (l.drop k.toNat) j=gt l (k+j):=by
 unfold gt;rw[Yl,Yl,Yja,show k.toNat+j.toNat=(k+j).toNat from Xo]
theorem ZmP{s:Yd}(hl:s.length≤1000000000000):T (ZbP s) λr=>r.1=cpt s s.length:=by
 unfold ZbP;rw[Zr]
 have c1:0<s.length->cpt s 1=s.take 1:=λh=>by
  simp only[cpt];have:=Zep (l:=s) (i:=0) Xo Xo;simpa using this.symm
 refine⟨λh=>?_,λh=>?_⟩
 ·simp only[Zd];by_cases h0:s.length=0
  ·rw[h0];exact Yx h0
  ·have:s.length=1:=Xo;have h2:=c1 Xo;rw[this,h2,YE Xo]
 refine Zbi (λ_=>cpt s s.length=s) ?_ λ_ h=>by simp only[Zd];exact h.symm
 refine ZK (λk=>1≤k/\k≤(s.length:Int)/\cpt s k.toNat=s.take k.toNat) (λk=>((s.length:Int)-k).toNat) ?_ ⟨Xo,Xo,c1 Xo⟩;rintro k ⟨k0,k1,hk⟩;unfold Zbd;rw[Zr];refine⟨λhlt=>?_,λhge=>?_⟩;rotate_left
 ·simp only[Zd,Yq];have:k=s.length:=Xo;subst this;simpa using hk
 simp only[T_G];refine⟨Xo,Xo,Xo,?_⟩;rw[ZmG,Yk,Zr];refine⟨λheq=>?_,λhne=>?_⟩;rotate_left
 ·have hne':¬Zcw (gt s k) (gt s (k-1)):=by simpa using hne
  simp only[T_G,Zd,Yo];refine⟨Xo,⟨Xo,Xo,?_⟩,Xo⟩;rw[Zg6 Xo,if_neg (λh=>hne' h.2),hk];exact (Zep Xo hlt).symm
 have heq':Zcw (gt s k) (gt s (k-1)):=by simpa using heq
 simp only[T_G];refine⟨Xo,?_⟩;refine Zo (λr=>(r.1.length:Int)=s.length/\0≤r.2/\r.2≤(s.length:Int)/\cpt s s.length=r.1.take r.2.toNat) ?_ ?_
 ·refine ZK (λz=>1≤z.2.2/\z.2.2≤(s.length:Int)-k/\k≤z.2.1/\z.2.1≤k+z.2.2-1/\(z.1.length:Int)=s.length/\cpt s (k+z.2.2).toNat=z.1.take z.2.1.toNat/\∀j,k+z.2.2-1≤j->gt z.1 j=gt s j) (λz=>((s.length:Int)-k-z.2.2).toNat) ?_ ⟨Xs,by dsimp only;omega,Xs,by dsimp only;omega,rfl,?_,λ_ _=>rfl⟩;rotate_left
  ·dsimp only;rw[Zg6 Xo,if_pos ⟨Xo,heq'⟩,hk,List.append_nil]
  rintro⟨s0,k1',k2⟩⟨a0,a1,a2,a3,a4,a5,a6⟩;dsimp only at *;have hdl:((s0.drop k.toNat).length:Int)=s.length-k:=by rw[List.length_drop];omega
  unfold Zbe;rw[hdl,Zr];refine⟨λhlt2=>?_,λhge2=>?_⟩;rotate_left
  ·simp only[Zd,Yq];have:k+k2=s.length:=Xo;rw[this]at a5;exact⟨a4,Xo,Xo,by simpa using a5⟩
  have e1:gt (s0.drop k.toNat) k2=gt s (k+k2):=by rw[Zlx Xo Xo];exact a6 _ Xo
  have e2:gt (s0.drop k.toNat) (k2-1)=gt s (k+k2-1):=by rw[Zlx Xo Xo,show k+(k2-1)=k+k2-1 from Xo];exact a6 _ Xo
  simp only[T_G];refine⟨Xo,Xo,Xo,?_⟩;rw[ZmG,e1,e2,Yk,Zr];have nx:(k+(k2+1)).toNat=(k+k2+1).toNat:=Xo;refine⟨λhn=>?_,λhy=>?_⟩
  ·have hn':¬Zcw (gt s (k+k2)) (gt s (k+k2-1)):=by simpa using hn
   simp only[T_G,Zd,Yo];refine⟨Xo,Xo,Xo,⟨Xo,Xo,Xo,Xo,by simpa using a4,?_,λj hj=>?_⟩,Xo⟩
   ·rw[nx,Zg6 Xo,if_neg (λh=>hn' h.2),a5];have h1:=Zep (l:=s0.set k1'.toNat (gt s (k+k2))) (i:=k1') Xo (by simp;omega);rw[h1,Z3 Xo Xo Xo,if_pos rfl,List.take_set_of_le (Yj _)]
   ·rw[Z3 Xo Xo Xo,if_neg Xo];exact a6 j Xo
  ·have hy':Zcw (gt s (k+k2)) (gt s (k+k2-1)):=by simpa using hy
   simp only[T_G,Zd,Yo];refine⟨Xo,⟨Xo,Xo,Xo,Xo,a4,?_,λj hj=>a6 j Xo⟩,Xo⟩;rw[nx,Zg6 Xo,if_pos ⟨Xo,hy'⟩,a5,List.append_nil]
 ·rintro⟨r,q⟩⟨b1,b2,b3,b4⟩;dsimp only at *;have hlen:((r.take q.toNat++Ym (r.length-q.toNat) ((0,0,0):Int×Int×Int)).length:Int)=r.length:=by simp;omega
  simp only[T_G,Zdt,Zd,Yq,Yo];refine⟨Xo,Xo,Xo,?_⟩;rw[List.take_left' (by rw[YG];omega)];exact b4.symm
end Go.Vd


namespace Go.Vd
section
variable{s:List A3}(hs:∀i j:Int,0≤i->i<j->j<(s.length:Int)->¬lt3 (gt s j) (gt s i))
include hs
theorem Zmw{i j:Int}(i0:0≤i)(ij:i<j)(j1:j<(s.length:Int)):ltk (gt s i) (gt s j)∨(Zcw (gt s i) (gt s j)/\(gt s i).2.2≤(gt s j).2.2):=by
 have:=hs i j i0 ij j1;unfold lt3 at this;unfold ltk Zcw;omega
theorem ZlP{k:Nat}(hk:k≤s.length):∀x∈cpt s k,∃i:Int,0≤i/\i<k/\x=gt s i:=by
 induction k with
 | zero=>intro x hx;cases hx
 | succ k ih =>
  intro x hx;simp only[cpt]at hx;rcases List.mem_append.1 hx with hx|hx
  ·obtain⟨i,i0,i1,e⟩:=ih Xo x hx;exact⟨i,i0,Xo,e⟩
  ·split at hx
   ·cases hx
   ·exact⟨k,Xo,Xo,List.mem_singleton.1 hx⟩
theorem Zoq{k:Nat}(hk:k≤s.length):(cpt s k).Pairwise ltk:=by
 induction k with
 | zero=>exact .nil
 | succ k ih =>
  simp only[cpt];split
  ·rw[List.append_nil];exact ih Xo
  ·rename_i hn
   rw[List.pairwise_append];refine⟨ih Xo,List.pairwise_singleton _ _,λx hx y hy=>?_⟩;obtain rfl:=List.mem_singleton.1 hy;obtain⟨i,i0,i1,rfl⟩:=ZlP hs Xo x hx;have hk0:k≠0:=Xo;have hn':¬Zcw (gt s (k:Int)) (gt s ((k:Int)-1)):=λq=>hn ⟨hk0,q⟩;have h1:=Zmw hs (i:=(k:Int)-1) (j:=k) Xo Xo Xo;by_cases e:i=(k:Int)-1
   ·subst e;unfold ltk Zcw at *;omega
   ·have h2:=Zmw hs (i:=i) (j:=(k:Int)-1) i0 Xo Xo;unfold ltk Zcw at *;omega
theorem ZlJ{k:Nat}(hk:k≤s.length):∀i:Int,0≤i->i<k->∃x∈cpt s k,Zcw x (gt s i)/\x.2.2≤(gt s i).2.2:=by
 induction k with
 | zero=>intro i i0 i1;simp at i1;omega
 | succ k ih =>
  intro i i0 i1;by_cases e:i=(k:Int)
  ·subst e;by_cases hn:k≠0/\Zcw (gt s (k:Int)) (gt s ((k:Int)-1))
   ·obtain⟨x,h1,h2,h3⟩:=ih Xo ((k:Int) - 1) Xo Xo;refine⟨x,by simp only[cpt];exact YC _ h1,?_,?_⟩
    ·have:=hn.2;unfold Zcw at *;omega
    ·have h4:=Zmw hs (i:=(k:Int)-1) (j:=k) Xo Xo Xo;have:=hn.2;unfold ltk Zcw at *;omega
   ·refine⟨gt s (k:Int),?_,⟨rfl,rfl⟩,YO _⟩;simp only[cpt];rw[if_neg hn];exact YS _ (List.mem_singleton.2 rfl)
  ·obtain⟨x,h1,h2⟩:=ih Xo i i0 Xo;exact⟨x,by simp only[cpt];exact YC _ h1,h2⟩
end
def ZfJ(a:A3):Bool:=!decide (a.1=a.2.1)
theorem ZpB{A F s:List A3}(hF:F=A.filter ZfJ)(hp:s.Perm F)(hs:s.Pairwise λx y=>¬lt3 y x):Nrm A (cpt s s.length):=by
 have hs':∀i j:Int,0≤i->i<j->j<(s.length:Int)->¬lt3 (gt s j) (gt s i):=λi j i0 ij j1=>by
  obtain⟨i,rfl⟩:=Int.eq_ofNat_of_zero_le i0;obtain⟨j,rfl⟩:=Int.eq_ofNat_of_zero_le (show 0≤j by omega);rw[Zdh (show i<s.length by omega),Zdh (show j<s.length by omega)];exact List.pairwise_iff_getElem.1 hs i j Xo Xo Xo
 have mem:∀x,x∈s↔(x∈A/\x.1≠x.2.1):=λx=>by
  rw[hp.mem_iff,hF,List.mem_filter];simp[ZfJ]
 have inc:=Zoq hs' (Yj _);refine⟨inc,λa ha=>?_,λa ha hn=>?_⟩
 ·obtain⟨i,i0,i1,e⟩:=ZlP hs' (Yj _) a ha;have hm:=(mem a).1 (by rw[e];exact ZbU i0 i1);refine⟨hm.1,hm.2,λb hb hk=>?_⟩;have hbn:b.1≠b.2.1:=by have:=hm.2;unfold Zcw at hk;omega
  obtain⟨j,j0,j1,rfl⟩:=Zas ((mem b).2 ⟨hb,hbn⟩);obtain⟨x,x1,x2,x3⟩:=ZlJ hs' (Yj _) j j0 j1;have:x=a:=ZoW inc x1 ha (by unfold Zcw at *;omega);rw[← this];exact x3
 ·obtain⟨j,j0,j1,rfl⟩:=Zas ((mem a).2 ⟨ha,hn⟩);obtain⟨x,x1,x2,_⟩:=ZlJ hs' (Yj _) j j0 j1;exact⟨x,x1,x2⟩
end Go.Vd


namespace Go.Vd
variable{N:Int}{A L:List A3}
def Zd7(N:Int)(a:A3):Int:=if a.1<0∨a.1≥N∨a.2.1<0∨a.2.1≥N then 7 else if a.2.2<0∨a.2.2>2147483647 then 8 else 0
def Zgf(N:Int)(A:List A3):Prop:=N<0∨N>65536∨(A.length:Int)>262144
inductive GChk(N:Int)(A:List A3):Er->Prop
 | limit:Zgf N A->GChk N A (.no 9)
 | arc (i:Int):¬Zgf N A->0≤i->i<(A.length:Int)->Zd7 N (gt A i)≠0->(∀j,0≤j->j<i->Zd7 N (gt A j)=0)->GChk N A (.at 4 i (.no (Zd7 N (gt A i))))
 | ok:¬Zgf N A->(∀j,0≤j->j<(A.length:Int)->Zd7 N (gt A j)=0)->GChk N A .nil
theorem ZmH{a:A3}(h:a.1<0∨a.1≥N∨a.2.1<0∨a.2.1≥N):Zd7 N a=7:=by unfold Zd7;rw[if_pos h]
theorem Zk2{a:A3}(h:¬(a.1<0∨a.1≥N∨a.2.1<0∨a.2.1≥N))(k:a.2.2<0∨a.2.2>2147483647):Zd7 N a=8:=by unfold Zd7;rw[if_neg h,if_pos k]
theorem ZkT{a:A3}(h:¬(a.1<0∨a.1≥N∨a.2.1<0∨a.2.1≥N))(k:¬(a.2.2<0∨a.2.2>2147483647)):Zd7 N a=0:=by unfold Zd7;rw[if_neg h,if_neg k]
theorem Zo4{a:A3}(h:Zd7 N a=0):0≤a.1/\a.1<N/\0≤a.2.1/\a.2.1<N/\0≤a.2.2/\a.2.2≤2147483647:=by
 unfold Zd7 at h;split at h
 ·cases h
 ·split at h
  ·cases h
  ·omega
theorem GChk.uniq{er er':Er}(h:GChk N A er)(k:GChk N A er'):er=er':=by
 cases h with
 | limit h1 =>
  cases k with
  | limit _=>rfl
  | arc _ k1=>exact absurd h1 k1
  | ok k1 _=>exact absurd h1 k1
 | arc i h1 h2 h3 h4 h5 =>
  cases k with
  | limit k1=>exact absurd k1 h1
  | arc j _ k2 k3 k4 k5 =>
   have:i=j:=by
    rcases Yaa i j with q|q|q
    ·exact absurd (k5 i h2 q) h4
    ·exact q
    ·exact absurd (h5 j k2 q) k4
   rw[this]
  | ok _ k2=>exact absurd (k2 i h2 h3) h4
 | ok h1 h2 =>
  cases k with
  | limit k1=>exact absurd k1 h1
  | arc j _ k2 k3 k4 _=>exact absurd (h2 j k2 k3) k4
  | ok _ _=>rfl
theorem GChk.bad{er:Er}(h:GChk N A er):(er.code≠0∨er.pls≠[])↔er≠.nil:=by
 cases h with
 | limit _=>simp[Er.code]
 | arc i _ _ _ h4 _=>simp[Er.pls]
 | ok _ _=>simp[Er.code,Er.pls]
theorem GChk.small(h:GChk N A .nil):0≤N/\N≤65536/\(A.length:Int)≤262144:=by
 cases h with
 | ok h1 _=>unfold Zgf at h1;omega
theorem GChk.arcs(h:GChk N A .nil):∀a∈A,0≤a.1/\a.1<N/\0≤a.2.1/\a.2.1<N/\0≤a.2.2/\a.2.2≤2147483647:=by
 cases h with
 | ok h1 h2 =>
  intro a ha;obtain⟨i,i0,i1,rfl⟩:=Zas ha;exact Zo4 (h2 i i0 i1)
theorem GChk.of_arcs(n0:0≤N)(n1:N≤65536)(n2:(A.length:Int)≤262144)(h:∀a∈A,0≤a.1/\a.1<N/\0≤a.2.1/\a.2.1<N/\0≤a.2.2/\a.2.2≤2147483647):GChk N A .nil:=
 .ok (by unfold Zgf;omega) λj j0 j1=>by have:=h _ (ZbU j0 j1);exact ZkT Xo Xo
def swp3(a:A3):A3:=(a.2.1,a.1,a.2.2)
end Go.Vd


namespace Go.Vd
variable{N:Int}{A L:List A3}
theorem Zpn{a:A3}:ZeN a.1 a.2.1 a.2.2 N=some (if Zd7 N a=0 then .nil else .no (Zd7 N a)):=by
 refine Zfb.1 ?_;unfold ZeN;refine Zo (λo=>o=decide (a.1<0∨a.1≥N∨a.2.1<0∨a.2.1≥N)) ?_ ?_
 ·unfold ZdQ;simp only[Zf3,Zr,Zd];refine⟨λh1=>⟨λh2=>⟨λh3=>?_,λh3=>?_⟩,λh2=>?_⟩,λh1=>⟨λh2=>?_,λh2=>?_⟩⟩
  ·have h2':a.1<N:=by simpa using h2
   by_cases h4:a.2.1<N
   ·simp[h4];omega
   ·simp[h4];omega
  ·simp;omega
  ·have h2':¬a.1<N:=by simpa using h2
   simp;omega
  ·simp at h2
  ·simp;omega
 ·rintro _ rfl;by_cases h:a.1<0∨a.1≥N∨a.2.1<0∨a.2.1≥N
  ·rw[ZmH h];simp[h]
  ·rw[decide_eq_false h,if_neg Xd];by_cases k1:a.2.2<0
   ·rw[if_pos k1,Zk2 h (.inl k1)];simp
   ·rw[if_neg k1];by_cases k2:a.2.2>2147483647
    ·rw[if_pos k2,Zk2 h (.inr k2)];simp
    ·rw[if_neg k2,ZkT h Xo];simp
theorem Zps{k i:Int}{e:Er}(h:e≠.nil):ZaA k i e=some (.at k i e):=by
 unfold ZaA;rw[if_neg h]
theorem Zoc:T (if N<0 then (some true) else (if N>65536 then (some true) else (some (decide ((A.length:Int)>262144)))):Option Bool) λo=>o=true↔Zgf N A:=by
 unfold Zgf;simp only[Zr,Zd];exact⟨λh=>by simp[h],λh=>⟨λh2=>by simp[h2],λh2=>by simp;omega⟩⟩
theorem Zn0:T (Zed N A) (GChk N A):=by
 unfold Zed;refine Zo _ Zoc λo ho=>?_;rw[Zr];refine⟨λh=>by simp only[Zd];exact .limit (ho.1 h),λh=>?_⟩;have hb:¬Zgf N A:=λk=>h (ho.2 k);have hl:(A.length:Int)≤262144:=by unfold Zgf at hb;omega
 refine Zbi (λ_=>∀j,0≤j->j<(A.length:Int)->Zd7 N (gt A j)=0) ?_ λ_ h=>by simp only[Zd];exact .ok hb h
 refine ZK (λi=>0≤i/\i≤(A.length:Int)/\∀j,0≤j->j<i->Zd7 N (gt A j)=0) (λi=>((A.length:Int)-i).toNat) ?_ ⟨Xs,Xs,λj j0 j1=>Xo⟩;rintro i ⟨i0,i1,hi⟩;unfold Zc9;rw[Zr];refine⟨λhlt=>?_,λhge=>by simp only[Zd,Yq];exact λj j0 j1=>hi j j0 Xo⟩;rw[T_G,Zpn,Yk];refine⟨i0,?_⟩;by_cases h0:Zd7 N (gt A i)=0
 ·rw[if_pos h0,if_pos rfl];simp only[T_G,Zd,Yo];refine⟨Xo,⟨Xo,Xo,λj j0 j1=>?_⟩,Xo⟩;by_cases e:j=i
  ·rw[e];exact h0
  ·exact hi j j0 Xo
 ·rw[if_neg h0,if_neg Xs,Zps Xs,Yk];simp only[Zdt,Zd,Yq,Yo];exact .arc i hb i0 hlt h0 hi
inductive RevA(N:Int)(A:List A3):Int->List A3->Er->Prop
 | bad (er:Er):GChk N A er->er≠.nil->RevA N A 0 [] er
 | ok:GChk N A .nil->RevA N A N (A.map swp3) .nil
end Go.Vd


namespace Go.Vd
variable{N:Int}{A L:List A3}
theorem Zlv:T (Zbc N A) λr=>∃er,GChk N A er/\r=(er.code,er.pls):=by
 unfold Zbc;refine Zo _ Zoc λo ho=>?_;rw[Zr];refine⟨λh=>by rw[p_E,Yk];simp only[Zd];exact⟨.no 9,.limit (ho.1 h),rfl⟩,λh=>?_⟩;have hb:¬Zgf N A:=λk=>h (ho.2 k);have hl:(A.length:Int)≤262144:=by unfold Zgf at hb;omega
 refine Zbi (λ_=>∀j,0≤j->j<(A.length:Int)->Zd7 N (gt A j)=0) ?_ λ_ h=>by simp only[Zd];exact⟨.nil,.ok hb h,rfl⟩
 refine ZK (λi=>0≤i/\i≤(A.length:Int)/\∀j,0≤j->j<i->Zd7 N (gt A j)=0) (λi=>((A.length:Int)-i).toNat) ?_ ⟨Xs,Xs,λj j0 j1=>Xo⟩;rintro i ⟨i0,i1,hi⟩;unfold ZaN;rw[Zr];refine⟨λhlt=>?_,λhge=>by simp only[Zd,Yq];exact λj j0 j1=>hi j j0 Xo⟩;rw[T_G];refine⟨i0,Zo (λo=>o=true↔((gt A i).1<0∨(gt A i).1≥N∨(gt A i).2.1<0∨(gt A i).2.1≥N)) ?_ λo ho=>?_⟩
 ·simp only[Zr,Zd];refine⟨λh=>by simp[h],λh1=>⟨λh=>by simp;omega,λh2=>⟨λh=>by simp[h],λh3=>by simp;omega⟩⟩⟩
 rw[Zr];refine⟨λh=>?_,λh=>?_⟩
 ·have h7:=ZmH (ho.1 h);rw[p_E,Yk,p_At Xs,Yk];simp only[Zdt,Zd,Yq,Yo];refine⟨_,.arc i hb i0 hlt (by rw[h7];decide) hi,?_⟩;rw[h7];rfl
 ·have hn:¬((gt A i).1<0∨(gt A i).1≥N∨(gt A i).2.1<0∨(gt A i).2.1≥N):=λk=>h (ho.2 k);refine Zo (λo=>o=true↔((gt A i).2.2<0∨(gt A i).2.2>2147483647)) ?_ λo ho=>?_
  ·simp only[Zr,Zd];exact⟨λh=>by simp[h],λh=>by simp;omega⟩
  rw[Zr];refine⟨λh=>?_,λh=>?_⟩
  ·have h8:=Zk2 hn (ho.1 h);rw[p_E,Yk,p_At Xs,Yk];simp only[Zdt,Zd,Yq,Yo];refine⟨_,.arc i hb i0 hlt (by rw[h8];decide) hi,?_⟩;rw[h8];rfl
  ·have h0:=ZkT hn λk=>h (ho.2 k);simp only[T_G,Zd,Yo];refine⟨Xo,⟨Xo,Xo,λj j0 j1=>?_⟩,Xo⟩;by_cases e:j=i
   ·rw[e];exact h0
   ·exact hi j j0 Xo
end Go.Vd


namespace Go.Vd
variable{N:Int}{A L:List A3}
theorem p_Few{most:Int}:T (Zcu N A most) λb=>b=true↔(GChk N A .nil/\N≤most/\(A.length:Int)≤2000):=by
 unfold Zcu;refine Zo _ Zlv ?_;rintro _ ⟨er,hc,rfl⟩;dsimp only;rw[p_Bad,Yk,Zr];refine⟨λh=>?_,λh=>?_⟩
 ·have hne:=hc.bad.1 (by simpa using h);simp only[Zd];simp;exact λk=>absurd (hc.uniq k) hne
 ·have he:er=.nil:=Classical.not_not.1 λk=>h (by simpa using hc.bad.2 k);subst he;rw[Zr];simp only[Zd];exact⟨λh=>by simp[hc,h],λh=>by simp;intro _ k;omega⟩
end Go.Vd


namespace Go.Vd
variable{N:Int}{A:List A3}
theorem Zo7{most:Int}:T (Zct N A most) λb=>b=true->(GChk N A .nil/\N≤most/\(A.length:Int)≤200):=by
 unfold Zct;refine Zo _ p_Few λf hf=>?_;simp only[Zr,Zd,decide_eq_true_eq];exact⟨λh k=>⟨(hf.1 h).1,(hf.1 h).2.1,k⟩,λ_ k=>by cases k⟩
end Go.Vd


namespace Go.Vd
variable{N:Int}{A L:List A3}
inductive OfA(N:Int)(A:List A3):Int->List A3->Er->Prop
 | bad (er:Er):GChk N A er->er≠.nil->OfA N A 0 [] er
 | ok (L:List A3):GChk N A .nil->Nrm A L->L.length≤A.length->OfA N A N L .nil
theorem p_Of:T (ZeM N A) λr=>OfA N A r.1 r.2.1 r.2.2:=by
 unfold ZeM;refine Zo _ Zn0 λer hc=>?_;rw[Zr];refine⟨λhe=>?_,λhe=>by simp only[Zd];exact .bad er hc he⟩;subst he;obtain⟨n0,n1,n2⟩:=hc.small;refine Zo (λc=>c=A.filter ZfJ) ?_ ?_
 ·refine ZK (λz=>0≤z.1/\z.1≤(A.length:Int)/\z.2=(A.take z.1.toNat).filter ZfJ) (λz=>((A.length:Int)-z.1).toNat) ?_ ⟨Xs,Xs,Xs⟩;rintro⟨i,c⟩⟨i0,i1,e⟩;dsimp only at *;subst e;unfold ZdT;rw[Zr];refine⟨λhlt=>?_,λhge=>?_⟩;rotate_left
  ·simp only[Zd,Yq];rw[YE Xo]
  have hll:=Yea ZfJ (A.take i.toNat);have hlt2:(A.take i.toNat).length≤A.length:=by rw[YG];omega
  have next:(A.take (i+1).toNat).filter ZfJ=(A.take i.toNat).filter ZfJ++if (gt A i).1=(gt A i).2.1 then [] else [gt A i]:=by
   rw[Zep i0 hlt,Y0];congr 1;by_cases h:(gt A i).1=(gt A i).2.1 <;> simp[List.filter,ZfJ,h]
  simp only[T_G,Zr,Zd,Yo];refine⟨i0,λh=>⟨Xo,⟨Xo,Xo,?_⟩,Xo⟩,λh=>⟨Xo,Xo,⟨Xo,Xo,?_⟩,Xo⟩⟩
  ·rw[next,if_pos h,List.append_nil]
  ·rw[next,if_neg h]
 ·rintro _ rfl;have hll:=Yea ZfJ A;rw[T_G,Zpf,Yk];refine⟨Xo,?_⟩;have hp:=Zd4 Zhk (A.filter ZfJ);have hlen:=hp.length_eq;refine Zo _ (ZmP Xo) λr hr=>?_;simp only[Zd];rw[hr];refine .ok _ hc (ZpB rfl hp (ZmQ _)) ?_;have:=Zo8 (Zah Zhk (A.filter ZfJ)) (Zah Zhk (A.filter ZfJ)).length;omega
end Go.Vd


namespace Go.Vd
variable{nodes nodes':List Nod}{alive arcs:Int}{A:List Bool}{L:List OAr}{u v w wt via:Int}
def Z0(A:List Bool)(v:Int):Prop:=0≤v/\v<(A.length:Int)/\gt A v=true
instance:Decidable (Z0 A v):=by unfold Z0;infer_instance
theorem KD.uniq(h:KD L){a b:OAr}(ha:a∈L)(hb:b∈L)(e1:a.1=b.1)(e2:a.2.1=b.2.1):a=b:=by
 obtain⟨i,hi,rfl⟩:=List.mem_iff_getElem.1 ha;obtain⟨j,hj,rfl⟩:=List.mem_iff_getElem.1 hb;rcases Nat.lt_trichotomy i j with q|q|q
 ·exact absurd ⟨e1,e2⟩ (List.pairwise_iff_getElem.1 h i j hi hj q)
 ·subst q;rfl
 ·exact absurd ⟨e1.symm,e2.symm⟩ (List.pairwise_iff_getElem.1 h j i hj hi q)
theorem OvR.outB(h:OvR nodes alive arcs A L)(v:Int):∀x∈ZS L v,0≤x.1/\x.1<65536:=λx hx=>by
 have:=h.en _ ((Z2 h.kd).1 hx);have hs:=h.sm;dsimp only at this;omega
theorem OvR.inB(h:OvR nodes alive arcs A L)(v:Int):∀x∈inL L v,0≤x.1/\x.1<65536:=λx hx=>by
 have:=h.en _ ((Zay h.kd).1 hx);have hs:=h.sm;dsimp only at this;omega
theorem OvR.outLen(h:OvR nodes alive arcs A L)(v:Int):(ZS L v).length≤1000000:=YL (ZgY h.kd v) h.lb
theorem OvR.inLen(h:OvR nodes alive arcs A L)(v:Int):(inL L v).length≤1000000:=YL (ZhO h.kd v) h.lb
theorem OvR.out0(h:OvR nodes alive arcs A L)(hv:¬Z0 A v):ZS L v=[]:=by
 refine List.eq_nil_iff_forall_not_mem.2 λx hx=>hv ?_;obtain⟨a1,a2,a3,a4,a5,_⟩:=h.en _ ((Z2 h.kd).1 hx);exact⟨a1,a2,a5⟩
theorem OvR.in0(h:OvR nodes alive arcs A L)(hv:¬Z0 A v):inL L v=[]:=by
 refine List.eq_nil_iff_forall_not_mem.2 λx hx=>hv ?_;obtain⟨a1,a2,a3,a4,a5,a6,_⟩:=h.en _ ((Zay h.kd).1 hx);exact⟨a3,a4,a6⟩
theorem Zez(h:OvR nodes alive arcs A L){a b v:Int}:ZR nodes a b v=some (decide (Z0 A v)):=by
 unfold ZR Z0;have hl:=h.ln;by_cases h0:v≥0
 ·rw[if_pos h0];by_cases h1:v<(nodes.length:Int)
  ·rw[if_pos h1];unfold G;rw[if_pos h0,h.nd v h0 Xo];have:v<(A.length:Int):=Xo;show some (!(!gt A v))=_;rw[Bool.not_not];congr 1;have h0':0≤v:=h0;rw[Bool.eq_iff_iff];simp[h0',this]
  ·rw[if_neg h1];have:¬v<(A.length:Int):=Xo;simp[this]
 ·rw[if_neg h0];have:¬0≤v:=h0;simp[this]
def Wt(L:List OAr)(u w x:Int)(b:Bool):Prop:=(b=true/\∃a∈L,a.1=u/\a.2.1=w/\a.2.2.1=x)∨(b=false/\x=0/\∀a∈L,¬(a.1=u/\a.2.1=w))
theorem Wt.uniq(h:KD L){x y:Int}{b c:Bool}(k:Wt L u w x b)(k':Wt L u w y c):x=y/\b=c:=by
 rcases k with ⟨rfl,a,a1,a2,a3,a4⟩|⟨rfl,rfl,n⟩ <;> rcases k' with ⟨rfl,a',b1,b2,b3,b4⟩|⟨rfl,rfl,n'⟩
 ·have:=h.uniq a1 b1 (a2.trans b2.symm) (a3.trans b3.symm);subst this;exact⟨a4.symm.trans b4,rfl⟩
 ·exact absurd ⟨a2,a3⟩ (n' a a1)
 ·exact absurd ⟨b2,b3⟩ (n a' b1)
 ·exact⟨rfl,rfl⟩
theorem ZkZ(h:OvR nodes alive arcs A L){a b:Int}(w0:-9223372036854775808≤w)(w1:w≤9223372036854775807):T (ZaC nodes a b u w) λr=>Wt L u w r.1 r.2:=by
 unfold ZaC;rw[Zez h,Yk];by_cases hu:Z0 A u
 ·rw[decide_eq_true hu,if_neg Xd];have hl:=h.ln;simp only[T_G];refine⟨⟨hu.1,by have:=hu.2.1;omega⟩,?_⟩;have hn:=h.nd u hu.1 hu.2.1;rw[hn];dsimp only;refine Zo _ (ZkE (ZcG L u) (h.outB u) (h.outLen u) w0 w1) ?_;rintro⟨p,f⟩ hf;dsimp only at *;rw[Zr];refine⟨λhb=>?_,λhb=>?_⟩
  ·have hb':f=false:=by simpa using hb
   simp only[Zd];refine .inr ⟨rfl,rfl,λx hx hk=>?_⟩;have:x.2∈ZS L u:=(Z2 h.kd).2 (by rw[← hk.1];exact hx);exact hf.no hb' _ this hk.2
  ·have hb':f=true:=by simpa using hb
   obtain⟨q1,q2⟩:=hf.yes hb';simp only[T_G,Zd];refine⟨⟨hf.p0,q1⟩,.inl ⟨rfl,_,(Z2 h.kd).1 (ZgK hf.p0 q1),rfl,q2,rfl⟩⟩
 ·rw[decide_eq_false hu,if_pos Xd];simp only[Zd];refine .inr ⟨rfl,rfl,λx hx hk=>hu ?_⟩;obtain⟨a1,a2,a3,a4,a5,_⟩:=h.en x hx;rw[hk.1]at a1 a2 a5;exact⟨a1,a2,a5⟩
theorem Zkq{l:List Hf}(hl:l.length≤1000000):Zc3 l=some l:=by
 unfold Zc3 G;rw[if_pos (by simp;omega)];simp
theorem Zkh(h:OvR nodes alive arcs A L){a b:Int}:Zao nodes a b v=some (ZS L v):=by
 unfold Zao;rw[Zez h,Yk];by_cases hu:Z0 A v
 ·have hl:=h.ln;have hn:=h.nd v hu.1 hu.2.1;rw[decide_eq_true hu,if_neg Xd,hn];unfold G;dsimp only;rw[if_pos ⟨hu.1,by have:=hu.2.1;omega⟩,Zkq (h.outLen v)];rfl
 ·rw[decide_eq_false hu,if_pos Xd,h.out0 hu]
def ZeT(A:List Bool)(u w wt via:Int):Int:=
 if ¬(Z0 A u/\Z0 A w) then 7 else if u=w then 1 else if wt>140737488355328 then 8 else if via < -1∨(A.length:Int)≤via∨(0≤via/\Z0 A via) then 1 else 0
inductive PutR(nodes:List Nod)(alive arcs:Int)(A:List Bool)(L:List OAr)(u w wt via:Int):Bool×Er×List Nod×Int->Prop
 | bad:ZeT A u w wt via≠0->PutR nodes alive arcs A L u w wt via (false,.no (ZeT A u w wt via),nodes,arcs)
 | less (a:OAr):ZeT A u w wt via=0->a∈L->a.1=u->a.2.1=w->a.2.2.1≤wt->PutR nodes alive arcs A L u w wt via (false,.nil,nodes,arcs)
 | put (nodes':List Nod) (arcs':Int):ZeT A u w wt via=0->(∀a∈L,a.1=u->a.2.1=w->wt<a.2.2.1)->OvR nodes' alive arcs' A (ZgB L (u,w,wt,via))->PutR nodes alive arcs A L u w wt via (true,.nil,nodes',arcs')
theorem ZpI(h:OvR nodes alive arcs A L)(hb:L.length<1000000)(w0:-9223372036854775808≤w)(w1:w≤9223372036854775807)(t0:0≤wt):T (ZbE nodes alive arcs u w wt via) (PutR nodes alive arcs A L u w wt via):=by
 unfold ZbE;rw[Zez h,Yk]
 have e1:((if decide (Z0 A u)=true then ((ZR nodes alive arcs w).bind λy32=>some (!y32)) else (some true)):Option Bool)=some (decide (¬(Z0 A u/\Z0 A w))):=by
  by_cases hu:Z0 A u
  ·rw[decide_eq_true hu,if_pos rfl,Zez h,Yk];by_cases hw:Z0 A w <;> simp[hu,hw]
  ·rw[decide_eq_false hu,if_neg Xd];simp[hu]
 rw[e1,Yk];by_cases hl:¬(Z0 A u/\Z0 A w)
 ·rw[if_pos (decide_eq_true hl)];simp only[Zd];have:ZeT A u w wt via=7:=if_pos hl;exact this▸.bad (by rw[this];decide)
 rw[if_neg (by simpa using hl)];have hl':Z0 A u/\Z0 A w:=Classical.not_not.1 hl;obtain⟨hu,hw⟩:=hl';by_cases huw:u=w
 ·rw[if_pos huw];simp only[Zd];have:ZeT A u w wt via=1:=(if_neg hl).trans (if_pos huw);exact this▸.bad (by rw[this];decide)
 rw[if_neg huw];by_cases hwt:wt>140737488355328
 ·rw[if_pos hwt];simp only[Zd];have:ZeT A u w wt via=8:=(if_neg hl).trans ((if_neg huw).trans (if_pos hwt));exact this▸.bad (by rw[this];decide)
 rw[if_neg hwt];have hln:=h.ln
 have e2:((if via<(-1) then (some true) else (if via≥(nodes.length:Int) then (some true) else (if via≥0 then (G (0≤via/\via<(nodes.length:Int)) (some (!(gt nodes via).1))) else (some false))):Option Bool))=some (decide (via < -1∨(A.length:Int)≤via∨(0≤via/\Z0 A via))):=by
  by_cases q1:via < -1
  ·rw[if_pos q1];simp[q1]
  rw[if_neg q1];by_cases q2:via≥(nodes.length:Int)
  ·rw[if_pos q2];have q2':(A.length:Int)≤via:=Xo;simp[q2']
  rw[if_neg q2];by_cases q3:via≥0
  ·rw[if_pos q3];unfold G;have q2':via<(A.length:Int):=Xo;have q3':0≤via:=q3;rw[if_pos ⟨q3,Xo⟩,h.nd via q3 q2'];show some (!(!gt A via))=_;have q4:¬(A.length:Int)≤via:=Xo;rw[Bool.not_not];congr 1;rw[Bool.eq_iff_iff];simp[Z0,q1,q4,q3',q2']
  ·rw[if_neg q3];have q3':¬0≤via:=q3;have q4:¬(A.length:Int)≤via:=Xo;simp[q1,q4,q3']
 rw[e2,Yk];by_cases hv:via < -1∨(A.length:Int)≤via∨(0≤via/\Z0 A via)
 ·rw[if_pos (decide_eq_true hv)];simp only[Zd];have:ZeT A u w wt via=1:=(if_neg hl).trans ((if_neg huw).trans ((if_neg hwt).trans (if_pos hv)));exact this▸.bad (by rw[this];decide)
 rw[if_neg (by simpa using hv)];have hc:ZeT A u w wt via=0:=(if_neg hl).trans ((if_neg huw).trans ((if_neg hwt).trans (if_neg hv)));refine Zo _ (ZkZ h w0 w1) ?_;rintro⟨x,b⟩ hW;dsimp only at *
 -- the two lists
 have hu1:=hu.2.1;have hw1:=hw.2.1;have hsm:=h.sm;have nu:=h.nd u hu.1 hu1;have nw:=h.nd w hw.1 hw1;have l1:=Zm5 (l:=(gt nodes u).2.1) (v:=w) (wt:=wt) (via:=via) (by rw[nu];exact ZcG L u) (by rw[nu];exact h.outB u) (by rw[nu];exact h.outLen u) hw.1 Xo;have l2:=Zm5 (l:=(gt nodes w).2.2) (v:=u) (wt:=wt) (via:=via) (by rw[nw];exact ZdN L w) (by rw[nw];exact h.inB w) (by rw[nw];exact h.inLen w) hu.1 Xo
 have fin:∀ar':Int,(ar'=if (∃x∈L,x.1=u/\x.2.1=w) then arcs else arcs+1)->(∀a∈L,a.1=u->a.2.1=w->wt<a.2.2.1) ->
   T (G (0≤u/\u<(nodes.length:Int)) (((ZbF ((gt nodes u).2.1) w wt via).bind λy148=>G (0≤w/\w<((nodes.set u.toNat ((gt nodes u).1,y148,(gt nodes u).2.2)).length:Int)) (((ZbF ((gt (nodes.set u.toNat ((gt nodes u).1,y148,(gt nodes u).2.2)) w).2.2) u wt via).bind λy192=>some (true,Er.nil,((nodes.set u.toNat ((gt nodes u).1,y148,(gt nodes u).2.2)).set w.toNat ((gt (nodes.set u.toNat ((gt nodes u).1,y148,(gt nodes u).2.2)) w).1,(gt (nodes.set u.toNat ((gt nodes u).1,y148,(gt nodes u).2.2)) w).2.1,y192)),ar')))))) (PutR nodes alive arcs A L u w wt via):=by
  intro ar' har hless;rw[l1,Yk];simp only[T_G,Yv];refine⟨⟨hu.1,Xo⟩,⟨hw.1,Xo⟩,?_⟩;rw[Z3 hu.1 Xo hw.1,if_neg (Ne.symm huw),l2,Yk];simp only[Zd];refine .put _ _ hc hless ?_;rw[har];refine h.put hu.1 hu1 hw.1 hw1 hu.2.2 hw.2.2 huw t0 Xo Xo Xo hb Xs λx x0 x1=>?_;rw[Z3 hw.1 (by rw[Yv];omega) x0,Z3 hu.1 Xo x0];by_cases q:x=w
  ·rw[if_pos q,if_pos q,if_neg Xo,q]
  ·rw[if_neg q,if_neg q];by_cases q2:x=u
   ·rw[if_pos q2,if_pos q2,q2]
   ·rw[if_neg q2,if_neg q2]
 rcases hW with ⟨rfl,a,a1,a2,a3,a4⟩|⟨rfl,rfl,hn⟩
 ·rw[if_pos rfl,Yk];by_cases hle:x≤wt
  ·rw[if_pos (decide_eq_true hle)];simp only[Zd];exact .less a hc a1 a2 a3 (by rw[a4];exact hle)
  ·rw[if_neg (by simpa using hle)];dsimp only;rw[if_neg Xd,Yk];refine fin arcs (by rw[if_pos ⟨a,a1,a2,a3⟩]) λb hb e1 e2=>?_;have:=h.kd.uniq hb a1 (e1.trans a2.symm) (e2.trans a3.symm);rw[this,a4];omega
 ·rw[if_neg Xd,Yk,if_neg Xd];dsimp only;rw[if_pos Xd];have hlb:=h.lb;have har:=h.ar;unfold G;rw[if_pos Xo,Yk];exact fin (arcs+1) (by rw[if_neg (by rintro⟨a,a1,a2,a3⟩;exact hn a a1 ⟨a2,a3⟩)]) λb hb e1 e2=>absurd ⟨e1,e2⟩ (hn b hb)
end Go.Vd


namespace Go.Vd
variable{nodes:List Nod}{alive arcs:Int}{A:List Bool}{M:List OAr}{u v skip hops most settles c N:Int}{q:Yf}{L:Lab}{ss:List Int}
def Ze5(M:List OAr)(skip v:Int):Yf:=((ZS M v).filter λh=>decide (h.1≠skip)).map λh=>(h.1,h.2.1)
theorem OvR.rowOk(h:OvR nodes alive arcs A M):Zn8 (Ze5 M skip) A.length:=λv x hx=>by
 unfold Ze5 at hx;obtain⟨y,hy,rfl⟩:=List.mem_map.1 hx;have hm:=(List.mem_filter.1 hy).1;have:=h.en _ ((Z2 h.kd).1 hm);dsimp only at *;omega
structure QI(L:Lab)(q:Yf)(k:Int->Prop):Prop where
 ord:Hq q
 inn:∀v y,L v=some y->y.2.2=0->¬k v->(y.1,v)∈q
 out:∀e∈q,∃y,L e.2=some y/\y.1≤e.1
theorem Zou{q:Yf}{p:Int}(p0:0≤p)(p1:p<(q.length:Int)):gt q p∈q:=by
 unfold gt;rw[Yl,Yn Xo];exact Yia _
theorem ZoP{q:Yf}{x:Int×Int}(h:x∈q):∃p,0≤p/\p<(q.length:Int)/\gt q p=x:=by
 obtain⟨i,hi,e⟩:=List.getElem_of_mem h;refine⟨i,Xo,Xo,?_⟩;unfold gt;rw[Yl,Int.toNat_natCast,Yn hi];exact e
inductive NxR(L:Lab)(q:Yf):Int×Int×Int×Int×Bool×Yf->Prop
 | no:WNo L->NxR L q (0,0,0,0,false,[])
 | ok (v:Int) (y:Int×Int×Int) (q':Yf):WPick L v y->QI L q' (λx=>x=v)->q'.length<q.length->NxR L q (v,y.1,y.2.1,y.2.2,true,q')
theorem Zpm{a:List Nd3}{b1 b2 b3 b4:Int}(hq:QI L q λ_=>False)(hl:q.length≤100000000000):T (Zb9 a b1 b2 b3 b4 q L) (NxR L q):=by
 unfold Zb9;refine Zbi (λr=>r=[]/\WNo L) ?_ ?_
 ·refine ZK (λz=>QI L z (λ_=>False)/\z.length≤q.length) (λz=>z.length) ?_ ⟨hq,Yj _⟩;rintro s ⟨Q,hs⟩;unfold Zbs;rw[Zr];refine⟨λh0=>?_,λh0=>?_⟩
  ·refine Zo _ (ZpN Q.ord Xo h0) ?_;rintro⟨d,v,_,q'⟩⟨e,hp,ho⟩;dsimp only at *;have hlen:=hp.length_eq;rw[Yp]at hlen;have hm:(d,v)∈s:=by rw[e];exact Zou Xo h0
   obtain⟨y,hy,hle⟩:=Q.out _ hm;dsimp only at hy hle;rw[hy];dsimp only[Yha];have out':∀x∈q',∃y,L x.2=some y/\y.1≤x.1:=λx hx=>Q.out x (hp.mem_iff.1 (Ys _ hx))
   have least:∀x∈s,¬Less x (d,v):=λx hx=>by
    obtain⟨p,p0,p1,rfl⟩:=ZoP hx;rw[e];exact Ord2.top Q.ord p p0 p1
   have stale:¬(y.2.2=0/\y.1=d)->QI L q' λ_=>False:=λhn=>⟨ho,λw z hz z0 _=>by
    have:=Q.inn w z hz z0 (λh=>h);rw[← hp.mem_iff]at this;rcases List.mem_cons.1 this with h|h
    ·rw[← e]at h;cases h
     rw[hy]at hz;cases hz;exact absurd ⟨z0,rfl⟩ hn
    ·exact h,out'⟩
   rw[Zr];refine⟨λh1=>?_,λh1=>?_⟩
   ·rw[Zr];refine⟨λh2=>?_,λh2=>?_⟩
    ·simp only[Zdt,Zd,Yq,Yo]
     have hpick:WPick L v y:=by
      refine⟨hy,h1,λw z hz z0=>?_⟩;have:=least _ (Q.inn w z hz z0 (λh=>h));unfold Less at this;dsimp only at this;omega
     exact .ok v y q' hpick ⟨ho,λw z hz z0 hw=>by
      have:=Q.inn w z hz z0 (λh=>h);rw[← hp.mem_iff]at this;rcases List.mem_cons.1 this with h|h
      ·rw[← e]at h;cases h;exact absurd rfl hw
      ·exact h,out'⟩ Xo
    ·simp only[Zd,Yo];exact⟨⟨stale λk=>h2 k.2,Xo⟩,Xo⟩
   ·simp only[Zd,Yo];exact⟨⟨stale λk=>h1 k.1,Xo⟩,Xo⟩
  ·simp only[Zd,Yq];have:s=[]:=Yx Xo;subst this;exact⟨rfl,λx z hz z0=>by have:=Q.inn x z hz z0 (λh=>h);cases this⟩
 ·rintro _ ⟨rfl,hn⟩;simp only[Zd];exact .no hn
theorem Zof{a:List Nd3}{b1 b2 b3 b4 d hp:Int}{k:Int->Prop}(hq:QI L q k)(hl:q.length≤100000000000)(hopn:opn L v d):T (ZbB a b1 b2 b3 b4 q L v d hp 0) λr=>r.1=lup L v (d,hp,0)/\QI r.1 r.2 k/\r.2.length=q.length+1:=by
 unfold ZbB;refine Zo _ (Zo5 hq.ord hl) ?_;rintro r ⟨h1,h2⟩;simp only[Zd];refine⟨rfl,⟨h2,λw z hz z0 hw=>?_,λe he=>?_⟩,by rw[h1.length_eq,Yp]⟩
 ·rw[h1.mem_iff];by_cases e:w=v
  ·subst e;rw[if_pos rfl]at hz;cases hz;simp
  ·rw[if_neg e]at hz;exact Ys _ (hq.inn w z hz z0 hw)
 ·rw[h1.mem_iff]at he;rcases List.mem_cons.1 he with rfl|he
  ·exact⟨(d,hp,0),if_pos rfl,YO _⟩
  ·obtain⟨y,hy,hle⟩:=hq.out e he;by_cases ev:e.2=v
   ·refine⟨(d,hp,0),if_pos ev,?_⟩;unfold opn at hopn;rw[← ev,hy]at hopn;dsimp only at hopn ⊢;omega
   ·exact⟨y,by rw[if_neg ev];exact hy,hle⟩
theorem Zm0(h:OvR nodes alive arcs A M){y:Int×Int×Int}(hW:WI A.length c L ss)(c0:0≤c)(c1:c<65536)(hp:WPick L v y)(hq:QI L q λx=>x=v)(hl:q.length≤10000000000+1000000*c.toNat) :
  T (ZbH nodes alive arcs skip hops q L v y.1 y.2.1 y.2.2) λr=>r.1=Ziw (Ze5 M skip) hops L v y/\QI r.1 r.2 (λ_=>False)/\r.2.length≤10000000000+1000000*(c.toNat+1):=by
 unfold ZbH;have hv:=hW.val v y hp.1;have hW1:=hW.settle hp.1 hp.2.1;have e1:(λx=>if x=v then some (y.1,y.2.1,(1:Int)) else L x)=lup L v (y.1,y.2.1,1):=rfl;rw[e1]
 have Q1:QI (lup L v (y.1,y.2.1,1)) q λ_=>False:=by
  refine⟨hq.ord,λw z hz z0 _=>?_,λe he=>?_⟩
  ·unfold lup at hz;by_cases ew:w=v
   ·rw[if_pos ew]at hz;cases hz;cases z0
   ·rw[if_neg ew]at hz;exact hq.inn w z hz z0 ew
  ·obtain⟨z,hz,hle⟩:=hq.out e he;unfold lup;by_cases ew:e.2=v
   ·rw[if_pos ew];rw[ew,hp.1]at hz;cases hz;exact⟨_,rfl,hle⟩
   ·rw[if_neg ew];exact⟨z,hz,hle⟩
 rw[Zr];refine⟨λhh=>?_,λhh=>?_⟩
 ·simp only[Zd];refine⟨by unfold Ziw;rw[if_pos hh],Q1,Xo⟩
 rw[Zkh h,Yk];have hmul:c*140737488355328≤65535*140737488355328:=Int.mul_le_mul_of_nonneg_right Xo Xo;have hol:=h.outLen v;refine Zo (λr=>r.1=(Ze5 M skip v).foldl (ZfI y.1 y.2.1) (lup L v (y.1,y.2.1,1))/\QI r.1 r.2 (λ_=>False)/\r.2.length≤10000000000+1000000*(c.toNat+1)) ?_ ?_;rotate_left
 ·rintro⟨r1,r2⟩⟨e,k1,k2⟩;simp only[Zd];exact⟨by unfold Ziw;rw[if_neg hh];exact e,k1,k2⟩
 refine ZK (λz=>0≤z.2.2/\z.2.2≤((ZS M v).length:Int)/\z.2.1=((((ZS M v).take z.2.2.toNat).filter λh=>decide (h.1≠skip)).map λh=>(h.1,h.2.1)).foldl (ZfI y.1 y.2.1) (lup L v (y.1,y.2.1,1))/\QI z.2.1 z.1 (λ_=>False)/\(z.1.length:Int)≤10000000000+1000000*c+z.2.2) (λz=>(((ZS M v).length:Int)-z.2.2).toNat) ?_ ⟨Xs,Xs,rfl,Q1,by simp;omega⟩;rintro⟨s,l,i⟩⟨i0,i1,e,Q,hs⟩;dsimp only at *;unfold Za4;rw[Zr];refine⟨λhi=>?_,λhi=>?_⟩;rotate_left
 ·simp only[Zd,Yq];rw[YE Xo]at e;exact⟨e,Q,Xo⟩
 have hm:gt (ZS M v) i∈ZS M v:=by
  unfold gt;rw[Yl,Yn Xo];exact Yia _
 have hen:=h.en _ ((Z2 h.kd).1 hm);have htk:=Zep i0 hi;generalize gt (ZS M v) i=a at *;obtain⟨x,w,via⟩:=a;dsimp only at *;simp only[T_G];refine⟨i0,Xo,Xo,?_⟩
 have hnext:∀l',l'=(if x=skip then l else ZfI y.1 y.2.1 l (x,w))->l'=((((ZS M v).take (i+1).toNat).filter λh=>decide (h.1≠skip)).map λh=>(h.1,h.2.1)).foldl (ZfI y.1 y.2.1) (lup L v (y.1,y.2.1,1)):=by
  rintro _ rfl;rw[htk,Y0,Y2,List.foldl_append,← e];by_cases es:x=skip
  ·rw[if_pos es,YX,if_neg (by simp[es])];rfl
  ·rw[if_neg es,YX,if_pos (by simp[es])];rfl
 refine Zo (λo=>o=decide (x=skip∨¬opn l x (y.1+w))) ?_ ?_
 ·by_cases es:x=skip
  ·rw[if_pos es];simp[es]
  rw[if_neg es]
  have hval:∀z,l x=some z->z.2.2=0∨z.2.2=1:=λz hz=>by
   have hI:WI A.length (c+1) l (v::ss):=by
    rw[e];refine WI.fold Xo Xo Xo Xo (hW1.mono Xo) λa ha=>?_;obtain⟨b,hb,rfl⟩:=List.mem_map.1 ha;have hb':=YN (List.mem_filter.1 hb).1;have:=h.en _ ((Z2 h.kd).1 hb');dsimp only at *;omega
   exact (hI.val x z hz).2.2.2.2
  cases hz:l x with
  | none =>
   have ho:opn l x (y.1+w):=by unfold opn;rw[hz];trivial
   simp[es,ho]
  | some z =>
   have:=hval z hz;have ho:opn l x (y.1+w)↔z.2.2=0/\y.1+w<z.1:=by unfold opn;rw[hz]
   dsimp only[Yha];by_cases z0:z.2.2>0
   ·rw[if_pos z0];have h1:¬opn l x (y.1+w):=λk=>by have:=(ho.1 k).1;omega
    simp[h1]
   ·rw[if_neg z0,if_pos (show (some z).isSome=true from rfl)];have h0:z.2.2=0:=Xo;by_cases hd:z.1≤y.1+w
    ·have h1:¬opn l x (y.1+w):=λk=>by have:=(ho.1 k).2;omega
     simp[h1,hd]
    ·have h1:opn l x (y.1+w):=ho.2 ⟨h0,Xo⟩;simp[h1,hd,es]
 rintro _ rfl;rw[Zr];refine⟨λhk=>?_,λhk=>?_⟩
 ·have hk':=of_decide_eq_true hk;simp only[T_G,Zd,Yo];refine⟨Xo,⟨Xo,Xo,hnext _ ?_,Q,Xo⟩,Xo⟩;rcases hk' with hk'|hk'
  ·rw[if_pos hk']
  ·unfold ZfI;rw[if_neg hk'];split <;> rfl
 ·have hk':¬x=skip/\opn l x (y.1+w):=by
   have:¬(x=skip∨¬opn l x (y.1+w)):=λk=>hk (decide_eq_true k);exact⟨λk=>this (.inl k),Classical.not_not.1 λk=>this (.inr k)⟩
  refine Zo _ (Zof (hp:=y.2.1+1) Q Xo hk'.2) ?_;rintro⟨r1,r2⟩⟨k1,k2,k3⟩;dsimp only at *;simp only[T_G,Zd,Yo];refine⟨Xo,⟨Xo,Xo,hnext _ ?_,k2,Xo⟩,Xo⟩;rw[if_neg hk'.1,k1];unfold ZfI;rw[if_pos hk'.2]
theorem Zol(h:OvR nodes alive arcs A M)(u0:0≤u)(u1:u<(A.length:Int))(hset:settles≤9223372036854775807) :
  T (Zcy nodes alive arcs skip hops [] (λ_=>none) u most settles) λr=>WR (Ze5 M skip) hops settles most 0 (ZfK u) r.1:=by
 have hsm:=h.sm;unfold Zcy;refine Zo _ (Zof (k:=λ_=>False) (hp:=0) (d:=0) (v:=u) (L:=λ_=>none) (q:=[]) ⟨λp p0 p1=>by simp at p1;omega,λw z hz=>(by cases hz),λe he=>(by cases he)⟩ Xs (by unfold opn;trivial)) ?_;rintro⟨l0,q0⟩⟨e0,Q0,hl0⟩;dsimp only at *;subst e0;refine Zbi (λr=>WR (Ze5 M skip) hops settles most 0 (ZfK u) r.1) ?_ λr hr=>by simpa using hr
 refine ZK (λz=>0≤z.2.2/\QI z.2.1 z.1 (λ_=>False)/\(∃ss,WI A.length z.2.2 z.2.1 ss/\(ss.length:Int)=z.2.2)/\z.1.length≤10000000000+1000000*z.2.2.toNat/\∀Lf,WR (Ze5 M skip) hops settles most z.2.2 z.2.1 Lf->WR (Ze5 M skip) hops settles most 0 (ZfK u) Lf) (λz=>((A.length:Int)-z.2.2).toNat) ?_ ⟨Xs,Q0,⟨[],WI.zero u0 u1,rfl⟩,by rw[hl0];simp,λ_ k=>k⟩;rintro⟨q,L,c⟩⟨c0,Q,⟨ss,hW,hss⟩,hl,K⟩;dsimp only at *;have hcn:=hW.len Xo;unfold ZbI;rw[Zr];refine⟨λhlt=>?_,λhge=>?_⟩;rotate_left
 ·simp only[Zd,Yq];exact K _ (.full _ _ Xo)
 have hlt':c<settles:=Xo;refine Zo _ (Zpm Q Xo) ?_;intro r hr;cases hr with
 | no hn =>
  dsimp only;rw[if_pos Xd,Yk,if_pos rfl];simp only[Zdt,Zd,Yq,Yo];exact K _ (.none _ _ hlt' hn)
 | ok v y q' hp Q' hq' =>
  dsimp only;rw[if_neg Xd,Yk];by_cases hm:y.1>most
  ·rw[decide_eq_true hm,if_pos rfl];simp only[Zdt,Zd,Yq,Yo];exact K _ (.far _ _ v y hlt' hp hm)
  ·rw[decide_eq_false hm,if_neg Xd];have hWn:=hW.set (hops:=hops) (h.rowOk (skip:=skip)) hp;have hcn2:=hWn.len Xo;rw[Yp]at hcn2;refine Zo _ (Zm0 (skip:=skip) (hops:=hops) h hW c0 Xo hp Q' Xo) ?_;rintro⟨r1,r2⟩⟨k1,k2,k3⟩;dsimp only at *;subst k1;simp only[T_G,Zd,Yo];exact⟨Xo,⟨Xo,k2,⟨_,hWn,by simp;omega⟩,Xo,λLf hL=>K _ (.go _ _ v y _ hlt' hp hm hL)⟩,Xo⟩
end Go.Vd


namespace Go.Vd
variable{nodes:List Nod}{alive arcs:Int}{A:List Bool}{M:List OAr}{u v skip hops most settles c N:Int}{goals:List Int}
def far(L:Lab)(w:Int):Int:=if (L w).isSome=true then ((L w).getD (0,0,0)).1 else 18446744073709551615
inductive FdW(A:List Bool)(M:List OAr)(u skip:Int)(goals:List Int)(most hops settles:Int):List Int×Er->Prop
 | bad:¬Z0 A u->FdW A M u skip goals most hops settles ([],.no 7)
 | goal (i:Int):Z0 A u->0≤i->i<(goals.length:Int)->¬Z0 A (gt goals i)->(∀j,0≤j->j<i->Z0 A (gt goals j))->FdW A M u skip goals most hops settles ([],.at 3 i (.no 7))
 | ok (Lf:Lab):Z0 A u->(∀j,0≤j->j<(goals.length:Int)->Z0 A (gt goals j))->WR (Ze5 M skip) hops settles most 0 (ZfK u) Lf->FdW A M u skip goals most hops settles (goals.map (far Lf),.nil)
theorem Zex{E:Type}[Inhabited E]{l:List E}{i:Int}(i0:0≤i)(i1:i<(l.length:Int)):l.take (i+1).toNat=l.take i.toNat++[gt l i]:=by
 rw[show (i+1).toNat=i.toNat+1 from Xo,List.take_add_one]
 have:l[i.toNat]?.toList=[gt l i]:=by
  unfold gt;rw[Yl,Yn Xo];rfl
 rw[this]
theorem Zpj(h:OvR nodes alive arcs A M)(hg:goals.length≤10000000000000)(hset:settles≤9223372036854775807):T (ZdM nodes alive arcs u skip goals most hops settles) (FdW A M u skip goals most hops settles):=by
 unfold ZdM;rw[Zez h,Yk];by_cases hu:Z0 A u;rotate_left
 ·rw[decide_eq_false hu,if_pos Xd];simp only[Zd];exact .bad hu
 rw[decide_eq_true hu,if_neg Xd];refine Zbi (λ_=>∀j,0≤j->j<(goals.length:Int)->Z0 A (gt goals j)) ?_ ?_
 ·refine ZK (λi=>0≤i/\i≤(goals.length:Int)/\∀j,0≤j->j<i->Z0 A (gt goals j)) (λi=>((goals.length:Int)-i).toNat) ?_ ⟨Xs,Xs,λj j0 j1=>Xo⟩;rintro i ⟨i0,i1,hi⟩;unfold ZcT;rw[Zr];refine⟨λhlt=>?_,λhge=>?_⟩
  ·rw[T_G];refine⟨i0,?_⟩;rw[Zez h,Yk];by_cases hw:Z0 A (gt goals i)
   ·rw[decide_eq_true hw,if_neg Xd];simp only[T_G,Zd,Yo];refine⟨Xo,⟨Xo,Xo,λj j0 j1=>?_⟩,Xo⟩;by_cases e:j=i
    ·rw[e];exact hw
    ·exact hi j j0 Xo
   ·rw[decide_eq_false hw,if_pos Xd];unfold ZaA;rw[if_neg Xd];simp only[Zf3,Zdt,Zd,Yk,Yq,Yo];exact .goal i hu i0 hlt hw hi
  ·simp only[Zd,Yq];exact λj j0 j1=>hi j j0 Xo
 intro _ hgl;refine Zo _ (Zol (skip:=skip) (hops:=hops) (most:=most) (settles:=settles) h hu.1 hu.2.1 hset) ?_;rintro⟨Lf,q⟩ hR;dsimp only at hR;refine Zo (λl=>l=goals.map (far Lf)) ?_ λl e=>by simp only[Zd];rw[e];exact .ok Lf hu hgl hR
 refine ZK (λz=>0≤z.2/\z.2≤(goals.length:Int)/\z.1=(goals.take z.2.toNat).map (far Lf)) (λz=>((goals.length:Int)-z.2).toNat) ?_ ⟨Xs,Xs,Xs⟩;rintro⟨l,i⟩⟨i0,i1,e⟩;dsimp only at *;have hl:l.length≤goals.length:=by rw[e,YB,YG];omega
 unfold ZcU;rw[Zr];refine⟨λhlt=>?_,λhge=>?_⟩
 ·have hs:=Zex i0 hlt;rw[T_G];refine⟨i0,?_⟩;by_cases hx:(Lf (gt goals i)).isSome=true
  ·rw[if_pos hx];simp only[T_G,Zd,Yo,Yp,Yt];refine⟨Xo,Xo,⟨Xo,Xo,?_⟩,Xo⟩;rw[hs,Y2,e];unfold far;simp[hx]
  ·rw[if_neg hx];simp only[T_G,Zd,Yo];refine⟨Xo,Xo,⟨Xo,Xo,?_⟩,Xo⟩;rw[hs,Y2,e];unfold far;simp[hx]
 ·simp only[Zd,Yq];rw[e,YE Xo]
end Go.Vd


namespace Go.Vd
variable{nodes nodes':List Nod}{alive arcs:Int}{A:List Bool}{L:List OAr}{u v w wt via:Int}
theorem p_In(h:OvR nodes alive arcs A L){a b:Int}:ZaM nodes a b v=some (inL L v):=by
 unfold ZaM;rw[Zez h,Yk];by_cases hu:Z0 A v
 ·have hl:=h.ln;have hn:=h.nd v hu.1 hu.2.1;rw[decide_eq_true hu,if_neg Xd,hn];unfold G;dsimp only;rw[if_pos ⟨hu.1,by have:=hu.2.1;omega⟩,Zkq (h.inLen v)];rfl
 ·rw[decide_eq_false hu,if_pos Xd,h.in0 hu]
end Go.Vd


namespace Go.Vd
variable{nodes:List Nod}{alive arcs:Int}{A:List Bool}{M:List OAr}{u v skip hops settles c N:Int}{a:Hf}
open Classical in
noncomputable def ZiB(M:List OAr)(skip hops settles most u:Int):Lab:=if h:∃Lf,WR (Ze5 M skip) hops settles most 0 (ZfK u) Lf then Classical.choose h else λ_=>none
theorem WR.fin{most:Int}{Lf:Lab}(h:WR (Ze5 M skip) hops settles most 0 (ZfK u) Lf):Lf=ZiB M skip hops settles most u:=by
 have hx:∃Lf,WR (Ze5 M skip) hops settles most 0 (ZfK u) Lf:=⟨Lf,h⟩;unfold ZiB;rw[dif_pos hx];exact h.uniq (Classical.choose_spec hx)
def ZbT(a:Hf)(l:List Hf):Yd:=(l.filter λb=>decide (b.1≠a.1)).map λb=>(a.1,b.1,a.2.1+b.2.1)
def Zfe(l:Yd):Int:=l.foldl (λm s=>max m s.2.2) 0
open Classical in
noncomputable def ZeB(M:List OAr)(L:Lab)(s:Int×Int×Int):Bool:=decide (s.2.2≤140737488355328/\far L s.2.1>s.2.2/\¬∃x∈M,x.1=s.1/\x.2.1=s.2.1/\x.2.2.1≤s.2.2)
noncomputable def Zdd(M:List OAr)(v hops settles:Int)(a:Hf):Yd:=
 (ZbT a (ZS M v)).filter (ZeB M (ZiB M v hops settles (Zfe (ZbT a (ZS M v))) a.1))
noncomputable def Zfc(M:List OAr)(v hops settles:Int):Yd:=(inL M v).flatMap (Zdd M v hops settles)
theorem Zl7{l:List Hf}{b:Hf}:ZbT a (l++[b])=ZbT a l++(if b.1=a.1 then [] else [(a.1,b.1,a.2.1+b.2.1)]):=by
 unfold ZbT;rw[Y0,Y2];by_cases e:b.1=a.1
 ·rw[if_pos e,YX,if_neg (by simp[e])];rfl
 ·rw[if_neg e,YX,if_pos (by simp[e])];rfl
theorem Zmz{l:Yd}{s:Int×Int×Int}:Zfe (l++[s])=max (Zfe l) s.2.2:=by
 unfold Zfe;rw[List.foldl_append];rfl
theorem Zgr{l:List Hf}:(ZbT a l).length≤l.length:=by
 unfold ZbT;rw[YB];exact Yea _ _
theorem ZoF{L:Lab}{s:Int×Int×Int}{x:Int}{b:Bool}(hM:KD M)(hW:Wt M s.1 s.2.1 x b):ZeB M L s=true↔(s.2.2≤140737488355328/\far L s.2.1>s.2.2/\¬(b=true/\x≤s.2.2)):=by
 unfold ZeB;rw[decide_eq_true_iff]
 have:(∃x∈M,x.1=s.1/\x.2.1=s.2.1/\x.2.2.1≤s.2.2)↔(b=true/\x≤s.2.2):=by
  constructor
  ·rintro⟨y,y1,y2,y3,y4⟩;have hy:Wt M s.1 s.2.1 y.2.2.1 true:=.inl ⟨rfl,y,y1,y2,y3,rfl⟩;obtain⟨rfl,rfl⟩:=hW.uniq hM hy;exact⟨rfl,y4⟩
  ·rintro⟨rfl,h2⟩;rcases hW with ⟨_,y,y1,y2,y3,y4⟩|⟨h,_⟩
   ·exact⟨y,y1,y2,y3,Xo⟩
   ·cases h
 rw[this]
theorem Zfq{E:Type}[Inhabited E]{l:List E}{i:Int}(h0:0≤i)(h1:i<(l.length:Int)):gt l i∈l:=by
 unfold gt;rw[Yl,Yn Xo];exact Yia _
theorem Zpa(h:OvR nodes alive arcs A M)(ha:a∈inL M v) :
  T (ZB (λzz_=>Zcl a.1 a.2.1 (ZS M v) zz_.1 zz_.2.1 zz_.2.2.1 zz_.2.2.2) ([],[],0,0)) λr=>r=(ZbT a (ZS M v),(ZbT a (ZS M v)).map (λs=>s.2.1),Zfe (ZbT a (ZS M v))):=by
 have hol:=h.outLen v;have hae:=h.en _ ((Zay h.kd).1 ha);dsimp only at hae;refine ZK (λz=>0≤z.2.2.2/\z.2.2.2≤((ZS M v).length:Int)/\z.1=ZbT a ((ZS M v).take z.2.2.2.toNat)/\z.2.1=z.1.map (λs=>s.2.1)/\z.2.2.1=Zfe z.1) (λz=>(((ZS M v).length:Int)-z.2.2.2).toNat) ?_ ⟨Xs,Xs,by simp[ZbT],Xs,by simp[Zfe]⟩;rintro⟨op,gl,mo,i⟩⟨i0,i1,e1,e2,e3⟩;dsimp only at *;have hopl:op.length≤(ZS M v).length:=by rw[e1];exact YL Zgr (by rw[YG];omega)
 unfold Zcl;rw[Zr];refine⟨λhlt=>?_,λhge=>?_⟩;rotate_left
 ·simp only[Zd,Yq];rw[YE Xo]at e1;rw[e3,e2,e1]
 have hm:gt (ZS M v) i∈ZS M v:=by
  unfold gt;rw[Yl,Yn Xo];exact Yia _
 have hen:=h.en _ ((Z2 h.kd).1 hm);have hs:=Zex i0 hlt;generalize gt (ZS M v) i=b at *;dsimp only at hen;have hsn:=Zl7 (a:=a) (l:=(ZS M v).take i.toNat) (b:=b);rw[← hs,← e1]at hsn;rw[T_G];refine⟨i0,?_⟩;have hgl:gl.length=op.length:=by rw[e2,YB]
 rw[Zr];refine⟨λhe=>?_,λhe=>?_⟩
 ·rw[if_pos he,List.append_nil]at hsn;simp only[T_G,Zd,Yo];exact⟨Xo,⟨Xo,Xo,hsn.symm,e2,e3⟩,Xo⟩
 ·rw[if_neg he]at hsn;simp only[T_G,Zd,Yo];refine⟨Xo,Xo,Xo,Xo,Xo,⟨Xo,Xo,hsn.symm,?_,?_⟩,Xo⟩
  ·rw[e2];simp
  ·rw[Zmz,e3]
theorem ZoV{O:Yd}{gl:List Int}{mo:Int}{L:Lab}(h:OvR nodes alive arcs A M)(hO:O.length≤1000000)(hg:∀s∈O,0≤s.2.1/\s.2.1<(A.length:Int)) :
  T (ZB (λzz_=>Zco nodes alive arcs (O,gl,mo) ((O.map (λs=>s.2.1)).map (far L),Er.nil) zz_.1 zz_.2) ([],0)) λr=>r=O.filter (ZeB M L):=by
 have hsm:=h.sm;refine ZK (λz=>0≤z.2/\z.2≤(O.length:Int)/\z.1=(O.take z.2.toNat).filter (ZeB M L)) (λz=>((O.length:Int)-z.2).toNat) ?_ ⟨Xs,Xs,Xs⟩;rintro⟨l,i⟩⟨i0,i1,e⟩;dsimp only at *;have hll:l.length≤O.length:=by rw[e];exact YL (Yea _ _) (by rw[YG];omega)
 unfold Zco;dsimp only;rw[Zr];refine⟨λhlt=>?_,λhge=>?_⟩;rotate_left
 ·simp only[Zd,Yq];rw[YE Xo]at e;exact e
 have hm:gt O i∈O:=Zfq i0 hlt
 have hfar:gt ((O.map (λs=>s.2.1)).map (far L)) i=far L (gt O i).2.1:=by
  unfold gt;rw[Yl,Yl,Yfa,Yfa,Yn Xo];rfl
 have hs:=Zex i0 hlt;rw[hfar];have hlm:((O.map (λs=>s.2.1)).map (far L)).length=O.length:=by rw[YB,YB]
 rw[hlm];obtain⟨q0,q1⟩:=hg _ hm;generalize gt O i=s at *;rw[T_G];refine⟨i0,?_⟩;refine Zo _ (ZkZ (u:=s.1) (w:=s.2.1) h Xo Xo) ?_;rintro⟨x,b⟩ hW;have hk:=ZoF (L:=L) h.kd hW;dsimp only
 have yes:ZeB M L s=true->(O.take (i+1).toNat).filter (ZeB M L)=l++[(s.1,s.2.1,s.2.2)]:=λhy=>by
  rw[hs,Y0,YX,if_pos hy,← e];rfl
 have no:¬ZeB M L s=true->(O.take (i+1).toNat).filter (ZeB M L)=l:=λhn=>by
  rw[hs,Y0,YX,if_neg hn,← e];simp
 rw[Zr];refine⟨λc1=>?_,λc1=>?_⟩;rotate_left
 ·simp only[T_G,Zd,Yo];exact⟨Xo,⟨Xo,Xo,(no λk=>c1 (hk.1 k).1).symm⟩,Xo⟩
 rw[T_G];refine⟨Xo,?_⟩;rw[Zr];refine⟨λc2=>?_,λc2=>?_⟩;rotate_left
 ·simp only[T_G,Zd,Yo];exact⟨Xo,⟨Xo,Xo,(no λk=>c2 (hk.1 k).2.1).symm⟩,Xo⟩
 rw[Zr];refine⟨λc3=>?_,λc3=>?_⟩;rotate_left
 ·simp only[T_G,Zd,Yo];exact⟨Xo,Xo,⟨Xo,Xo,(yes (hk.2 ⟨c1,c2,λk=>c3 k.1⟩)).symm⟩,Xo⟩
 rw[Zr];refine⟨λc4=>?_,λc4=>?_⟩
 ·simp only[T_G,Zd,Yo];exact⟨Xo,⟨Xo,Xo,(no λk=>(hk.1 k).2.2 ⟨c3,c4⟩).symm⟩,Xo⟩
 ·simp only[T_G,Zd,Yo];exact⟨Xo,Xo,⟨Xo,Xo,(yes (hk.2 ⟨c1,c2,λk=>c4 k.2⟩)).symm⟩,Xo⟩
theorem Znu(h:OvR nodes alive arcs A M){s:Int×Int×Int}(hs:s∈ZbT a (ZS M v)):Z0 A s.2.1/\s.1=a.1:=by
 unfold ZbT at hs;obtain⟨b,hb,rfl⟩:=List.mem_map.1 hs;have hb':=h.en _ ((Z2 h.kd).1 (List.mem_filter.1 hb).1);dsimp only at hb' ⊢;exact⟨⟨Xo,Xo,hb'.2.2.2.2.2.1⟩,rfl⟩
theorem Zpv(h:OvR nodes alive arcs A M)(ha:a∈inL M v)(hset:settles≤9223372036854775807):Zea nodes alive arcs a.1 a.2.1 a.2.2 v (ZS M v) hops settles=some (Zdd M v hops settles a):=by
 refine Zfb.1 ?_;have hol:=h.outLen v;have hae:=h.en _ ((Zay h.kd).1 ha);have hopl:(ZbT a (ZS M v)).length≤(ZS M v).length:=Zgr;have hok:=λs=>Znu (a:=a) (v:=v) h (s:=s);have hsh:Zdd M v hops settles a=(ZbT a (ZS M v)).filter (ZeB M (ZiB M v hops settles (Zfe (ZbT a (ZS M v))) a.1)):=rfl;unfold Zea;refine Zo _ (Zpa h ha) ?_;rintro _ rfl;dsimp only;generalize ZbT a (ZS M v)=O at *;rw[Zr];refine⟨λhe=>?_,λhe=>?_⟩
 ·simp only[Zd];have:O=[]:=Yx (by rw[YB]at he;omega);rw[hsh,this];rfl
 have hua:Z0 A a.1:=⟨hae.1,hae.2.1,hae.2.2.2.2.1⟩;refine Zo _ (Zpj (u:=a.1) (skip:=v) (hops:=hops) (settles:=settles) (goals:=O.map (λs=>s.2.1)) (most:=Zfe O) h (by rw[YB];omega) hset) ?_;intro r hr;cases hr with
 | bad hn=>exact absurd hua hn
 | goal k _ k0 k1 hk _ =>
  refine absurd ?_ hk;obtain⟨s,hs,e⟩:=List.mem_map.1 (Zfq k0 k1);rw[← e];exact (hok s hs).1
 | ok Lf _ _ hR =>
  have hfin:=hR.fin;dsimp only;rw[if_pos rfl];rw[hsh,← hfin];refine Zo _ (ZoV (L:=Lf) h Xo λs hs=>⟨(hok s hs).1.1,(hok s hs).1.2.1⟩) ?_;rintro _ rfl;simp only[Zd]
def bnd(n:Int):Int:=min (max n 0) 1048576
theorem Zpp{n:Int}:bnd n≤9223372036854775807:=by unfold bnd;omega
theorem Zmk(h:OvR nodes alive arcs A M){x1 x2 x3:Int}:T (Zdx nodes alive arcs v hops settles x1 x2 x3) λr=>(¬Z0 A v/\r=([],.no 7))∨(Z0 A v/\r=(Zfc M v (bnd hops) (bnd settles),Er.nil)):=by
 have hil:=h.inLen v;unfold Zdx ZeF;rw[Zez h,Yk];by_cases hv:Z0 A v;rotate_left
 ·rw[decide_eq_false hv,if_pos Xd,Yk,if_neg Xd];simp only[Zd];exact .inl ⟨hv,trivial⟩
 rw[decide_eq_true hv,if_neg Xd,Yk,if_pos rfl];unfold Zd3 Zcv;simp only[Yk];rw[Zkh h,Yk,p_In h,Yk];refine Zo (λl=>l=Zfc M v (bnd hops) (bnd settles)) ?_ λl e=>by simp only[Zd];rw[e];exact .inr ⟨hv,rfl⟩
 have hfl:∀k,k≤(inL M v).length->(((inL M v).take k).flatMap (Zdd M v (bnd hops) (bnd settles))).length≤k*1000000:=λk hk=>by
  rw[List.length_flatMap]
  have:∀l:List Hf,((l.map λa=>(Zdd M v (bnd hops) (bnd settles) a).length).sum)≤l.length*1000000:=λl=>by
   induction l with
   | nil=>simp
   | cons x l ih =>
    have:(Zdd M v (bnd hops) (bnd settles) x).length≤1000000:=by
     unfold Zdd;exact YL (Yea _ _) (YL Zgr (h.outLen v))
    simp only[List.map_cons,List.sum_cons,Yp];omega
  refine YL (this _) ?_;rw[YG];exact Yz _ Xo
 refine ZK (λz=>0≤z.2/\z.2≤((inL M v).length:Int)/\z.1=((inL M v).take z.2.toNat).flatMap (Zdd M v (bnd hops) (bnd settles))) (λz=>(((inL M v).length:Int)-z.2).toNat) ?_ ⟨Xs,Xs,Xs⟩;rintro⟨l,i⟩⟨i0,i1,e⟩;dsimp only at *;unfold Zcz;dsimp only;rw[Zr];refine⟨λhlt=>?_,λhge=>?_⟩;rotate_left
 ·simp only[Zd,Yq];rw[YE Xo]at e;exact e
 have hm:gt (inL M v) i∈inL M v:=by
  unfold gt;rw[Yl,Yn Xo];exact Yia _
 have hs:=Zex i0 hlt;have hl1:=hfl i.toNat Xo;have hl2:=hfl (i+1).toNat Xo;rw[← e]at hl1
 have e2:((inL M v).take (i+1).toNat).flatMap (Zdd M v (bnd hops) (bnd settles))=l++Zdd M v (bnd hops) (bnd settles) (gt (inL M v) i):=by
  rw[hs,List.flatMap_append,← e];simp
 rw[e2,Yy]at hl2;rw[T_G];refine⟨i0,?_⟩;have hf:=Zpv (hops:=bnd hops) (settles:=bnd settles) h hm Zpp;unfold bnd at hf;rw[hf,Yk];simp only[T_G,Zd,Yo];unfold bnd at hl2 e2;exact⟨Xo,Xo,⟨Xo,Xo,e2.symm⟩,Xo⟩
end Go.Vd


namespace Go.Vd
variable{nodes:List Nod}{alive arcs:Int}{A:List Bool}{M:List OAr}{u v w skip hops settles c N:Int}{a:Hf}
open Classical in
noncomputable def ZdK(v:Int)(M:List OAr)(s:Int×Int×Int):List OAr:=if ∃a∈M,a.1=s.1/\a.2.1=s.2.1/\a.2.2.1≤s.2.2 then M else ZgB M (s.1,s.2.1,s.2.2,v)
noncomputable def ZeL(M:List OAr)(v hops settles:Int):List OAr:=(Zfc M v hops settles).foldl (ZdK v) (ZeU M v)
theorem OvR.few(h:OvR nodes alive arcs A M):M.length≤A.length*A.length:=by
 have hnd:(M.map λa=>a.1*(A.length:Int)+a.2.1).Nodup:=by
  rw[List.nodup_iff_pairwise_ne,List.pairwise_map];refine (List.pairwise_iff_forall_sublist.2 λ{x y} hs=>?_);have hk:=List.pairwise_iff_forall_sublist.1 h.kd hs;have hx:=h.en x (hs.subset Xs);have hy:=h.en y (hs.subset Xs);intro e;apply hk;have hN:(0:Int)<A.length:=Xo
  have e1:x.1=y.1:=by
   rcases Yaa x.1 y.1 with q|q|q
   ·have:(x.1+1)*(A.length:Int)≤y.1*(A.length:Int):=Int.mul_le_mul_of_nonneg_right Xo Xo;rw[Int.add_mul,Int.one_mul]at this;omega
   ·exact q
   ·have:(y.1+1)*(A.length:Int)≤x.1*(A.length:Int):=Int.mul_le_mul_of_nonneg_right Xo Xo;rw[Int.add_mul,Int.one_mul]at this;omega
  rw[e1]at e;exact⟨e1,Xo⟩
 have:=ZfG (N:=A.length*A.length) hnd λz hz=>by
  obtain⟨x,hx,rfl⟩:=List.mem_map.1 hz;have hx':=h.en x hx;have h1:(x.1+1)*(A.length:Int)≤(A.length:Int)*(A.length:Int):=Int.mul_le_mul_of_nonneg_right Xo Xo;have h2:0≤x.1*(A.length:Int):=Int.mul_nonneg hx'.1 Xo;rw[Int.add_mul,Int.one_mul]at h1;push_cast;omega
 rwa[YB]at this
theorem Zib(h:OvR nodes alive arcs A M){s:Int×Int×Int}(hs:s∈Zfc M v hops settles):∃a∈inL M v,∃b∈ZS M v,b.1≠a.1/\s=(a.1,b.1,a.2.1+b.2.1)/\s.2.2≤140737488355328:=by
 unfold Zfc at hs;obtain⟨a,ha,hs⟩:=List.mem_flatMap.1 hs;unfold Zdd at hs;obtain⟨h1,h2⟩:=List.mem_filter.1 hs;unfold ZbT at h1;obtain⟨b,hb,rfl⟩:=List.mem_map.1 h1;obtain⟨hb1,hb2⟩:=List.mem_filter.1 hb;unfold ZeB at h2;exact⟨a,ha,b,hb1,of_decide_eq_true hb2,rfl,(of_decide_eq_true h2).1⟩
end Go.Vd


namespace Go.Vd
variable{nodes nodes':List Nod}{alive arcs:Int}{A:List Bool}{L:List OAr}{u v w wt via:Int}
inductive RemR(nodes:List Nod)(alive arcs:Int)(A:List Bool)(L:List OAr)(v:Int):Er×List Nod×Int×Int->Prop
 | bad:¬Z0 A v->RemR nodes alive arcs A L v (.no 7,nodes,alive,arcs)
 | ok (nodes':List Nod):Z0 A v->OvR nodes' (alive-1) (arcs-(((ZS L v).length:Int)+(inL L v).length)) (A.set v.toNat false) (ZeU L v) ->
   RemR nodes alive arcs A L v (.nil,nodes',alive-1,arcs-(((ZS L v).length:Int)+(inL L v).length))
theorem Zpy(h:OvR nodes alive arcs A L)(hv:Z0 A v):T (ZB (λzz_=>Zaq nodes v zz_.1 zz_.2) (nodes,0)) λo =>
  o.length=nodes.length/\∀x,0≤x->x<(nodes.length:Int)->gt o x=((gt nodes x).1,(gt nodes x).2.1,ZeI v (gt nodes x).2.2)∨(x=v/\gt o x=gt nodes x):=by
 have hln:=h.ln;have hsm:=h.sm;have hv1:=hv.2.1;have nv:=h.nd v hv.1 hv.2.1;have eo:(gt nodes v).2.1=ZS L v:=by rw[nv]
 have hol:=h.outLen v
 refine ZK (λz=>z.1.length=nodes.length/\0≤z.2/\z.2≤((ZS L v).length:Int)/\∀x,0≤x->x<(nodes.length:Int)->(gt z.1 x).1=(gt nodes x).1/\(gt z.1 x).2.1=(gt nodes x).2.1 /\
   ((∃k,0≤k/\k<z.2/\(gt (ZS L v) k).1=x)->(gt z.1 x).2.2=ZeI v (gt nodes x).2.2)/\((∀k,0≤k->k<z.2->(gt (ZS L v) k).1≠x)->(gt z.1 x).2.2=(gt nodes x).2.2)) (λz=>(((ZS L v).length:Int)-z.2).toNat) ?_
  ⟨rfl,Xs,Xs,λx _ _=>⟨rfl,rfl,λ⟨k,k0,k1,_⟩=>by dsimp only at k1;omega,λ_=>rfl⟩⟩
 rintro⟨o,i⟩⟨ol,i0,i1,ho⟩;dsimp only at *;unfold Zaq;rw[eo,Zr];refine⟨λhlt=>?_,λhge=>?_⟩
 ·have hm:=ZgK i0 hlt;obtain⟨a1,a2,a3,a4,a5,a6,a7,_⟩:=h.en _ ((Z2 h.kd).1 hm);dsimp only at *;obtain⟨q1,q2,q3,q4⟩:=ho _ a3 Xo;have nx:=h.nd _ a3 a4;have hnv:∀k,0≤k->k<i->(gt (ZS L v) k).1≠(gt (ZS L v) i).1:=λk k0 k1=>by have:=(ZcG L v).gt k0 k1 hlt;omega
  have e2:=q4 hnv;have hwo:=ZjL (l:=(gt o (gt (ZS L v) i).1).2.2) (v:=v) (by rw[e2,nx];exact ZdN L _) (by rw[e2,nx];exact h.inB _) (by rw[e2,nx];exact h.inLen _) hv.1 Xo;simp only[T_G];refine⟨i0,⟨a3,Xo⟩,λe=>a7 e.symm,?_⟩;rw[hwo,Yk];simp only[T_G,Zd,Yo];refine⟨Xo,⟨by simpa using ol,Xo,Xo,λx x0 x1=>?_⟩,Xo⟩;rw[Z3 a3 Xo x0];by_cases e:x=(gt (ZS L v) i).1
  ·rw[if_pos e,e];refine⟨q1,q2,λ_=>by rw[e2],λhn=>absurd rfl (hn i i0 Xo)⟩
  ·rw[if_neg e];obtain⟨r1,r2,r3,r4⟩:=ho x x0 x1;refine⟨r1,r2,λ⟨k,k0,k1,ke⟩=>r3 ⟨k,k0,?_,ke⟩,λhn=>r4 λk k0 k1=>hn k k0 Xo⟩;by_cases q:k=i
   ·rw[q]at ke;exact absurd ke.symm e
   ·omega
 ·simp only[Zd,Yq];refine⟨ol,λx x0 x1=>?_⟩;obtain⟨r1,r2,r3,r4⟩:=ho x x0 x1;by_cases hk:∃k,0≤k/\k<i/\(gt (ZS L v) k).1=x
  ·exact .inl (Prod.ext r1 (Prod.ext r2 (r3 hk)))
  ·have e:=r4 λk k0 k1 ke=>hk ⟨k,k0,k1,ke⟩;refine .inl (Prod.ext r1 (Prod.ext r2 (e.trans ?_)));rw[h.nd x x0 Xo];refine (Zh2 λy hy hyv=>hk ?_).symm;have hm:=(Zay h.kd).1 hy;rw[hyv]at hm;obtain⟨k,k0,k1,ke⟩:=Zas ((Z2 h.kd).2 hm);exact⟨k,k0,Xo,by rw[← ke]⟩
theorem ZpD(h:OvR nodes alive arcs A L)(hv:Z0 A v){o1:List Nod}(l1:o1.length=nodes.length)(h1:∀x,0≤x->x<(nodes.length:Int)->(gt o1 x).2.1=(gt nodes x).2.1):T (ZB (λzz_=>Zal nodes v zz_.1 zz_.2) (o1,0)) λo =>
  o.length=nodes.length/\∀x,0≤x->x<(nodes.length:Int)->gt o x=((gt o1 x).1,ZeI v (gt nodes x).2.1,(gt o1 x).2.2):=by
 have hln:=h.ln;have hsm:=h.sm;have hv1:=hv.2.1;have nv:=h.nd v hv.1 hv.2.1;have eo:(gt nodes v).2.2=inL L v:=by rw[nv]
 have hol:=h.inLen v
 refine ZK (λz=>z.1.length=nodes.length/\0≤z.2/\z.2≤((inL L v).length:Int)/\∀x,0≤x->x<(nodes.length:Int)->(gt z.1 x).1=(gt o1 x).1/\(gt z.1 x).2.2=(gt o1 x).2.2 /\
   ((∃k,0≤k/\k<z.2/\(gt (inL L v) k).1=x)->(gt z.1 x).2.1=ZeI v (gt nodes x).2.1)/\((∀k,0≤k->k<z.2->(gt (inL L v) k).1≠x)->(gt z.1 x).2.1=(gt nodes x).2.1)) (λz=>(((inL L v).length:Int)-z.2).toNat) ?_
  ⟨l1,Xs,Xs,λx x0 x1=>⟨rfl,rfl,λ⟨k,k0,k1,_⟩=>by dsimp only at k1;omega,λ_=>h1 x x0 x1⟩⟩
 rintro⟨o,i⟩⟨ol,i0,i1,ho⟩;dsimp only at *;unfold Zal;rw[eo,Zr];refine⟨λhlt=>?_,λhge=>?_⟩
 ·have hm:=ZgK i0 hlt;obtain⟨a1,a2,a3,a4,a5,a6,a7,_⟩:=h.en _ ((Zay h.kd).1 hm);dsimp only at *;obtain⟨q1,q2,q3,q4⟩:=ho _ a1 Xo;have nx:=h.nd _ a1 a2;have hnv:∀k,0≤k->k<i->(gt (inL L v) k).1≠(gt (inL L v) i).1:=λk k0 k1=>by have:=(ZdN L v).gt k0 k1 hlt;omega
  have e2:=q4 hnv;have hwo:=ZjL (l:=(gt o (gt (inL L v) i).1).2.1) (v:=v) (by rw[e2,nx];exact ZcG L _) (by rw[e2,nx];exact h.outB _) (by rw[e2,nx];exact h.outLen _) hv.1 Xo;simp only[T_G];refine⟨i0,⟨a1,Xo⟩,a7,?_⟩;rw[hwo,Yk];simp only[T_G,Zd,Yo];refine⟨Xo,⟨by simpa using ol,Xo,Xo,λx x0 x1=>?_⟩,Xo⟩;rw[Z3 a1 Xo x0];by_cases e:x=(gt (inL L v) i).1
  ·rw[if_pos e,e];refine⟨q1,q2,λ_=>by rw[e2],λhn=>absurd rfl (hn i i0 Xo)⟩
  ·rw[if_neg e];obtain⟨r1,r2,r3,r4⟩:=ho x x0 x1;refine⟨r1,r2,λ⟨k,k0,k1,ke⟩=>r3 ⟨k,k0,?_,ke⟩,λhn=>r4 λk k0 k1=>hn k k0 Xo⟩;by_cases q:k=i
   ·rw[q]at ke;exact absurd ke.symm e
   ·omega
 ·simp only[Zd,Yq];refine⟨ol,λx x0 x1=>?_⟩;obtain⟨r1,r2,r3,r4⟩:=ho x x0 x1;by_cases hk:∃k,0≤k/\k<i/\(gt (inL L v) k).1=x
  ·exact Prod.ext r1 (Prod.ext (r3 hk) r2)
  ·have e:=r4 λk k0 k1 ke=>hk ⟨k,k0,k1,ke⟩;refine Prod.ext r1 (Prod.ext (e.trans ?_) r2);rw[h.nd x x0 Xo];refine (Zh2 λy hy hyv=>hk ?_).symm;have hm:=(Z2 h.kd).1 hy;have hm':(x,v,y.2)∈L:=by rw[← hyv];exact hm
   obtain⟨k,k0,k1,ke⟩:=Zas ((Zay (x:=(x,y.2)) h.kd).2 hm');exact⟨k,k0,Xo,by rw[← ke]⟩
theorem ZnR(h:OvR nodes alive arcs A L):T (Za0 nodes alive arcs v) (RemR nodes alive arcs A L v):=by
 unfold Za0;rw[Zez h,Yk];by_cases hv:Z0 A v
 ·rw[decide_eq_true hv,if_neg Xd];have hln:=h.ln;have hv1:=hv.2.1;have nv:=h.nd v hv.1 hv1;have hsm:=h.sm;have har:=h.ar;have hal:=h.al;have hlb:=h.lb;have ho:=h.outLen v;have hi:=h.inLen v;have hfl:(A.filter id).length≤A.length:=Yea _ _;simp only[T_G];refine⟨⟨hv.1,Xo⟩,?_⟩;refine Zo _ (Zpy h hv) ?_;rintro o1 ⟨l1,e1⟩;refine Zo _ (ZpD h hv l1 λx x0 x1=>?_) ?_
  ·rcases e1 x x0 x1 with e|⟨_,e⟩ <;> rw[e]
  rintro o2 ⟨l2,e2⟩;have x1:(gt nodes v).2.1=ZS L v:=by rw[nv]
  have x2:(gt nodes v).2.2=inL L v:=by rw[nv]
  rw[x1,x2];simp only[T_G,Zd];refine⟨Xo,Xo,Xo,Xo,.ok _ hv (h.rem hv.1 hv1 hv.2.2 (by rw[Yv,l2]) λx x0 x1=>?_)⟩;rw[Z3 hv.1 Xo x0];by_cases q:x=v
  ·rw[if_pos q,if_pos q]
  ·rw[if_neg q,if_neg q,e2 x x0 Xo];rcases e1 x x0 Xo with e|⟨e,_⟩
   ·rw[e]
   ·exact absurd e q
 ·rw[decide_eq_false hv,if_pos Xd];simp only[Zd];exact .bad hv
inductive NewR(N:Int)(Arcs:List A3):Er⊕(List Nod×Int×Int)->Prop
 | bad (er:Er):GChk N Arcs er->er≠.nil->NewR N Arcs (.inl er)
 | ok (M:List A3) (nodes:List Nod):GChk N Arcs .nil->Nrm Arcs M->M.length≤Arcs.length->OvR nodes N (M.length:Int) (Ym N.toNat true) (M.map up4)->NewR N Arcs (.inr (nodes,N,(M.length:Int)))
theorem ZgI{n:Nat}{x:Int}(x0:0≤x)(x1:x<(n:Int)){E:Type}[Inhabited E]{e:E}:gt (Ym n e) x=e:=by
 unfold gt;rw[Yl,List.getElem?_replicate,if_pos Xo];rfl
theorem Zoa{N:Int}{Arcs:List A3}:T (Zdp N Arcs) (NewR N Arcs):=by
 unfold Zdp;refine Zo _ p_Of ?_;rintro⟨n,M,er⟩ hO;dsimp only at *;cases hO with
 | bad _ hc hne=>rw[if_neg hne];simp only[Zd];exact .bad er hc hne
 | ok _ hc hM hMl =>
  rw[if_pos rfl];obtain⟨n0,n1,n2⟩:=hc.small
  have hb:∀a∈M,0≤a.1/\a.1<N/\0≤a.2.1/\a.2.1<N/\0≤a.2.2/\a.2.2≤2147483647/\a.1≠a.2.1:=λa ha=>by
   obtain⟨s1,s2,_⟩:=hM.sub a ha;have:=hc.arcs a s1;omega
  simp only[T_G];refine⟨Xo,?_⟩
  have hinc:∀i j:Int,0≤i->i<j->j<(M.length:Int)->ltk (gt M i) (gt M j):=λi j i0 ij j1=>by
   have:=List.pairwise_iff_getElem.1 hM.inc i.toNat j.toNat Xo Xo Xo
   have e:∀{n:Int},0≤n->(h:n<(M.length:Int))->gt M n=M[n.toNat]'Xo:=λ{n} q0 q1=>by
    unfold gt;rw[Yl,Yn Xo];rfl
   rw[e i0 Xo,e Xo j1];exact this
  refine Zo (λo=>o.length=N.toNat/\∀x,0≤x->x<N->gt o x=(false,ZS (M.map up4) x,inL (M.map up4) x)) ?_ ?_
  ·refine ZK (λz=>0≤z.1/\z.1≤(M.length:Int)/\z.2.length=N.toNat/\∀x,0≤x->x<N->gt z.2 x=(false,ZS ((M.take z.1.toNat).map up4) x,inL ((M.take z.1.toNat).map up4) x)) (λz=>((M.length:Int)-z.1).toNat) ?_
    ⟨Xs,Xs,Xs,λx x0 x1=>by rw[ZgI x0 Xo];rfl⟩
   rintro⟨i,o⟩⟨i0,i1,ol,ho⟩;dsimp only at *;unfold Zda;dsimp only;rw[Zr];refine⟨λhlt=>?_,λhge=>?_⟩
   ·have hm:gt M i∈M:=by
     unfold gt;rw[Yl,Yn Xo];exact Yia _
    obtain⟨b1,b2,b3,b4,b5,b6,b7⟩:=hb _ hm;have hkd:KD ((M.take i.toNat).map up4):=KD.up (hM.inc.sublist (List.take_sublist _ _))
    have lt1:(ZS ((M.take i.toNat).map up4) (gt M i).1).length≤262144:=by
     have:=ZgY hkd (gt M i).1;rw[YB,YG]at this;omega
    have lt2:(inL ((M.take i.toNat).map up4) (gt M i).2.1).length≤262144:=by
     have:=ZhO hkd (gt M i).2.1;rw[YB,YG]at this;omega
    have hprev:∀a∈(M.take i.toNat).map up4,a.1<(gt M i).1∨(a.1=(gt M i).1/\a.2.1<(gt M i).2.1):=λa ha=>by
     obtain⟨b,hb,rfl⟩:=List.mem_map.1 ha;obtain⟨j,j0,j1,rfl⟩:=Zio (l:=M) i1 hb;exact hinc j i j0 j1 hlt
    have eu:=ho (gt M i).1 b1 b2;have ew:=ho (gt M i).2.1 b3 b4;have hs:∀(z:Nod),gt (o.set ((gt M i).1).toNat z) (gt M i).2.1=gt o (gt M i).2.1:=λz=>by rw[Z3 b1 Xo b3,if_neg (λe=>b7 e.symm)]
    simp only[T_G,Zd,Yo,Yv,hs,eu,ew];refine⟨i0,⟨b1,Xo⟩,⟨b5,Xo⟩,Xo,⟨b3,Xo⟩,Xo,Xo,Xo,⟨Xo,Xo,by simpa using ol,λx x0 x1=>?_⟩,Xo⟩;have hnext:(M.take (i+1).toNat).map up4=(M.take i.toNat).map up4++[up4 (gt M i)]:=by rw[Zep i0 hlt,Y2];rfl
    rw[hnext,Zni,Zn5,Z3 b3 (by rw[Yv];omega) x0,Z3 b1 Xo x0,ho x x0 x1];show _=(false,(if x=(gt M i).1 then Zdl ((gt M i).2.1,(gt M i).2.2,-1) _ else _),(if x=(gt M i).2.1 then Zdl ((gt M i).1,(gt M i).2.2,-1) _ else _));by_cases q:x=(gt M i).2.1
    ·have q2:¬x=(gt M i).1:=λe=>b7 (e.symm.trans q);rw[if_pos q,if_neg q2,if_pos q,← q];rw[ZkB λy hy=>?_];have:=hprev _ ((Zay hkd).1 hy);dsimp only at this ⊢;omega
    ·rw[if_neg q,if_neg q];by_cases q2:x=(gt M i).1
     ·rw[if_pos q2,if_pos q2,← q2];rw[ZkB λy hy=>?_];have:=hprev _ ((Z2 hkd).1 hy);dsimp only at this ⊢;omega
     ·rw[if_neg q2,if_neg q2]
   ·simp only[Zd,Yq];refine⟨ol,λx x0 x1=>?_⟩;rw[ho x x0 x1,YE Xo]
  ·rintro o ⟨ol,ho⟩;simp only[Zd];refine .ok M o hc hM hMl ⟨by rw[ol,Y6],by rw[Y6];omega,KD.up hM.inc,λa ha=>?_,λx x0 x1=>?_,?_,by rw[YB],by rw[YB];omega⟩
   ·obtain⟨b,hb',rfl⟩:=List.mem_map.1 ha;obtain⟨b1,b2,b3,b4,b5,b6,b7⟩:=hb b hb';have hl:((Ym N.toNat true).length:Int)=N:=by rw[Y6];omega
    rw[hl];show 0≤b.1/\b.1<N/\0≤b.2.1/\b.2.1<N/\gt _ b.1=true/\gt _ b.2.1=true/\b.1≠b.2.1/\0≤b.2.2/\b.2.2≤_/\-1≤(-1:Int)/\(-1:Int)<N;exact⟨b1,b2,b3,b4,ZgI b1 Xo,ZgI b3 Xo,b7,b5,Xo,Xo,Xo⟩
   ·rw[Y6]at x1;rw[ho x x0 Xo,ZgI x0 Xo];rfl
   ·rw[List.filter_eq_self.2 λx hx=>by rw[(List.mem_replicate.1 hx).2];rfl,Y6];omega
end Go.Vd


namespace Go.Vd
variable{nodes:List Nod}{alive arcs:Int}{A:List Bool}{M:List OAr}{u v w skip hops settles c N:Int}{a:Hf}
theorem ZoS{nd:List Nod}{al ar:Int}{B:List Bool}{M1:List OAr}(h:OvR nd al ar B M1){s:Int×Int×Int}(hc:ZeT B s.1 s.2.1 s.2.2 v=0){r:Bool×Er×List Nod×Int}(hr:PutR nd al ar B M1 s.1 s.2.1 s.2.2 v r):r.2.1=.nil/\OvR r.2.2.1 al r.2.2.2 B (ZdK v M1 s):=by
 cases hr with
 | bad hn=>exact absurd hc hn
 | less x _ hx e1 e2 e3 =>
  refine⟨rfl,?_⟩;unfold ZdK;rw[if_pos ⟨x,hx,e1,e2,e3⟩];exact h
 | put nd' ar' _ hn h' =>
  refine⟨rfl,?_⟩;unfold ZdK;rw[if_neg]
  ·exact h'
  ·rintro⟨x,hx,e1,e2,e3⟩;have:=hn x hx e1 e2;omega
inductive CtrR(nodes:List Nod)(alive arcs:Int)(A:List Bool)(M:List OAr)(v hops settles:Int):Yd×Er×List Nod×Int×Int->Prop
 | bad:¬Z0 A v->CtrR nodes alive arcs A M v hops settles ([],.no 7,nodes,alive,arcs)
 | ok (nd:List Nod) (al ar:Int):Z0 A v->OvR nd al ar (A.set v.toNat false) (ZeL M v (bnd hops) (bnd settles))->CtrR nodes alive arcs A M v hops settles (Zfc M v (bnd hops) (bnd settles),.nil,nd,al,ar)
theorem Zg4(h:OvR nodes alive arcs A M)(hN:A.length≤900){x1 x2 x3:Int}:T (Zb0 nodes alive arcs v hops settles x1 x2 x3) (CtrR nodes alive arcs A M v hops settles):=by
 unfold Zb0;refine Zo _ (Zmk h) ?_;rintro r (⟨hv,rfl⟩|⟨hv,rfl⟩)
 ·dsimp only;rw[if_neg Xd];simp only[Zd];exact .bad hv
 dsimp only;rw[if_pos rfl];refine Zo _ (ZnR (v:=v) h) ?_;intro r hr;cases hr with
 | bad hn=>exact absurd hv hn
 | ok o' hv' h' =>
  dsimp only;rw[if_pos rfl];generalize hl:Zfc M v (bnd hops) (bnd settles)=l
  have hok:∀s∈l,ZeT (A.set v.toNat false) s.1 s.2.1 s.2.2 v=0/\0≤s.2.2/\-9223372036854775808≤s.2.1/\s.2.1≤9223372036854775807:=λs hs=>by
   rw[← hl]at hs;obtain⟨a,ha,b,hb,hne,rfl,hle⟩:=Zib h hs;have ha':=h.en _ ((Zay h.kd).1 ha);have hb':=h.en _ ((Z2 h.kd).1 hb);dsimp only at ha' hb' hle ⊢;have hsm:=h.sm;have lv:∀x,0≤x->x<(A.length:Int)->gt A x=true->x≠v->Z0 (A.set v.toNat false) x:=λx x0 x1 hx hxv=>⟨x0,by simpa using x1,by rw[ZfY hv.1 hv.2.1 x0,if_neg hxv];exact hx⟩;have l1:=lv a.1 ha'.1 ha'.2.1 ha'.2.2.2.2.1 ha'.2.2.2.2.2.2.1;have l2:=lv b.1 hb'.2.2.1 hb'.2.2.2.1 hb'.2.2.2.2.2.1 (λe=>hb'.2.2.2.2.2.2.1 e.symm);refine⟨?_,Xo,Xo,Xo⟩;unfold ZeT;rw[if_neg (λk=>k ⟨l1,l2⟩),if_neg (λe=>hne e.symm),if_neg Xo,if_neg];rintro (q|q|⟨q,q2⟩)
   ·have:=hv.1;omega
   ·rw[Yv]at q;have:=hv.2.1;omega
   ·have:=q2.2.2;rw[ZfY hv.1 hv.2.1 hv.1,if_pos rfl]at this;cases this
  have hll:l.length≤1000000000000:=by
   rw[← hl];unfold Zfc;rw[List.length_flatMap]
   have:∀l:List Hf,((l.map λa=>(Zdd M v (bnd hops) (bnd settles) a).length).sum)≤l.length*1000000:=λl=>by
    induction l with
    | nil=>simp
    | cons x l ih =>
     have:(Zdd M v (bnd hops) (bnd settles) x).length≤1000000:=by
      unfold Zdd;exact YL (Yea _ _) (YL Zgr (h.outLen v))
     simp only[List.map_cons,List.sum_cons,Yp];omega
   have:=this (inL M v);have h2:=h.inLen v;omega
  refine Zbi (λr=>OvR r.1 (alive-1) r.2 (A.set v.toNat false) (l.foldl (ZdK v) (ZeU M v))) ?_ ?_
  ·refine ZK (λz=>0≤z.2.2/\z.2.2≤(l.length:Int)/\OvR z.1 (alive-1) z.2.1 (A.set v.toNat false) ((l.take z.2.2.toNat).foldl (ZdK v) (ZeU M v))) (λz=>((l.length:Int)-z.2.2).toNat) ?_ ⟨Xs,Xs,h'⟩;rintro⟨o,ar,i⟩⟨i0,i1,ho⟩;dsimp only at *;unfold ZbS;dsimp only;rw[Zr];refine⟨λhlt=>?_,λhge=>?_⟩;rotate_left
   ·simp only[Zd,Yq];rw[YE Xo]at ho;exact ho
   have hm:gt l i∈l:=Zfq i0 hlt;have hs:=Zex i0 hlt;obtain⟨k1,k2,k3,k4⟩:=hok _ hm;generalize gt l i=s at *;have hfew:=ho.few
   have hsq:(A.set v.toNat false).length*(A.set v.toNat false).length≤900*900:=by
    rw[Yv];exact Nat.mul_le_mul hN hN
   rw[T_G];refine⟨i0,?_⟩;refine Zo _ (ZpI (u:=s.1) (w:=s.2.1) (wt:=s.2.2) (via:=v) ho Xo k3 k4 k2) ?_;rintro⟨b,er,o2,ar2⟩ hr;obtain⟨e1,e2⟩:=ZoS ho k1 hr;dsimp only at e1 e2 ⊢;rw[if_pos e1];simp only[T_G,Zd,Yo];refine⟨Xo,⟨Xo,Xo,?_⟩,Xo⟩;rw[hs,List.foldl_append];exact e2
  ·rintro⟨o2,ar2⟩ h2;simp only[Zd];have:=CtrR.ok (nodes:=nodes) (alive:=alive) (arcs:=arcs) (M:=M) (hops:=hops) (settles:=settles) o2 (alive-1) ar2 hv (by unfold ZeL;rw[hl];exact h2);rw[hl]at this;exact this
end Go.Vd


namespace Go.Vd
variable{N i j d:Int}{A L:List A3}
inductive Wk(A:List A3):Int->Int->Int->Prop
 | refl (i:Int):Wk A i i 0
 | step (i u d x w:Int):Wk A i u d->(u,x,w)∈A->Wk A i x (d+w)
theorem Wk.cat{i u v d e:Int}(h:Wk A i u d)(k:Wk A u v e):Wk A i v (d+e):=by
 induction k with
 | refl=>simpa using h
 | step u e x w _ ha ih =>
  have:=ih.step _ _ _ _ w ha;rwa[Int.add_assoc]at this
theorem Wk.one{i j w:Int}(h:(i,j,w)∈A):Wk A i j w:=by
 have:=(Wk.refl i).step _ _ _ j w h;simpa using this
theorem Wk.nrm(k:Nrm A L)(ha:∀a∈A,0≤a.2.2)(h:Wk A i j d):∃e,Wk L i j e/\e≤d:=by
 induction h with
 | refl=>exact⟨0,.refl _,YO _⟩
 | step u e x w _ hm ih =>
  obtain⟨f,h1,h2⟩:=ih;have:=ha _ hm;dsimp only at this;by_cases q:u=x
  ·subst q;exact⟨f,h1,Xo⟩
  ·obtain⟨b,b1,b2⟩:=k.sup _ hm q;have b3:=(k.sub b b1).2.2 _ hm ⟨b2.1.symm,b2.2.symm⟩;have eb:(u,x,b.2.2)=b:=eq3 b2.1.symm b2.2.symm rfl;exact⟨f+b.2.2,h1.step _ _ _ _ _ (by rw[eb];exact b1),by dsimp only at b3;omega⟩
theorem Wk.sub(k:∀a∈L,a∈A)(h:Wk L i j d):Wk A i j d:=by
 induction h with
 | refl=>exact .refl _
 | step u e x w _ hm ih=>exact ih.step _ _ _ _ _ (k _ hm)
theorem Zo9(h:GChk N A .nil):∀a∈A,(0≤a.1/\a.1<N)/\0≤a.2.1/\a.2.1<N/\0≤a.2.2/\a.2.2≤2147483647:=λa ha=>by
 obtain⟨a1,a2,a3,a4,a5,a6⟩:=h.arcs a ha;exact⟨⟨a1,a2⟩,a3,a4,a5,a6⟩
end Go.Vd


namespace Go.Vd
variable{nodes:List Nod}{alive arcs:Int}{A:List Bool}{M:List OAr}{u v w x y d skip hops settles most c N W:Int}{L L':Lab}{row:Int->Yf}{X:List A3}
def a3(M:List OAr):List A3:=M.map λa=>(a.1,a.2.1,a.2.2.1)
theorem ZcM{x y w:Int}:(x,y,w)∈a3 M↔∃a∈M,a.1=x/\a.2.1=y/\a.2.2.1=w:=by
 unfold a3;rw[List.mem_map];constructor
 ·rintro⟨a,ha,e⟩;simp only[Prod.mk.injEq]at e;exact⟨a,ha,e.1,e.2.1,e.2.2⟩
 ·rintro⟨a,ha,rfl,rfl,rfl⟩;exact⟨a,ha,rfl⟩
theorem WR.wk(h:WR row hops settles most c L L')(hr:∀x,x≠skip->∀b∈row x,b.1≠skip/\(x,b.1,b.2)∈X):(∀x y,L x=some y->x≠skip/\Wk X u x y.1)->∀x y,L' x=some y->x≠skip/\Wk X u x y.1:=by
 induction h with
 | full=>exact λk=>k
 | none=>exact λk=>k
 | far=>exact λk=>k
 | go c L v y L' _ hp _ _ ih =>
  intro hL;refine ih ?_;obtain⟨v1,v2⟩:=hL v y hp.1
  have h1:∀x z,lup L v (y.1,y.2.1,1) x=some z->x≠skip/\Wk X u x z.1:=λx z hz=>by
   unfold lup at hz;by_cases e:x=v
   ·rw[if_pos e]at hz;cases hz;rw[e];exact⟨v1,v2⟩
   ·rw[if_neg e]at hz;exact hL x z hz
  have key:∀(l:Yf) (K:Lab),(∀b∈l,b.1≠skip/\(v,b.1,b.2)∈X)->(∀x z,K x=some z->x≠skip/\Wk X u x z.1)->∀x z,l.foldl (ZfI y.1 y.2.1) K x=some z->x≠skip/\Wk X u x z.1:=by
   intro l;induction l with
   | nil=>intro K _ hK;exact hK
   | cons b l ih2 =>
    intro K hl hK;refine ih2 _ (λb' hb'=>hl b' (by simp[hb'])) λx z hz=>?_;unfold ZfI at hz;split at hz
    ·unfold lup at hz;by_cases e:x=b.1
     ·rw[if_pos e]at hz;cases hz;obtain⟨b1,b2⟩:=hl b Xs;rw[e];exact⟨b1,v2.step _ _ _ _ _ b2⟩
     ·rw[if_neg e]at hz;exact hK x z hz
    ·exact hK x z hz
  unfold Ziw;split
  ·exact h1
  ·exact key _ _ (hr v v1) h1
theorem Zo3(h:KD M):∀x,x≠skip->∀b∈Ze5 M skip x,b.1≠skip/\(x,b.1,b.2)∈a3 (ZeU M skip):=λx hx b hb=>by
 unfold Ze5 at hb;obtain⟨z,hz,rfl⟩:=List.mem_map.1 hb;obtain⟨h1,h2⟩:=List.mem_filter.1 hz;have h3:=of_decide_eq_true h2;exact⟨h3,ZcM.2 ⟨(x,z),Zck.2 ⟨(Z2 h).1 h1,hx,h3⟩,rfl,rfl,rfl⟩⟩
theorem ZpE(h:OvR nodes alive arcs A M)(hu:Z0 A u)(hus:u≠skip)(hset:settles≤9223372036854775807){z:Int×Int×Int}(hz:ZiB M skip hops settles most u x=some z):x≠skip/\Wk (a3 (ZeU M skip)) u x z.1:=by
 obtain⟨r,_,hR⟩:=Zol (skip:=skip) (hops:=hops) (most:=most) h hu.1 hu.2.1 hset
 have:=hR.wk (u:=u) (Zo3 h.kd) λx y hy=>by
  unfold ZfK lup at hy;by_cases e:x=u
  ·rw[if_pos e]at hy;cases hy;rw[e];exact⟨hus,.refl _⟩
  ·rw[if_neg e]at hy;cases hy
 rw[hR.fin]at this;exact this x z hz
def Has3(M:List OAr)(x y w:Int):Prop:=∃a∈M,a.1=x/\a.2.1=y/\a.2.2.1≤w
theorem Zo6{s:Int×Int×Int}(h:Has3 M x y w):Has3 (ZdK v M s) x y w:=by
 unfold ZdK;split
 ·exact h
 ·rename_i hn
  obtain⟨a,ha,e1,e2,e3⟩:=h;by_cases k:a.1=s.1/\a.2.1=s.2.1
  ·refine⟨_,ZdF.2 (.inl rfl),by rw[← e1,k.1],by rw[← e2,k.2],?_⟩;have:¬a.2.2.1≤s.2.2:=λq=>hn ⟨a,ha,k.1,k.2,q⟩;dsimp only;omega
  ·exact⟨a,ZdF.2 (.inr ⟨ha,k⟩),e1,e2,e3⟩
theorem Zns{s:Int×Int×Int}:Has3 (ZdK v M s) s.1 s.2.1 s.2.2:=by
 unfold ZdK;split
 ·rename_i h;exact h
 ·exact⟨_,ZdF.2 (.inl rfl),rfl,rfl,YO _⟩
theorem ZnF{s:Int×Int×Int}{a:OAr}(h:a∈ZdK v M s):a∈M∨(a.1=s.1/\a.2.1=s.2.1/\a.2.2.1=s.2.2):=by
 unfold ZdK at h;split at h
 ·exact .inl h
 ·rcases ZdF.1 h with rfl|⟨h,_⟩
  ·exact .inr ⟨rfl,rfl,rfl⟩
  ·exact .inl h
theorem Zid:∀{l:Yd} {M:List OAr},Has3 M x y w->Has3 (l.foldl (ZdK v) M) x y w:=by
 intro l;induction l with
 | nil=>intro M h;exact h
 | cons s l ih=>intro M h;exact ih (Zo6 h)
theorem ZnH:∀{l:Yd} {M:List OAr} {s:Int×Int×Int},s∈l->Has3 (l.foldl (ZdK v) M) s.1 s.2.1 s.2.2:=by
 intro l;induction l with
 | nil=>intro M s h;cases h
 | cons s0 l ih =>
  intro M s h;rcases List.mem_cons.1 h with rfl|h
  ·show Has3 (l.foldl (ZdK v) (ZdK v M s)) s.1 s.2.1 s.2.2;exact Zid Zns
  ·exact ih h
theorem Zla:∀{l:Yd} {M:List OAr} {a:OAr},a∈l.foldl (ZdK v) M->a∈M∨∃s∈l,a.1=s.1/\a.2.1=s.2.1/\a.2.2.1=s.2.2:=by
 intro l;induction l with
 | nil=>intro M a h;exact .inl h
 | cons s0 l ih =>
  intro M a h;rcases ih h with h|⟨s,hs,e⟩
  ·rcases ZnF h with h|h
   ·exact .inl h
   ·exact .inr ⟨s0,Xs,h⟩
  ·exact .inr ⟨s,by simp[hs],e⟩
theorem Has3.wk(h:Has3 M x y w):∃e,Wk (a3 M) x y e/\e≤w:=by
 obtain⟨a,ha,e1,e2,e3⟩:=h;exact⟨a.2.2.1,.one (ZcM.2 ⟨a,ha,e1,e2,rfl⟩),e3⟩
theorem ZnM(h:OvR nodes alive arcs A M)(k:Wk (a3 (ZeL M v hops settles)) x y d):Wk (a3 M) x y d:=by
 induction k with
 | refl=>exact .refl _
 | step p e q t _ hm ih =>
  obtain⟨a,ha,e1,e2,e3⟩:=ZcM.1 hm;rcases Zla ha with ha|⟨s,hs,f1,f2,f3⟩
  ·exact ih.step _ _ _ _ _ (ZcM.2 ⟨a,(Zck.1 ha).1,e1,e2,e3⟩)
  ·obtain⟨i,hi,o,ho,hne,rfl,_⟩:=Zib h hs;have h1:=ih.step _ _ _ v i.2.1 (ZcM.2 ⟨(i.1,v,i.2),(Zay h.kd).1 hi,by rw[← e1,f1],rfl,rfl⟩);have h2:=h1.step _ _ _ q o.2.1 (ZcM.2 ⟨(v,o),(Z2 h.kd).1 ho,rfl,by rw[← e2,f2],rfl⟩);rw[← e3,f3,← Int.add_assoc];exact h2
theorem Zpz(h:OvR nodes alive arcs A M)(hset:settles≤9223372036854775807)(hW:∀a∈M,a.2.2.1≤70368744177664)(hx:x≠v)(k:Wk (a3 M) x y d) :
  (y≠v->∃e,Wk (a3 (ZeL M v hops settles)) x y e/\e≤d)/\(y=v->∃p e t,Wk (a3 (ZeL M v hops settles)) x p e/\(p,v,t)∈a3 M/\e+t≤d):=by
 have old:∀{p q t:Int},p≠v->q≠v->(p,q,t)∈a3 M->Has3 (ZeL M v hops settles) p q t:=λ{p q t} hp hq hm=>by
  obtain⟨a,ha,e1,e2,e3⟩:=ZcM.1 hm;exact Zid ⟨a,Zck.2 ⟨ha,by rw[e1];exact hp,by rw[e2];exact hq⟩,e1,e2,Xo⟩
 have oldW:∀{p q e:Int},Wk (a3 (ZeU M v)) p q e->∃f,Wk (a3 (ZeL M v hops settles)) p q f/\f≤e:=λ{p q e} kk=>by
  induction kk with
  | refl=>exact⟨0,.refl _,YO _⟩
  | step r e' s t _ hm ih =>
   obtain⟨f,f1,f2⟩:=ih;obtain⟨a,ha,e1,e2,e3⟩:=ZcM.1 hm;obtain⟨ha1,ha2,ha3⟩:=Zck.1 ha;obtain⟨g,g1,g2⟩:=(old (by rw[← e1];exact ha2) (by rw[← e2];exact ha3) (ZcM.2 ⟨a,ha1,e1,e2,e3⟩)).wk;exact⟨f+g,f1.cat g1,Xo⟩
 induction k with
 | refl=>exact⟨λ_=>⟨0,.refl _,YO _⟩,λe=>absurd e hx⟩
 | step p d q t kk hm ih =>
  obtain⟨a,ha,e1,e2,e3⟩:=ZcM.1 hm;have hen:=h.en a ha;by_cases hp:p=v
  ·obtain⟨r,e,t1,r1,r2,r3⟩:=ih.2 hp;have hqv:q≠v:=λe=>hen.2.2.2.2.2.2.1 (by rw[e1,e2,hp,e]);refine⟨λ_=>?_,λe=>absurd e hqv⟩;obtain⟨b,hb,f1,f2,f3⟩:=ZcM.1 r2;have hen2:=h.en b hb;have hrv:r≠v:=λe=>hen2.2.2.2.2.2.2.1 (by rw[f1,f2,e]);have w1:=hW a ha;have w2:=hW b hb;by_cases hrq:r=q
   ·exact⟨e,by rw[← hrq];exact r1,Xo⟩
   ·have hbi:(b.1,b.2.2)∈inL M v:=(Zay h.kd).2 (by
     have:((b.1,b.2.2).1,v,(b.1,b.2.2).2)=b:=Prod.ext rfl (Prod.ext f2.symm rfl);rw[this];exact hb)
    have hao:a.2∈ZS M v:=(Z2 h.kd).2 (by
     have:(v,a.2)=a:=Prod.ext (by rw[e1,hp]) rfl;rw[this];exact ha)
    have hso:(b.1,a.2.1,b.2.2.1+a.2.2.1)∈ZbT (b.1,b.2.2) (ZS M v):=by
     unfold ZbT;exact List.mem_map.2 ⟨a.2,List.mem_filter.2 ⟨hao,decide_eq_true λe=>hrq (by rw[← f1,← e2];exact e.symm)⟩,rfl⟩
    have fin:Has3 (ZeL M v hops settles) b.1 a.2.1 (b.2.2.1+a.2.2.1)∨∃g,Wk (a3 (ZeL M v hops settles)) b.1 a.2.1 g/\g≤b.2.2.1+a.2.2.1:=by
     by_cases hk:ZeB M (ZiB M v hops settles (Zfe (ZbT (b.1,b.2.2) (ZS M v))) b.1) (b.1,a.2.1,b.2.2.1+a.2.2.1)=true
     ·have hs:(b.1,a.2.1,b.2.2.1+a.2.2.1)∈Zfc M v hops settles:=List.mem_flatMap.2 ⟨_,hbi,List.mem_filter.2 ⟨hso,hk⟩⟩;exact .inl (ZnH hs)
     ·unfold ZeB at hk;rw[decide_eq_true_iff]at hk;dsimp only at hk;by_cases hfar:far (ZiB M v hops settles (Zfe (ZbT (b.1,b.2.2) (ZS M v))) b.1) a.2.1>b.2.2.1+a.2.2.1
      ·have:∃z∈M,z.1=b.1/\z.2.1=a.2.1/\z.2.2.1≤b.2.2.1+a.2.2.1:=by
        refine Classical.not_not.1 λq=>hk ⟨Xo,hfar,q⟩
       obtain⟨z,hz,g1,g2,g3⟩:=this;exact .inl (Zid ⟨z,Zck.2 ⟨hz,by rw[g1,f1];exact hrv,by rw[g2,e2];exact hqv⟩,g1,g2,g3⟩)
      ·unfold far at hfar;split at hfar
       ·rename_i hs
        obtain⟨z,hz⟩:=Option.isSome_iff_exists.1 hs;rw[hz]at hfar;obtain⟨_,kw⟩:=ZpE h ⟨hen2.1,hen2.2.1,hen2.2.2.2.2.1⟩ (by rw[f1];exact hrv) hset hz;obtain⟨g,g1,g2⟩:=oldW kw;exact .inr ⟨g,g1,by dsimp only[Yha]at hfar;omega⟩
       ·omega
    have fin2:∃g,Wk (a3 (ZeL M v hops settles)) r q g/\g≤t1+t:=by
     rw[f1,e2,f3,e3]at fin;rcases fin with fin|fin
     ·exact fin.wk
     ·exact fin
    obtain⟨g,g1,g2⟩:=fin2;exact⟨e+g,r1.cat g1,Xo⟩
  ·obtain⟨e,r1,r2⟩:=ih.1 hp;refine⟨λhq=>?_,λhq=>⟨p,e,t,r1,by rw[← hq];exact hm,Xo⟩⟩;obtain⟨g,g1,g2⟩:=(old hp hq hm).wk;exact⟨e+g,r1.cat g1,Xo⟩
theorem ctr_w(h:OvR nodes alive arcs A M)(hW:∀a∈M,a.2.2.1≤W)(W0:0≤W):∀a∈ZeL M v hops settles,a.2.2.1≤2*W:=λa ha=>by
 rcases Zla ha with ha|⟨s,hs,f1,f2,f3⟩
 ·have:=hW a (Zck.1 ha).1;omega
 ·obtain⟨i,hi,o,ho,_,rfl,_⟩:=Zib h hs;have h1:=hW _ ((Zay h.kd).1 hi);have h2:=hW _ ((Z2 h.kd).1 ho);dsimp only at h1 h2 f3;omega
end Go.Vd


namespace Go.Vd
variable{N UF DF:List Int}{U D:List B4}
def RkN(N l:List Int):Prop:=(l.length:Int)=N.length/\∀r,0≤r->r<(N.length:Int)->gt l (gt N r)=r
theorem ZdZ(o:ZcY N){v:Int}(v0:0≤v)(v1:v<(N.length:Int)):∃r,0≤r/\r<(N.length:Int)/\gt N r=v:=by
 refine Yga λhn=>?_
 have nd:N.Nodup:=by
  rw[List.nodup_iff_pairwise_ne,List.pairwise_iff_getElem];intro i j hi hj hij e;have e1:gt N (i:Int)=N[i]:=Zdh hi;have e2:gt N (j:Int)=N[j]:=Zdh hj;have:=o.2 (i:Int) (j:Int) Xo Xo Xo Xo (by rw[e1,e2];exact e);omega
 have:=ZfG (N:=N.length) (l:=v::N) (List.nodup_cons.2 ⟨λhm=>?_,nd⟩) λx hx=>?_
 ·simp only[Yp]at this;omega
 ·obtain⟨r,r0,r1,rfl⟩:=Zas hm;exact hn ⟨r,r0,r1,rfl⟩
 ·rcases List.mem_cons.1 hx with rfl|hx
  ·exact⟨v0,v1⟩
  ·obtain⟨r,r0,r1,rfl⟩:=Zas hx;exact o.1 r r0 r1
theorem RkN.at{l:List Int}(h:RkN N l)(o:ZcY N){v:Int}(v0:0≤v)(v1:v<(N.length:Int)):0≤gt l v/\gt l v<(N.length:Int)/\gt N (gt l v)=v:=by
 obtain⟨r,r0,r1,e⟩:=ZdZ o v0 v1;have:=h.2 r r0 r1;rw[e]at this;rw[this];exact⟨r0,r1,e⟩
end Go.Vd


namespace Go.Vd
variable{nodes:List Nod}{alive arcs:Int}{A:List Bool}{M:List OAr}{u v w x y d hops settles:Int}{N:Nat}{l:List Int}
def alA(N:Nat)(l:List Int):Nat->List Bool
 | 0=>Ym N true
 | i+1=>(alA N l i).set (gt l (i:Int)).toNat false
noncomputable def alM(M:List OAr)(l:List Int)(h s:Int):Nat->List OAr
 | 0=>M
 | i+1=>ZeL (alM M l h s i) (gt l (i:Int)) h s
theorem ZdJ:∀{i:Nat},(alA N l i).length=N:=by
 intro i;induction i with
 | zero=>simp[alA]
 | succ i ih=>simp[alA,ih]
theorem Zjg(o:ZcY l)(hl:l.length=N)(x0:0≤x)(x1:x<(N:Int)):∀{i:Nat},i≤N->(gt (alA N l i) x=true↔∀j:Int,0≤j->j<i->gt l j≠x):=by
 intro i;induction i with
 | zero =>
  intro _;refine⟨λ_ j j0 j1=>Xo,λ_=>?_⟩;show gt (Ym N true) x=true;rw[ZgI x0 x1]
 | succ i ih =>
  intro hi;have ih':=ih Xo;have hv:=o.1 (i:Int) Xo Xo;have e:gt (alA N l (i+1)) x=if x=gt l (i:Int) then false else gt (alA N l i) x:=ZfY hv.1 (by rw[ZdJ];omega) x0;rw[e];by_cases q:x=gt l (i:Int)
  ·rw[if_pos q];refine⟨λh=>(by cases h),λh=>absurd q.symm (h (i:Int) Xo Xo)⟩
  ·rw[if_neg q,ih'];refine⟨λh j j0 j1=>?_,λh j j0 j1=>h j j0 Xo⟩;by_cases e:j=(i:Int)
   ·rw[e];exact λk=>q k.symm
   ·exact h j j0 Xo
theorem Zjt(o:ZcY l)(hl:l.length=N){i:Nat}(hi:i<N):Z0 (alA N l i) (gt l (i:Int)):=by
 have hv:=o.1 (i:Int) Xo Xo;refine⟨hv.1,by rw[ZdJ];omega,(Zjg o hl hv.1 Xo Xo).2 λj j0 j1 e=>?_⟩;have:=o.2 j (i:Int) j0 Xo Xo Xo e;omega
theorem al_ov(h0:OvR nodes alive arcs (Ym N true) M)(o:ZcY l)(hl:l.length=N)(hN:N≤900):∀{i:Nat},i≤N->∃nd al ar,OvR nd al ar (alA N l i) (alM M l (bnd hops) (bnd settles) i):=by
 intro i;induction i with
 | zero=>intro _;exact⟨_,_,_,h0⟩
 | succ i ih =>
  intro hi;obtain⟨nd,al,ar,h⟩:=ih Xo;obtain⟨r,_,hr⟩:=Zg4 (v:=gt l (i:Int)) (hops:=hops) (settles:=settles) h (by rw[ZdJ];omega) (x1:=0) (x2:=0) (x3:=0);cases hr with
  | bad hn=>exact absurd (Zjt o hl Xo) hn
  | ok nd' al' ar' _ h'=>exact⟨nd',al',ar',h'⟩
noncomputable def alG(M:List OAr)(l:List Int)(h s:Int)(i:Nat):List (Int×List Hf×List Hf):=(List.range i).map λ(j:Nat)=>(gt l (j:Int),ZS (alM M l h s j) (gt l (j:Int)),inL (alM M l h s j) (gt l (j:Int)))
theorem alG_s{h s:Int}{i:Nat}:alG M l h s (i+1)=alG M l h s i++[(gt l (i:Int),ZS (alM M l h s i) (gt l (i:Int)),inL (alM M l h s i) (gt l (i:Int)))]:=by
 unfold alG;rw[List.range_succ,Y2];rfl
theorem ZlO{h s:Int}{i:Nat}:(alG M l h s i).length=i:=by unfold alG;simp
theorem Zpx{h s:Int}{i:Nat}{r:Int}(r0:0≤r)(r1:r<(i:Int)):gt (alG M l h s i) r=(gt l r,ZS (alM M l h s r.toNat) (gt l r),inL (alM M l h s r.toNat) (gt l r)):=by
 unfold alG gt;rw[Yl,Yfa,List.getElem?_range Xo];simp only[Yda,Yha];rw[show ((r.toNat:Nat):Int).toNat=r.toNat from Xo]
theorem ZlH{L:List Hf}(h:L.length≤1000000):ZdR L=some L:=by
 refine Zfb.1 ?_;unfold ZdR;refine Zo (λr=>r=L) ?_ λr hr=>by simp only[Zd];exact hr
 refine ZK (λz=>0≤z.2/\z.2≤(L.length:Int)/\z.1=L.take z.2.toNat) (λz=>((L.length:Int)-z.2).toNat) ?_ ⟨Xs,Xs,Xs⟩;rintro⟨m,i⟩⟨i0,i1,e⟩;dsimp only at *;unfold Zdw;simp only[Zr,T_G,Zd,Yo,Yq];refine⟨λhlt=>⟨i0,?_,Xo,⟨Xo,Xo,?_⟩,Xo⟩,λhge=>?_⟩
 ·rw[e,YG];omega
 ·rw[Zex i0 hlt,e]
 ·rw[e,YE Xo]
theorem ZjJ{n:Int}:bnd (max 0 (min n 1048576))=bnd n:=by unfold bnd;omega
theorem Zln(h:OvR nodes alive arcs A M)(hA:A.length≤9)(hv:Z0 A v){x1 x2 x3 k:Int}{X:List (Int×List Hf×List Hf)}(hX:X.length≤1000)(k0:0≤k)(k1:k≤2000) :
  T (Zbm hops settles x1 x2 x3 nodes alive arcs X k v) λr=>∃nd al ar,r=(v,.nil,nd,al,ar,X++[(v,ZS M v,inL M v)],k+((ZS M v).length+(inL M v).length:Int))/\OvR nd al ar (A.set v.toNat false) (ZeL M v (bnd hops) (bnd settles)):=by
 have hf:=h.few;have hq:A.length*A.length≤9*9:=Nat.mul_le_mul hA hA;have ho:=ZgY h.kd v;have hi:=ZhO h.kd v;unfold Zbm;rw[Zkh h,Yk,ZlH Xo,Yk,p_In h,Yk,ZlH Xo,Yk];simp only[T_G];refine⟨Xo,Xo,Xo,?_⟩;refine Zo _ (Zg4 (v:=v) h Xo) ?_;intro r hr;cases hr with
 | bad hn=>exact absurd hv hn
 | ok nd al ar _ h' =>
  dsimp only;rw[if_pos rfl];unfold Zdu ZaP;have hf':=h'.few;rw[Yv]at hf';have har:=h'.ar;rw[Yk,Zf3,T_G,Zr];refine⟨Xo,λq=>Xo,λ_=>?_⟩;simp only[Zd];exact⟨nd,al,ar,rfl,h'⟩
theorem Zna(h:OvR nodes alive arcs A M)(hA:A.length≤9):M.length≤81:=by
 have hf:=h.few;have hq:A.length*A.length≤9*9:=Nat.mul_le_mul hA hA;omega
theorem Zn2(h0:OvR nodes alive arcs (Ym N true) M)(o:ZcY l)(hl:l.length=N)(hN:N≤9){y69:Int×Int×Int×Int×Int×List Nod×Int×Int} :
  T (ZB (λzz_=>Zcp l y69 zz_.1 zz_.2.1 zz_.2.2.1 zz_.2.2.2.1 zz_.2.2.2.2.1 zz_.2.2.2.2.2) (0,nodes,alive,arcs,[],0)) λr=>∃nd al ar k,r=.inr (nd,al,ar,alG M l (bnd y69.1) (bnd y69.2.1) N,k):=by
 refine ZK (λz=>∃i:Nat,z.1=(i:Int)/\i≤N/\OvR z.2.1 z.2.2.1 z.2.2.2.1 (alA N l i) (alM M l (bnd y69.1) (bnd y69.2.1) i)/\z.2.2.2.2.1=alG M l (bnd y69.1) (bnd y69.2.1) i/\0≤z.2.2.2.2.2/\z.2.2.2.2.2≤162*(i:Int)) (λz=>((N:Int)-z.1).toNat) ?_ ⟨0,rfl,Xo,h0,rfl,Xs,Xs⟩;rintro⟨z1,nd,al,ar,X,k⟩⟨i,rfl,hi,h,hX,k0,k1⟩;dsimp only at *;subst hX;unfold Zcp;rw[Zr];refine⟨λhlt=>?_,λhge=>?_⟩;rotate_left
 ·simp only[Zd,Yq];obtain rfl:i=N:=Xo;exact⟨nd,al,ar,k,rfl⟩
 rw[T_G];refine⟨Xo,Zo _ (Zln h (by rw[ZdJ];omega) (Zjt o hl Xo) (by rw[ZlO];omega) k0 Xo) ?_⟩;rintro r ⟨nd',al',ar',rfl,h'⟩;have f1:=Zna h (by rw[ZdJ];omega);have ho:=ZgY h.kd (gt l (i:Int));have hn:=ZhO h.kd (gt l (i:Int));dsimp only;rw[if_pos rfl,T_G];refine⟨Xo,?_⟩;simp only[Zd,Yo];exact⟨⟨i+1,Xo,Xo,h',alG_s.symm,Xo,Xo⟩,Xo⟩
theorem Zmb{n:Int}(hl:l.length≤1000000):T (Zb2 l n) λer=>er=.nil->ZcY l/\(l.length:Int)=n:=by
 unfold Zb2;rw[Zr];refine⟨λe=>?_,λ_=>Xs⟩;subst e;rw[T_G];refine⟨Xo,Zbi (λ_=>ZcY l) ?_ λ_ h=>by simp only[Zd];exact λ_=>⟨h,trivial⟩⟩;refine ZK (λz=>0≤z.1/\z.1≤(l.length:Int)/\(z.2.length:Int)=l.length/\(∀r,0≤r->r<z.1->0≤gt l r/\gt l r<(l.length:Int))/\(∀r r',0≤r->r<r'->r'<z.1->gt l r≠gt l r')/\∀r,0≤r->r<z.1->gt z.2 (gt l r)>0) (λz=>((l.length:Int)-z.1).toNat) ?_ ⟨Xs,Xs,Xs,λr r0 r1=>by dsimp only at r1;omega,λr r' r0 r1 r2=>by dsimp only at r2;omega,λr r0 r1=>by dsimp only at r1;omega⟩;rintro⟨i,sn⟩⟨i0,i1,ls,h1,h2,h3⟩;dsimp only at *;unfold Zcf;rw[ZiU,Zr];refine⟨λhi=>?_,λhi=>?_⟩;rotate_left
 ·simp only[Zd,Yq];refine⟨λr r0 r1=>h1 r r0 Xo,λr r' r0 r1 q0 q1 e=>?_⟩;rcases Yaa r r' with q|q|q
  ·exact absurd e (h2 r r' r0 q Xo)
  ·exact q
  ·exact absurd e.symm (h2 r' r q0 q Xo)
 rw[T_G];refine⟨i0,Zo (λo=>o=false->(0≤gt l i/\gt l i<(l.length:Int))/\¬gt sn (gt l i)>0) ?_ λo ho=>?_⟩
 ·simp only[T_G,Zr,Zd];refine⟨λ_=>Xs,λh0=>⟨λ_=>Xs,λhlt=>⟨Xo,λh=>⟨Xo,by simpa using h⟩⟩⟩⟩
 rw[Zr];refine⟨λ_=>Xs,λhne=>?_⟩;obtain⟨a1,a2⟩:=ho (by simpa using hne);simp only[T_G,Zd,Yo];refine⟨Xo,Xo,⟨Xo,Xo,by simpa using ls,λr r0 r1=>?_,λr r' r0 r1 r2=>?_,λr r0 r1=>?_⟩,Xo⟩
 ·by_cases e:r=i
  ·subst e;exact a1
  ·exact h1 r r0 Xo
 ·by_cases e:r'=i
  ·subst e;intro q;have:=h3 r r0 r1;rw[q]at this;omega
  ·exact h2 r r' r0 r1 Xo
 ·by_cases e:r=i
  ·subst e;rw[Z3 a1.1 Xo a1.1,if_pos rfl];omega
  ·have q:=h1 r r0 Xo;rw[Z3 a1.1 Xo q.1];split
   ·omega
   ·exact h3 r r0 Xo
end Go.Vd


namespace Go.Vd
variable{nodes:List Nod}{alive arcs:Int}{A:List Bool}{M:List OAr}{u v w x y d hops settles h s t W:Int}{N i j:Nat}{l:List Int}{a:OAr}
theorem ZmM{s:Int×Int×Int}{a:OAr}(h:a∈ZdK v M s):a∈M∨a=(s.1,s.2.1,s.2.2,v):=by
 unfold ZdK at h;split at h
 ·exact .inl h
 ·rcases ZdF.1 h with h|⟨h,_⟩
  ·exact .inr h
  ·exact .inl h
theorem Zm7:∀{l:Yd} {M:List OAr} {a:OAr},a∈l.foldl (ZdK v) M->a∈M∨∃s∈l,a=(s.1,s.2.1,s.2.2,v):=by
 intro l;induction l with
 | nil=>intro M a h;exact .inl h
 | cons s0 l ih =>
  intro M a h;rcases ih h with h|⟨s,hs,e⟩
  ·rcases ZmM h with h|h
   ·exact .inl h
   ·exact .inr ⟨s0,Xs,h⟩
  ·exact .inr ⟨s,by simp[hs],e⟩
theorem Zk9(hov:∀k:Nat,k≤N->∃nd al ar,OvR nd al ar (alA N l k) (alM M l h s k)):∀{i:Nat},i≤N->∀a∈alM M l h s i,a∈M∨∃k:Nat,k<i/\a.2.2.2=gt l (k:Int)/\∃b∈inL (alM M l h s k) (gt l (k:Int)),∃c∈ZS (alM M l h s k) (gt l (k:Int)),b.1=a.1/\c.1=a.2.1/\a.2.2.1=b.2.1+c.2.1:=by
 intro i;induction i with
 | zero=>intro _ a ha;exact .inl ha
 | succ i ih =>
  intro hi a ha;obtain⟨nd,al,ar,hO⟩:=hov i Xo;rcases Zm7 (v:=gt l (i:Int)) ha with ha|⟨s',hs,rfl⟩
  ·rcases ih Xo a (Zck.1 ha).1 with h|⟨k,hk,e⟩
   ·exact .inl h
   ·exact .inr ⟨k,Xo,e⟩
  ·obtain⟨b,hb,c,hc,_,rfl,_⟩:=Zib hO hs;exact .inr ⟨i,Xo,rfl,b,hb,c,hc,rfl,rfl,rfl⟩
theorem Zov(hij:i≤j)(hx:∀k:Int,i≤k->k<j->gt l k≠x)(hy:∀k:Int,i≤k->k<j->gt l k≠y)(h3:Has3 (alM M l h s i) x y w):Has3 (alM M l h s j) x y w:=by
 induction j with
 | zero =>
  obtain rfl:i=0:=Xo;exact h3
 | succ j ih =>
  by_cases e:i=j+1
  ·subst e;exact h3
  ·obtain⟨a,ha,e1,e2,e3⟩:=ih Xo (λk k0 k1=>hx k k0 Xo) λk k0 k1=>hy k k0 Xo;have n1:=hx (j:Int) Xo Xo;have n2:=hy (j:Int) Xo Xo;exact Zid ⟨a,Zck.2 ⟨ha,by rw[e1];exact λq=>n1 q.symm,by rw[e2];exact λq=>n2 q.symm⟩,e1,e2,e3⟩
theorem al_w(hov:∀k:Nat,k≤N->∃nd al ar,OvR nd al ar (alA N l k) (alM M l h s k))(h0:∀a∈M,a.2.2.1≤2147483647):∀{i:Nat},i≤N->∀a∈alM M l h s i,a.2.2.1≤2147483647*2 ^ i:=by
 intro i;induction i with
 | zero=>intro _ a ha;have:=h0 a ha;omega
 | succ i ih =>
  intro hi a ha;obtain⟨nd,al,ar,hO⟩:=hov i Xo;have:=ctr_w (W:=2147483647*2 ^ i) hO (ih Xo) (Int.mul_nonneg Xo (Int.pow_nonneg Xo)) a ha;rw[Int.pow_succ];omega
theorem al_w9(hN:N≤9)(hov:∀k:Nat,k≤N->∃nd al ar,OvR nd al ar (alA N l k) (alM M l h s k))(h0:∀a∈M,a.2.2.1≤2147483647)(hi:i≤N):∀a∈alM M l h s i,a.2.2.1≤70368744177664:=λa ha=>by
 have h1:=al_w hov h0 hi a ha;have:∀i:Nat,i≤9->(2:Int) ^ i≤512:=Xd
 have h2:=this i Xo;omega
theorem ZlN(hov:∀k:Nat,k≤N->∃nd al ar,OvR nd al ar (alA N l k) (alM M l h s k)):∀{i:Nat},i≤N->Wk (a3 (alM M l h s i)) x y d->Wk (a3 M) x y d:=by
 intro i;induction i with
 | zero=>intro _ k;exact k
 | succ i ih =>
  intro hi k;obtain⟨nd,al,ar,hO⟩:=hov i Xo;exact ih Xo (ZnM hO k)
structure Gn(l R:List Int)(up dn:Int->List Hf)(n:Int):Prop where
 ln:(l.length:Int)=n
 n9:n≤9
 od:ZcY l
 rk:RkN l R
 ris:∀r,0≤r->r<n->Ris (up r)/\Ris (dn r)/\(up r).length≤81/\(dn r).length≤81
 en:∀r,0≤r->r<n->∀h,h∈up r∨h∈dn r->(0≤h.1/\h.1<n)/\r<gt R h.1/\0≤h.2.1/\h.2.1≤140737488355328/\(h.2.2<0->h.2.1≤2147483647)
 ku:∀r,0≤r->r<n->∀h∈up r,0≤h.2.2->∃k b c,0≤k/\k<r/\h.2.2=gt l k/\b∈dn k/\c∈up k/\b.1=gt l r/\c.1=h.1/\h.2.1=b.2.1+c.2.1
 kd:∀r,0≤r->r<n->∀h∈dn r,0≤h.2.2->∃k b c,0≤k/\k<r/\h.2.2=gt l k/\b∈dn k/\c∈up k/\b.1=h.1/\c.1=gt l r/\h.2.1=b.2.1+c.2.1
noncomputable def upG(M:List OAr)(l:List Int)(h s:Int)(r:Int):List Hf:=ZS (alM M l h s r.toNat) (gt l r)
noncomputable def dnG(M:List OAr)(l:List Int)(h s:Int)(r:Int):List Hf:=inL (alM M l h s r.toNat) (gt l r)
theorem Gn.rk1{R:List Int}{up dn:Int->List Hf}{n:Int}(g:Gn l R up dn n)(x0:0≤x)(x1:x<n):0≤gt R x/\gt R x<n/\gt l (gt R x)=x:=by
 have e:=g.ln;have:=g.rk.at g.od x0 Xo;omega
theorem Zog(hN:N≤9)(hl:l.length=N)(o:ZcY l){R:List Int}(hR:RkN l R)(hov:∀k:Nat,k≤N->∃nd al ar,OvR nd al ar (alA N l k) (alM M l h s k))(h0:∀a∈M,a.2.2.1≤2147483647)(hv:∀a∈M,a.2.2.2=-1):Gn l R (upG M l h s) (dnG M l h s) N:=by
 have ent:∀r:Int,0≤r->r<N->∀a∈alM M l h s r.toNat,((0≤a.1/\a.1<N)/\r≤gt R a.1/\(0≤a.2.1/\a.2.1<N)/\r≤gt R a.2.1)/\a.1≠a.2.1/\0≤a.2.2.1/\a.2.2.1≤140737488355328/\(a.2.2.2<0->a.2.2.1≤2147483647):=λr r0 r1 a ha=>by
  obtain⟨nd,al,ar,hO⟩:=hov r.toNat Xo;have q:=hO.en a ha;rw[ZdJ]at q
  have rr:∀x:Int,0≤x->x<N->gt (alA N l r.toNat) x=true->r≤gt R x:=λx x0 x1 hx=>by
   have h1:=(Zjg o hl x0 x1 Xo).1 hx;have h2:=hR.at o x0 Xo;refine Yga λk=>h1 (gt R x) h2.1 Xo h2.2.2
  refine⟨⟨⟨q.1,q.2.1⟩,rr _ q.1 q.2.1 q.2.2.2.2.1,⟨q.2.2.1,q.2.2.2.1⟩,rr _ q.2.2.1 q.2.2.2.1 q.2.2.2.2.2.1⟩,q.2.2.2.2.2.2.1,q.2.2.2.2.2.2.2.1,q.2.2.2.2.2.2.2.2.1,λhneg=>?_⟩;rcases Zk9 hov Xo a ha with hm|⟨k,hk,e,_⟩
  ·exact h0 a hm
  ·have:=o.1 (k:Int) Xo Xo;omega
 have rkl:∀r:Int,0≤r->r<N->gt R (gt l r)=r:=λr r0 r1=>hR.2 r r0 Xo
 have ne:∀r x:Int,0≤r->r<N->r≤gt R x->gt l r≠x->0≤x->x<N->r<gt R x:=λr x r0 r1 h1 h2 x0 x1=>by
  have:=hR.at o x0 Xo;by_cases e:r=gt R x
  ·rw[e]at h2;exact absurd this.2.2 h2
  ·omega
 refine⟨Xo,Xo,o,hR,λr r0 r1=>?_,λr r0 r1 b hb=>?_,λr r0 r1 b hb hb0=>?_,λr r0 r1 b hb hb0=>?_⟩
 ·obtain⟨nd,al,ar,hO⟩:=hov r.toNat Xo;have f:=Zna hO (by rw[ZdJ];omega);exact⟨ZcG _ _,ZdN _ _,YL (ZgY hO.kd _) f,YL (ZhO hO.kd _) f⟩
 ·obtain⟨nd,al,ar,hO⟩:=hov r.toNat Xo;rcases hb with hb|hb
  ·obtain⟨⟨a1,a2,a3,a4⟩,a5,a6⟩:=ent r r0 r1 _ ((Z2 hO.kd).1 hb);exact⟨a3,ne r _ r0 r1 a4 a5 a3.1 a3.2,a6⟩
  ·obtain⟨⟨a1,a2,a3,a4⟩,a5,a6⟩:=ent r r0 r1 _ ((Zay hO.kd).1 hb);exact⟨a1,ne r _ r0 r1 a2 (λq=>a5 q.symm) a1.1 a1.2,a6⟩
 ·obtain⟨nd,al,ar,hO⟩:=hov r.toNat Xo;rcases Zk9 hov Xo _ ((Z2 hO.kd).1 hb) with hm|⟨k,hk,e,p,hp,c,hc,e1,e2,e3⟩
  ·have:=hv _ hm;dsimp only at this;omega
  ·exact⟨k,p,c,Xo,Xo,e,hp,hc,e1,e2,e3⟩
 ·obtain⟨nd,al,ar,hO⟩:=hov r.toNat Xo;rcases Zk9 hov Xo _ ((Zay hO.kd).1 hb) with hm|⟨k,hk,e,p,hp,c,hc,e1,e2,e3⟩
  ·have:=hv _ hm;dsimp only at this;omega
  ·exact⟨k,p,c,Xo,Xo,e,hp,hc,e1,e2,e3⟩
end Go.Vd


namespace Go.Vd
variable{l R F:List Int}{B:List B4}{up dn:Int->List Hf}{n x r i:Int}{L:List Hf}
structure LayS(F:List Int)(B:List B4)(rows:Int->List B4)(n:Int):Prop where
 n0:0≤n
 fl:(F.length:Int)=n+1
 z:gt F 0=0
 e:gt F n=B.length
 st:∀r,0≤r->r<n->gt F (r+1)=gt F r+(rows r).length
 at':∀r,0≤r->r<n->∀j,0≤j->j<((rows r).length:Int)->gt B (gt F r+j)=gt (rows r) j
variable{rows:Int->List B4}
theorem LayS.fst(h:LayS F B rows n):Fst F (B.length:Int):=by
 have hl:=h.fl;refine⟨h.z,λr r0 r1=>?_,by rw[show (F.length:Int)-1=n from Xo];exact h.e⟩;have:=h.st r r0 Xo;omega
theorem LayS.nn(h:LayS F B rows n)(r0:0≤r)(r1:r≤n):0≤gt F r/\gt F r≤B.length:=by
 have hl:=h.fl;have h1:=h.fst.le (a:=0) (b:=r) Xo r0 Xo;have h2:=h.fst.le (a:=r) (b:=n) r0 r1 Xo;rw[h.z]at h1;rw[h.e]at h2;omega
theorem LayS.rk(h:LayS F B rows n)(r0:0≤r)(r1:r<n){j:Int}(j0:0≤j)(j1:j<((rows r).length:Int)):Rk F (gt F r+j) r:=by
 have hl:=h.fl;have:=h.st r r0 r1;exact⟨r0,Xo,Xo,Xo⟩
theorem LayS.of(h:LayS F B rows n){p:Int}(k:Rk F p r):(0≤r/\r<n)/\0≤p-gt F r/\p-gt F r<((rows r).length:Int)/\gt B p=gt (rows r) (p-gt F r):=by
 obtain⟨k0,k1,k2,k3⟩:=k;have hl:=h.fl;have:=h.st r k0 Xo;refine⟨⟨k0,Xo⟩,Xo,Xo,?_⟩;have e:=h.at' r k0 Xo (p-gt F r) Xo Xo;rwa[show gt F r+(p-gt F r)=p from Xo]at e
theorem ZmJ{E:Type}[Inhabited E]{a b:List E}{j:Int}(j0:0≤j)(j1:j<(a.length:Int)):gt (a++b) j=gt a j:=by
 unfold gt;rw[Yl,Yl,YF Xo]
theorem Zpi{E:Type}[Inhabited E]{a b:List E}{j:Int}(j1:(a.length:Int)≤j):gt (a++b) j=gt b (j-a.length):=by
 unfold gt;rw[Yl,Yl,YV Xo,show j.toNat-a.length=(j-a.length).toNat from Xo]
theorem LayS.zero:LayS [0] [] rows 0:=⟨Xo,rfl,rfl,rfl,λr r0 r1=>Xo,λr r0 r1=>Xo⟩
theorem LayS.snoc(h:LayS F B rows n):LayS (F++[((B++rows n).length:Int)]) (B++rows n) rows (n+1):=by
 have hl:=h.fl;have n0:=h.n0;have g:∀r,0≤r->r≤n->gt (F++[((B++rows n).length:Int)]) r=gt F r:=λr r0 r1=>ZmJ r0 Xo;have g1:gt (F++[((B++rows n).length:Int)]) (n+1)=((B++rows n).length:Int):=by rw[ZgL Xo Xo,if_pos Xo]
 have hB:((B++rows n).length:Int)=B.length+(rows n).length:=by rw[Yy];omega
 refine⟨Xo,by rw[Yy];simp only[Yp,Yt];omega,by rw[g 0 Xo n0];exact h.z,g1,λr r0 r1=>?_,λr r0 r1 j j0 j1=>?_⟩
 ·rw[g r r0 Xo];by_cases e:r=n
  ·subst e;rw[g1,hB,h.e]
  ·rw[g (r+1) Xo Xo];exact h.st r r0 Xo
 ·rw[g r r0 Xo];by_cases e:r=n
  ·subst e;rw[h.e,Zpi Xo,show (B.length:Int)+j-B.length=j from Xo]
  ·have h1:=h.at' r r0 Xo j j0 j1;have h2:=h.nn r0 Xo;have h3:=h.nn (r:=r+1) Xo Xo;have h4:=h.st r r0 Xo;rw[ZmJ Xo Xo];exact h1
noncomputable def soR(R:List Int)(L:List Hf):List Hf:=Zah (Zd6 R) L
def plE(R:List Int)(h:Hf):B4:=(gt R h.1,h.2.1,4294967295,4294967295)
theorem ZlT{a b:Hf}(ha:0≤a.1/\a.1<(R.length:Int))(hb:0≤b.1/\b.1<(R.length:Int)):Zd6 R a b=some (if gt R a.1<gt R b.1 then -1 else if gt R a.1>gt R b.1 then 1 else 0):=by
 unfold Zd6;rw[if_pos ⟨ha.1,ha.2,hb.1,hb.2⟩]
theorem Zeh{a b:Hf}(ha:0≤a.1/\a.1<(R.length:Int))(hb:0≤b.1/\b.1<(R.length:Int)):(Zd6 R a b).getD 0<0↔gt R a.1<gt R b.1:=by
 rw[ZlT ha hb];simp only[Yha];split
 ·exact⟨λ_=>by assumption,λ_=>Xo⟩
 ·split <;> omega
theorem Znd(hr:Ris L)(hb:∀h∈L,0≤h.1/\h.1<(R.length:Int))(hi:∀x y,0≤x->x<(R.length:Int)->0≤y->y<(R.length:Int)->gt R x=gt R y->x=y):SortOn (Zd6 R) L:=by
 refine⟨λx hx y hy=>⟨_,ZlT (hb x hx) (hb y hy)⟩,λx hx=>?_,λx hx y hy z hz=>?_,λx hx y hy z hz=>?_,λx hx y hy=>?_⟩
 ·rw[Zeh (hb x hx) (hb x hx)];omega
 ·rw[Zeh (hb x hx) (hb y hy),Zeh (hb y hy) (hb z hz),Zeh (hb x hx) (hb z hz)];omega
 ·rw[Zeh (hb x hx) (hb y hy),Zeh (hb y hy) (hb z hz),Zeh (hb x hx) (hb z hz)];omega
 ·rw[Zeh (hb x hx) (hb y hy),Zeh (hb y hy) (hb x hx)];intro h1 h2;have e:=hi x.1 y.1 (hb x hx).1 (hb x hx).2 (hb y hy).1 (hb y hy).2 Xo;obtain⟨i,i0,i1,rfl⟩:=Zas hx;obtain⟨j,j0,j1,rfl⟩:=Zas hy;rcases Yaa i j with q|q|q
  ·have:=hr.gt i0 q j1;omega
  ·subst q;rfl
  ·have:=hr.gt j0 q i1;omega
theorem ZfZ{h:Hf}:h∈soR R L↔h∈L:=(Zd4 _ _).mem_iff
theorem Zg0:(soR R L).length=L.length:=(Zd4 _ _).length_eq
theorem Zkv(on:SortOn (Zd6 R) L)(hr:Ris L)(hb:∀h∈L,0≤h.1/\h.1<(R.length:Int))(hi:∀x y,0≤x->x<(R.length:Int)->0≤y->y<(R.length:Int)->gt R x=gt R y->x=y):(soR R L).Pairwise λa b=>gt R a.1<gt R b.1:=by
 have nd:L.Pairwise λa b=>a.1≠b.1:=hr.imp λ{a b} q=>Xo;have nd':(soR R L).Pairwise λa b=>a.1≠b.1:=(Zd4 (Zd6 R) L).symm.pairwise nd λ{a b} q=>q.symm;refine ((Zjp on).and nd').imp_of_mem λ{a b} ha hb' h=>?_;have ma:=hb a ((Zd4 _ _).mem_iff.1 ha);have mb:=hb b ((Zd4 _ _).mem_iff.1 hb');obtain⟨h1,h2⟩:=h;rw[Zeh mb ma]at h1;by_cases e:gt R a.1=gt R b.1
 ·exact absurd (hi _ _ ma.1 ma.2 mb.1 mb.2 e) h2
 ·omega
theorem Zom{n:Int}(hL:L.length≤1000000)(hb:∀h∈L,(0≤h.1/\h.1<(R.length:Int))/\0≤gt R h.1/\gt R h.1≤4294967295):Zb3 L R=some (L.map (plE R)):=by
 refine Zfb.1 ?_;unfold Zb3;refine Zo (λr=>r=L.map (plE R)) ?_ λr hr=>by simp only[Zd];exact hr
 refine ZK (λz=>0≤z.1/\z.1≤(L.length:Int)/\z.2=(L.take z.1.toNat).map (plE R)) (λz=>((L.length:Int)-z.1).toNat) ?_ ⟨Xs,Xs,Xs⟩;rintro⟨i,m⟩⟨i0,i1,e⟩;dsimp only at *;unfold Zdg;rw[Zr];refine⟨λhlt=>?_,λhge=>?_⟩;rotate_left
 ·simp only[Zd,Yq];rw[e,YE Xo]
 have hm:=hb _ (Zfq i0 hlt);simp only[T_G,Zd,Yo];refine⟨i0,hm.1,hm.2,?_,Xo,⟨Xo,Xo,?_⟩,Xo⟩
 ·rw[e,YB,YG];simp only[Yp,Yt];omega
 ·rw[Zex i0 hlt,Y2,e];rfl
noncomputable def roU(R:List Int)(up:Int->List Hf)(r:Int):List B4:=(soR R (up r)).map (plE R)
theorem Gn.inj(g:Gn l R up dn n):∀x y,0≤x->x<(R.length:Int)->0≤y->y<(R.length:Int)->gt R x=gt R y->x=y:=λx y x0 x1 y0 y1 e=>by
 have h:=g.ln;have h2:=g.rk.1;have a:=g.rk1 x0 Xo;have b:=g.rk1 y0 Xo;rw[← a.2.2,← b.2.2,e]
theorem Gn.rng(g:Gn l R up dn n)(r0:0≤r)(r1:r<n){h:Hf}(hh:h∈up r∨h∈dn r):(0≤h.1/\h.1<(R.length:Int))/\0≤gt R h.1/\gt R h.1≤4294967295:=by
 have q:=g.en r r0 r1 h hh;have h1:=g.ln;have h2:=g.rk.1;have h3:=g.rk1 q.1.1 q.1.2;have h4:=g.n9;omega
theorem Gn.onU(g:Gn l R up dn n)(r0:0≤r)(r1:r<n):SortOn (Zd6 R) (up r)/\SortOn (Zd6 R) (dn r):=
 ⟨Znd (g.ris r r0 r1).1 (λh hh=>(g.rng r0 r1 (.inl hh)).1) g.inj,Znd (g.ris r r0 r1).2.1 (λh hh=>(g.rng r0 r1 (.inr hh)).1) g.inj⟩
theorem Gn.riseU(g:Gn l R up dn n)(r0:0≤r)(r1:r<n):(soR R (up r)).Pairwise (λa b=>gt R a.1<gt R b.1)/\(soR R (dn r)).Pairwise (λa b=>gt R a.1<gt R b.1):=
 ⟨Zkv (g.onU r0 r1).1 (g.ris r r0 r1).1 (λh hh=>(g.rng r0 r1 (.inl hh)).1) g.inj,Zkv (g.onU r0 r1).2 (g.ris r r0 r1).2.1 (λh hh=>(g.rng r0 r1 (.inr hh)).1) g.inj⟩
theorem Zpw(g:Gn l R up dn n){X:List (Int×List Hf×List Hf)}(hX:(X.length:Int)=n)(hg:∀r,0≤r->r<n->gt X r=(gt l r,up r,dn r)) :
  T (ZB (λzz_=>Za6 X R zz_.1 zz_.2.1 zz_.2.2.1 zz_.2.2.2.1 zz_.2.2.2.2.1 zz_.2.2.2.2.2.1 zz_.2.2.2.2.2.2) (X,0,[],[0],[],[0],[])) λo =>
   ((o.1.length:Int)=n/\∀r,0≤r->r<n->gt o.1 r=(gt l r,soR R (up r),soR R (dn r)))/\o.2.1=l/\(LayS o.2.2.1 o.2.2.2.1 (roU R up) n/\(o.2.2.2.1.length:Int)≤729)/\LayS o.2.2.2.2.1 o.2.2.2.2.2 (roU R dn) n/\(o.2.2.2.2.2.length:Int)≤729:=by
 have hn:=g.ln;have n9:=g.n9
 refine ZK (λz=>0≤z.2.1/\z.2.1≤n/\((z.1.length:Int)=n/\∀r,0≤r->r<n->gt z.1 r=if r<z.2.1 then (gt l r,soR R (up r),soR R (dn r)) else (gt l r,up r,dn r))/\z.2.2.1=l.take z.2.1.toNat/\(LayS z.2.2.2.1 z.2.2.2.2.1 (roU R up) z.2.1/\(z.2.2.2.2.1.length:Int)≤81*z.2.1)/\LayS z.2.2.2.2.2.1 z.2.2.2.2.2.2 (roU R dn) z.2.1/\(z.2.2.2.2.2.2.length:Int)≤81*z.2.1) (λz=>(n-z.2.1).toNat) ?_
  ⟨Xs,by dsimp only;omega,⟨hX,λr r0 r1=>by rw[hg r r0 r1];dsimp only;rw[if_neg Xo]⟩,Xs,⟨.zero,Xs⟩,.zero,Xs⟩
 rintro⟨m2,i,Nd,UF,U,DF,D⟩⟨i0,i1,⟨hm,hm2⟩,eN,⟨hU,lU⟩,hD,lD⟩;dsimp only at *;unfold Za6;rw[Zr];refine⟨λhlt=>?_,λhge=>?_⟩;rotate_left
 ·simp only[Zd,Yq];obtain rfl:i=n:=Xo;refine⟨⟨hm,λr r0 r1=>by rw[hm2 r r0 r1,if_pos r1]⟩,by rw[eN,YE Xo],⟨hU,Xo⟩,hD,Xo⟩
 have ei:=hm2 i i0 Xo;rw[if_neg Xo]at ei;have ol:=g.od.1 i i0 Xo;obtain⟨_,_,l1,l2⟩:=g.ris i i0 Xo;obtain⟨o1,o2⟩:=g.onU (up:=up) (dn:=dn) i0 (show i<n by omega);have p1:Zb3 (soR R (up i)) R=some (roU R up i):=Zom (n:=n) (by rw[Zg0];omega) λh hh=>g.rng i0 Xo (.inl (ZfZ.1 hh));have p2:Zb3 (soR R (dn i)) R=some (roU R dn i):=Zom (n:=n) (by rw[Zg0];omega) λh hh=>g.rng i0 Xo (.inr (ZfZ.1 hh));have q1:(roU R up i).length=(up i).length:=by unfold roU;rw[YB,Zg0]
 have q2:(roU R dn i).length=(dn i).length:=by unfold roU;rw[YB,Zg0]
 have fU:=hU.fl;have fD:=hD.fl;rw[ei];dsimp only;rw[T_G,T_G,T_G,T_G];refine⟨Xo,Xo,?_,Xo,?_⟩
 ·rw[eN,YG];omega
 rw[Ziz o1,Yk,T_G];refine⟨Xo,?_⟩;rw[Ziz o2,Yk];rw[show Zah (Zd6 R) (up i)=soR R (up i) from rfl,show Zah (Zd6 R) (dn i)=soR R (dn i) from rfl,p1,Yk,T_G];refine⟨Xo,?_⟩;rw[p2,Yk];simp only[T_G,Zd,Yo,Yy];have sU:=hU.snoc;have sD:=hD.snoc;rw[Yy]at sU sD;refine⟨Xo,Xo,Xo,Xo,Xo,Xo,⟨Xo,Xo,⟨by simpa using hm,λr r0 r1=>?_⟩,?_,⟨sU,Xo⟩,sD,Xo⟩,Xo⟩
 ·have hlt':i<(m2.length:Int):=Xo;rw[Z3 i0 (by rw[Yv];exact hlt') r0,Z3 i0 hlt' i0,if_pos rfl];by_cases e:r=i
  ·subst e;rw[if_pos rfl,if_pos Xo]
  ·rw[if_neg e,Z3 i0 hlt' r0,if_neg e,hm2 r r0 r1];by_cases q:r<i
   ·rw[if_pos q,if_pos Xo]
   ·rw[if_neg q,if_neg Xo]
 ·rw[Zex i0 Xo,eN]
end Go.Vd


namespace Go.Vd
variable{l R F UF DF Nd:List Int}{B B' B2 U D U' D':List B4}{up dn:Int->List Hf}{n x r i p q m t:Int}{L:List Hf}
theorem ZmO{a b c d x:Int}:ZdS a b c d x=some (if a<x then -1 else if a>x then 1 else 0):=by
 unfold ZdS Zei Zee;simp only[decide_true,Bool.not_true,Yk,Y5,if_false];split
 ·rfl
 ·split <;> rfl
theorem p_bs4{x:List B4}(hr:∀i j:Int,0≤i->i<j->j<(x.length:Int)->(gt x i).1<(gt x j).1){k:Int}(k0:0≤k)(k1:k<(x.length:Int))(e:(gt x k).1=t)(hl:x.length≤1000000):T (ZaI x t) λr=>r.1=k:=by
 unfold ZaI;refine Zo (λo=>o=k) ?_ λo ho=>?_;rotate_left
 ·subst ho;rw[Zr];refine⟨λ_=>?_,λq=>absurd k1 q⟩;rw[ZmO];simp only[T_G,Yk,Zd];exact⟨k0,trivial⟩
 refine ZK (λz=>0≤z.2/\z.2≤z.1/\z.1≤(x.length:Int)/\z.2≤k/\k≤z.1) (λz=>(z.1-z.2).toNat) ?_ ⟨Xs,Xs,Xs,by simpa using k0,by dsimp only;omega⟩;rintro⟨j,i⟩⟨i0,ij,j1,ik,kj⟩;dsimp only at *;unfold Zav;rw[Zr];refine⟨λhlt=>?_,λhge=>by simp only[Zd,Yq];omega⟩;simp only[T_G];refine⟨Xo,Xo,Xo,Xo,?_⟩;rw[ZmO,Yk,Zr]
 have key:(gt x ((i+j) / 2)).1<t↔(i+j) / 2<k:=by
  rcases Yaa ((i+j) / 2) k with q|q|q
  ·have:=hr _ _ Xo q k1;omega
  ·rw[q,e];omega
  ·have:=hr _ _ k0 q Xo;omega
 refine⟨λhc=>?_,λhc=>?_⟩
 ·have:(gt x ((i+j) / 2)).1<t:=by
   by_cases q:(gt x ((i+j) / 2)).1<t
   ·exact q
   ·rw[if_neg q]at hc;split at hc <;> omega
  have:=key.1 this;simp only[T_G,Zd,Yo];omega
 ·have:¬(gt x ((i+j) / 2)).1<t:=λq=>by rw[if_pos q]at hc;omega
  have:=mt key.2 this;simp only[Zd,Yo];omega
def Tos(B B':List B4):Prop:=B'.length=B.length/\∀i,0≤i->i<(B.length:Int)->(gt B' i).1=(gt B i).1/\(gt B' i).2.1=(gt B i).2.1
def Zl2(F:List Int)(B:List B4):Prop:=∀m a b,Rk F a m->Rk F b m->a<b->(gt B a).1<(gt B b).1
theorem Zj9(f:Fst F (B.length:Int))(hr:Zl2 F B)(hT:Tos B B')(hF:F.length≤100)(hB:B.length≤729)(k:Rk F p m)(e:(gt B p).1=t)(t0:0≤t)(t1:t≤4294967295):ZdA B' F m t=some p:=by
 obtain⟨k0,k1,k2,k3⟩:=k;obtain⟨tl,th⟩:=hT;have a0:=f.le (a:=0) (b:=m) Xo k0 Xo;rw[f.z]at a0;have a1:=f.le (a:=m+1) (b:=(F.length:Int)-1) Xo Xo Xo;rw[f.e]at a1;have a2:=f.up m k0 k1;have ls:=ZhI (L:=B') a0 a2 Xo;have gs:∀j:Int,0≤j->gt F m+j<gt F (m+1)->gt ((B'.take (gt F (m+1)).toNat).drop (gt F m).toNat) j=gt B' (gt F m+j):=λj j0 j1=>Zi8 a0 j0 j1 Xo;have inR:∀j:Int,0≤j->gt F m+j<gt F (m+1)->Rk F (gt F m+j) m:=λj j0 j1=>⟨k0,k1,Xo,j1⟩;refine Zfb.1 ?_;unfold ZdA;simp only[T_G];refine⟨Xo,Xo,Xo,Xo,Xo,?_⟩;refine Zo _ (p_bs4 (t:=t) (k:=p-gt F m) (λi j i0 ij j1=>?_) Xo Xo ?_ Xo) ?_
 ·rw[gs i i0 Xo,gs j Xo Xo,(th _ Xo Xo).1,(th _ Xo Xo).1];exact hr m _ _ (inR i i0 Xo) (inR j Xo Xo) Xo
 ·rw[gs _ Xo Xo,(th _ Xo Xo).1,show gt F m+(p-gt F m)=p from Xo];exact e
 ·intro y hy;simp only[T_G,Zd];omega
structure Ctx(l R:List Int)(up dn:Int->List Hf)(n:Int)(UF:List Int)(U:List B4)(DF:List Int)(D:List B4):Prop where
 g:Gn l R up dn n
 hU:LayS UF U (roU R up) n
 lU:(U.length:Int)≤729
 hD:LayS DF D (roU R dn) n
 lD:(D.length:Int)≤729
theorem Zi5{j:Int}(j0:0≤j)(j1:j<((roU R up r).length:Int)):gt (roU R up r) j=plE R (gt (soR R (up r)) j)/\j<((soR R (up r)).length:Int):=by
 unfold roU at *;rw[YB]at j1;refine⟨?_,j1⟩;unfold gt;rw[Yl,Yfa,Yn Xo,Yl,Yn Xo];rfl
theorem LayS.src(h:LayS F B (roU R up) n)(k:Rk F p r):(0≤r/\r<n)/\gt (soR R (up r)) (p-gt F r)∈up r/\gt B p=plE R (gt (soR R (up r)) (p-gt F r)):=by
 obtain⟨h1,h2,h3,h4⟩:=h.of k;obtain⟨e1,e2⟩:=Zi5 h2 h3;exact⟨h1,ZfZ.1 (Zfq h2 e2),by rw[h4,e1]⟩
theorem LayS.find(h:LayS F B (roU R up) n)(r0:0≤r)(r1:r<n){b:Hf}(hb:b∈up r):∃p,Rk F p r/\(0≤p/\p<(B.length:Int))/\gt B p=plE R b:=by
 obtain⟨j,j0,j1,rfl⟩:=Zas ((ZfZ (R:=R)).2 hb);have e:j<((roU R up r).length:Int):=by unfold roU;rw[YB];exact j1
 have hk:=h.rk r0 r1 j0 e;have a:=h.nn r0 Xo;have b:=h.nn (r:=r+1) Xo Xo;have c:=h.st r r0 r1;refine⟨_,hk,⟨Xo,Xo⟩,?_⟩;rw[h.at' r r0 r1 j j0 e,(Zi5 j0 e).1]
theorem LayS.risB(h:LayS F B (roU R up) n)(hr:∀r,0≤r->r<n->(soR R (up r)).Pairwise λa b=>gt R a.1<gt R b.1):Zl2 F B:=by
 intro m a b ha hb hab;obtain⟨h1,h2,h3,h4⟩:=h.of ha;obtain⟨_,g2,g3,g4⟩:=h.of hb;obtain⟨e1,e2⟩:=Zi5 h2 h3;obtain⟨e3,e4⟩:=Zi5 g2 g3;rw[h4,g4,e1,e3];show gt R (gt (soR R (up m)) (a-gt F m)).1<gt R (gt (soR R (up m)) (b-gt F m)).1;have:=List.pairwise_iff_getElem.1 (hr m h1.1 h1.2) (a-gt F m).toNat (b-gt F m).toNat Xo Xo Xo
 have ee:∀{k:Int},0≤k->(hk:k<((soR R (up m)).length:Int))->gt (soR R (up m)) k=(soR R (up m))[k.toNat]'Xo:=λ{k} k0 hk=>by
  unfold gt;rw[Yl,Yn Xo];rfl
 rw[ee h2 e2,ee g2 e4];exact this
theorem Ctx.rU(c:Ctx l R up dn n UF U DF D):Zl2 UF U/\Zl2 DF D:=⟨c.hU.risB λr r0 r1=>(c.g.riseU r0 r1).1,c.hD.risB λr r0 r1=>(c.g.riseU r0 r1).2⟩
def Kup(l R:List Int)(UF:List Int)(U:List B4)(DF:List Int)(D:List B4)(r:Int)(h:Hf)(a b:Int):Prop:=
 ∃k p1 p2 x y,0≤k/\k<r/\Rk DF p1 k/\Rk UF p2 k/\(0≤p1/\p1<(D.length:Int))/\(0≤p2/\p2<(U.length:Int))/\a=U.length+p1/\b=p2/\gt D p1=plE R x/\gt U p2=plE R y/\x.1=gt l r/\y.1=h.1/\h.2.1=x.2.1+y.2.1
def Kdn(l R:List Int)(UF:List Int)(U:List B4)(DF:List Int)(D:List B4)(r:Int)(h:Hf)(a b:Int):Prop:=
 ∃k p1 p2 x y,0≤k/\k<r/\Rk DF p1 k/\Rk UF p2 k/\(0≤p1/\p1<(D.length:Int))/\(0≤p2/\p2<(U.length:Int))/\a=U.length+p1/\b=p2/\gt D p1=plE R x/\gt U p2=plE R y/\x.1=h.1/\y.1=gt l r/\h.2.1=x.2.1+y.2.1
def ZkJ(F:List Int)(B B':List B4)(so:Int->List Hf)(K:Int->Hf->Int->Int->Prop)(p:Int):Prop:=
 ∀r,Rk F p r->∃a b,gt B' p=((gt B p).1,(gt B p).2.1,a,b)/\((gt (so r) (p-gt F r)).2.2<0->a=4294967295/\b=4294967295)/\(0≤(gt (so r) (p-gt F r)).2.2->K r (gt (so r) (p-gt F r)) a b)
structure Thr(F:List Int)(B B':List B4)(so:Int->List Hf)(K:Int->Hf->Int->Int->Prop)(q:Int):Prop where
 len:B'.length=B.length
 lo:∀p,0≤p->p<(B.length:Int)->p<q->ZkJ F B B' so K p
 hi:∀p,0≤p->p<(B.length:Int)->q≤p->gt B' p=gt B p
variable{so:Int->List Hf}{K:Int->Hf->Int->Int->Prop}
theorem Thr.tos(h:Thr F B B' so K q)(f:Fst F (B.length:Int))(hl:0<(F.length:Int)):Tos B B':=by
 refine⟨h.len,λi i0 i1=>?_⟩;by_cases e:i<q
 ·obtain⟨r,hr⟩:=f.rk i0 i1 hl;obtain⟨a,b,e,_⟩:=h.lo i i0 i1 e r hr;rw[e];exact⟨rfl,rfl⟩
 ·rw[h.hi i i0 i1 Xo];exact⟨rfl,rfl⟩
theorem Thr.step(h:Thr F B B' so K q)(q0:0≤q)(hl:B2.length=B'.length)(hg:∀p,0≤p->p<(B.length:Int)->p≠q->gt B2 p=gt B' p)(hd:q<(B.length:Int)->ZkJ F B B2 so K q):Thr F B B2 so K (q+1):=by
 refine⟨by rw[hl,h.len],λp p0 p1 pq=>?_,λp p0 p1 pq=>by rw[hg p p0 p1 Xo];exact h.hi p p0 p1 Xo⟩;by_cases e:p=q
 ·subst e;exact hd p1
 ·have:=h.lo p p0 p1 Xo;unfold ZkJ at this ⊢;rw[hg p p0 p1 e];exact this
theorem ZlW{E:Type}[Inhabited E]{B:List E}{p i:Int}{a b:E}(p0:0≤p)(p1:p<(B.length:Int))(i0:0≤i):gt ((B.set p.toNat a).set p.toNat b) i=if i=p then b else gt B i:=by
 rw[Z3 p0 (by rw[Yv];exact p1) i0,Z3 p0 p1 i0];split <;> rfl
theorem ZnE(c:Ctx l R up dn n UF U DF D)(tU:Tos U U')(tD:Tos D D')(p0:0≤p)(p1:p<(U.length:Int)){a b k x y:Int}(ha:Rk DF a k)(hb:Rk UF b k)(ea:(gt D a).1=x)(eb:(gt U b).1=y)(x0:0≤x/\x≤4294967295)(y0:0≤y/\y≤4294967295)(a0:0≤a/\a<(D.length:Int)) :
  T (Zc7 Nd UF U' DF D' p k x y) λr=>r.length=U'.length/\∀i,0≤i->i<(U.length:Int)->gt r i=if i=p then ((gt U p).1,(gt U p).2.1,(U.length:Int)+a,b) else gt U' i:=by
 have n9:=c.g.n9;have fU:=c.hU.fl;have fD:=c.hD.fl;have lU:=c.lU;have lD:=c.lD;have eU:=tU.1;have q:=tU.2 p p0 p1;unfold Zc7;rw[T_G];refine⟨Xo,?_⟩;rw[Zj9 c.hD.fst c.rU.2 tD Xo Xo ha ea x0.1 x0.2,Yk,T_G];refine⟨Xo,?_⟩;rw[Zj9 (B':=U'.set p.toNat _) c.hU.fst c.rU.1 ⟨by rw[Yv];exact eU,λi i0 i1=>?_⟩ Xo Xo hb eb y0.1 y0.2,Yk]
 ·simp only[Zd,Yv];refine⟨trivial,λi i0 i1=>?_⟩;rw[ZlW p0 Xo i0,Z3 p0 Xo p0,if_pos rfl];dsimp only;rw[q.1,q.2,eU]
 ·rw[Z3 p0 Xo i0];by_cases e:i=p
  ·subst e;rw[if_pos rfl];exact q
  ·rw[if_neg e];exact tU.2 i i0 i1
theorem ZnA(c:Ctx l R up dn n UF U DF D)(tU:Tos U U')(tD:Tos D D')(p0:0≤p)(p1:p<(D.length:Int)){a b k x y:Int}(ha:Rk DF a k)(hb:Rk UF b k)(ea:(gt D a).1=x)(eb:(gt U b).1=y)(x0:0≤x/\x≤4294967295)(y0:0≤y/\y≤4294967295)(a0:0≤a/\a<(D.length:Int)) :
  T (Zcx Nd UF U' DF D' p k x y) λr=>r.length=D'.length/\∀i,0≤i->i<(D.length:Int)->gt r i=if i=p then ((gt D p).1,(gt D p).2.1,(U.length:Int)+a,b) else gt D' i:=by
 have n9:=c.g.n9;have fU:=c.hU.fl;have fD:=c.hD.fl;have lU:=c.lU;have lD:=c.lD;have eU:=tU.1;have eD:=tD.1;have q:=tD.2 p p0 p1;unfold Zcx;rw[T_G];refine⟨Xo,?_⟩;rw[Zj9 c.hD.fst c.rU.2 tD Xo Xo ha ea x0.1 x0.2,Yk,T_G];refine⟨Xo,?_⟩;rw[Zj9 c.hU.fst c.rU.1 tU Xo Xo hb eb y0.1 y0.2,Yk];simp only[Zd,Yv];refine⟨trivial,λi i0 i1=>?_⟩;rw[ZlW p0 Xo i0,Z3 p0 Xo p0,if_pos rfl];dsimp only;rw[q.1,q.2,eU]
end Go.Vd


namespace Go.Vd
variable{l R F UF DF Nd:List Int}{B B' B2 U D U' D':List B4}{up dn:Int->List Hf}{n x r i p q m t:Int}{m2 X:List (Int×List Hf×List Hf)}
noncomputable abbrev soG(R:List Int)(up:Int->List Hf):Int->List Hf:=λr=>soR R (up r)
theorem Zpr(o:ZcY l)(hX:X.length=l.length)(hl:l.length≤65536)(hg:∀r,0≤r->r<(l.length:Int)->(gt X r).1=gt l r):T (ZB (λzz_=>Zba X zz_.1 zz_.2) (0,Ym X.length (0:Int))) λR=>RkN l R:=by
 refine ZK (λz=>0≤z.1/\z.1≤(l.length:Int)/\(z.2.length:Int)=l.length/\∀r,0≤r->r<z.1->gt z.2 (gt l r)=r) (λz=>((l.length:Int)-z.1).toNat) ?_ ⟨Xs,Xs,by simp[hX],λr r0 r1=>by dsimp only at r1;omega⟩;rintro⟨i,R⟩⟨i0,i1,hl',hr⟩;dsimp only at *;unfold Zba;simp only[Zr,T_G,Zd,Yo,Yq];refine⟨λhi=>?_,λhi=>⟨hl',λr r0 r1=>hr r r0 Xo⟩⟩;rw[hg i i0 Xo];obtain⟨v0,v1⟩:=o.1 i i0 Xo;refine⟨i0,Xo,Xo,⟨Xo,Xo,by simpa using hl',λr r0 r1=>?_⟩,Xo⟩;obtain⟨w0,w1⟩:=o.1 r r0 Xo;rw[Z3 v0 Xo w0];by_cases q:gt l r=gt l i
 ·rw[if_pos q];exact (o.2 r i r0 Xo i0 Xo q).symm
 ·rw[if_neg q];refine hr r r0 ?_;by_cases q2:r=i
  ·subst q2;exact absurd rfl q
  ·omega
theorem Thr.plain{K:Int->Hf->Int->Int->Prop}(f:Fst F (B.length:Int))(hS:LayS F B (roU R up) n)(h:Thr F B B' (soG R up) K q)(k:Rk F q r)(hn:(gt (soR R (up r)) (q-gt F r)).2.2<0)(q0:0≤q):Thr F B B' (soG R up) K (q+1):=by
 refine h.step q0 rfl (λ_ _ _ _=>rfl) λq1 r' k'=>?_;obtain rfl:=f.uniq k k';refine⟨4294967295,4294967295,?_,λ_=>⟨rfl,rfl⟩,λh0=>absurd hn (by show ¬_;exact λ_=>by have:0≤(gt (soR R (up r)) (q-gt F r)).2.2:=h0;omega)⟩;rw[h.hi q q0 q1 (YO _),(hS.src k).2.2];rfl
theorem Zpo(c:Ctx l R up dn n UF U DF D)(r0:0≤r)(r1:r<n)(hm:gt m2 r=(gt l r,soR R (up r),soR R (dn r)))(tD:Tos D D')(h:Thr UF U U' (soG R up) (Kup l R UF U DF D) (gt UF r)) :
  T (ZB (λzz_=>Za5 R (m2,Nd,UF,U,DF,D) r D' zz_.1 zz_.2) (0,U')) λo=>Thr UF U o (soG R up) (Kup l R UF U DF D) (gt UF (r+1)):=by
 have n9:=c.g.n9;have hn:=c.g.ln;have hRl:=c.g.rk.1;have fU:=c.hU.fl;have lU:=c.lU;have s1:=c.hU.st r r0 r1;have a0:=c.hU.nn r0 Xo;have a1:=c.hU.nn (r:=r+1) Xo Xo;have le:(roU R up r).length=(soR R (up r)).length:=by unfold roU;rw[YB]
 have rkr:gt R (gt l r)=r:=c.g.rk.2 r r0 Xo;refine ZK (λz=>0≤z.1/\z.1≤((soR R (up r)).length:Int)/\Thr UF U z.2 (soG R up) (Kup l R UF U DF D) (gt UF r+z.1)) (λz=>(((soR R (up r)).length:Int)-z.1).toNat) ?_ ⟨Xs,Xs,by simpa using h⟩;rintro⟨i,V⟩⟨i0,i1,hV⟩;dsimp only at *;unfold Za5;dsimp only;rw[hm];dsimp only;rw[Zr];refine⟨λhlt=>?_,λhge=>?_⟩;rotate_left
 ·simp only[Zd,Yq];rw[s1,le];rwa[show i=((soR R (up r)).length:Int) from Xo]at hV
 have k:=c.hU.rk r0 r1 i0 (by rw[le];exact hlt);have hmem:gt (soR R (up r)) i∈up r:=ZfZ.1 (Zfq i0 hlt);have eq:gt UF r+i-gt UF r=i:=Xo;have en:=c.g.en r r0 r1 _ (.inl hmem);have tV:=hV.tos c.hU.fst Xo;rw[T_G,Zr];refine⟨i0,λhv=>?_,λhv=>?_⟩;rotate_left
 ·simp only[T_G,Zd,Yo];have:=hV.plain c.hU.fst c.hU k (by rw[eq];omega) Xo;exact⟨Xo,⟨Xo,Xo,by rwa[← Int.add_assoc]⟩,Xo⟩
 obtain⟨k',b,d,k0,k1,e1,hb,hd,e2,e3,e4⟩:=c.g.ku r r0 r1 _ hmem Xo;have rkk:gt R (gt l k')=k':=c.g.rk.2 k' k0 Xo;have lk:=c.g.od.1 k' k0 Xo;obtain⟨pa,ra,pa0,ea⟩:=c.hD.find k0 Xo hb;obtain⟨pb,rb,pb0,eb⟩:=c.hU.find k0 Xo hd;have hy:=c.g.rk1 en.1.1 en.1.2;simp only[T_G];refine⟨Xo,Xo,Xo,by have:=tV.1;omega,Xo,Xo,?_⟩;rw[e1,rkk];refine Zo _ (ZnE (Nd:=Nd) c tV tD (p:=gt UF r+i) Xo Xo ra rb (x:=r) (y:=gt R (gt (soR R (up r)) i).1) (by rw[ea];show gt R b.1=r;rw[e2];exact rkr) (by rw[eb];show gt R d.1=_;rw[e3]) Xo Xo pa0) ?_;rintro V2 ⟨v1,v2⟩;simp only[T_G,Zd,Yo];refine⟨Xo,⟨Xo,Xo,?_⟩,Xo⟩;rw[← Int.add_assoc];refine hV.step Xo v1 (λp p0 p1 pq=>by rw[v2 p p0 p1,if_neg pq]) λq1 r' kk=>?_;obtain rfl:=c.hU.fst.uniq k kk;refine⟨_,_,by rw[v2 _ Xo q1,if_pos rfl],λhneg=>?_,λ_=>?_⟩
 ·rw[eq]at hneg;exact absurd hneg (by show ¬(gt (soR R (up r)) i).2.2<0;omega)
 ·rw[eq];exact⟨k',pa,pb,b,d,k0,k1,ra,rb,pa0,pb0,rfl,rfl,ea,eb,e2,e3,e4⟩
theorem Zpq(c:Ctx l R up dn n UF U DF D)(r0:0≤r)(r1:r<n)(hm:gt m2 r=(gt l r,soR R (up r),soR R (dn r)))(tU:Tos U U')(h:Thr DF D D' (soG R dn) (Kdn l R UF U DF D) (gt DF r)) :
  T (ZB (λzz_=>Za9 R (m2,Nd,UF,U,DF,D) r U' zz_.1 zz_.2) (0,D')) λo=>Thr DF D o (soG R dn) (Kdn l R UF U DF D) (gt DF (r+1)):=by
 have n9:=c.g.n9;have hn:=c.g.ln;have hRl:=c.g.rk.1;have fD:=c.hD.fl;have lD:=c.lD;have s1:=c.hD.st r r0 r1;have a0:=c.hD.nn r0 Xo;have a1:=c.hD.nn (r:=r+1) Xo Xo;have le:(roU R dn r).length=(soR R (dn r)).length:=by unfold roU;rw[YB]
 have rkr:gt R (gt l r)=r:=c.g.rk.2 r r0 Xo;refine ZK (λz=>0≤z.1/\z.1≤((soR R (dn r)).length:Int)/\Thr DF D z.2 (soG R dn) (Kdn l R UF U DF D) (gt DF r+z.1)) (λz=>(((soR R (dn r)).length:Int)-z.1).toNat) ?_ ⟨Xs,Xs,by simpa using h⟩;rintro⟨i,V⟩⟨i0,i1,hV⟩;dsimp only at *;unfold Za9;dsimp only;rw[hm];dsimp only;rw[Zr];refine⟨λhlt=>?_,λhge=>?_⟩;rotate_left
 ·simp only[Zd,Yq];rw[s1,le];rwa[show i=((soR R (dn r)).length:Int) from Xo]at hV
 have k:=c.hD.rk r0 r1 i0 (by rw[le];exact hlt);have hmem:gt (soR R (dn r)) i∈dn r:=ZfZ.1 (Zfq i0 hlt);have eq:gt DF r+i-gt DF r=i:=Xo;have en:=c.g.en r r0 r1 _ (.inr hmem);have tV:=hV.tos c.hD.fst Xo;rw[T_G,Zr];refine⟨i0,λhv=>?_,λhv=>?_⟩;rotate_left
 ·simp only[T_G,Zd,Yo];have:=hV.plain c.hD.fst c.hD k (by rw[eq];omega) Xo;exact⟨Xo,⟨Xo,Xo,by rwa[← Int.add_assoc]⟩,Xo⟩
 obtain⟨k',b,d,k0,k1,e1,hb,hd,e2,e3,e4⟩:=c.g.kd r r0 r1 _ hmem Xo;have rkk:gt R (gt l k')=k':=c.g.rk.2 k' k0 Xo;have lk:=c.g.od.1 k' k0 Xo;obtain⟨pa,ra,pa0,ea⟩:=c.hD.find k0 Xo hb;obtain⟨pb,rb,pb0,eb⟩:=c.hU.find k0 Xo hd;have hy:=c.g.rk1 en.1.1 en.1.2;simp only[T_G];refine⟨Xo,Xo,Xo,by have:=tV.1;omega,Xo,Xo,?_⟩;rw[e1,rkk];refine Zo _ (ZnA (Nd:=Nd) c tU tV (p:=gt DF r+i) Xo Xo ra rb (x:=gt R (gt (soR R (dn r)) i).1) (y:=r) (by rw[ea];show gt R b.1=_;rw[e2]) (by rw[eb];show gt R d.1=_;rw[e3];exact rkr) Xo Xo pa0) ?_;rintro V2 ⟨v1,v2⟩;simp only[T_G,Zd,Yo];refine⟨Xo,⟨Xo,Xo,?_⟩,Xo⟩;rw[← Int.add_assoc];refine hV.step Xo v1 (λp p0 p1 pq=>by rw[v2 p p0 p1,if_neg pq]) λq1 r' kk=>?_;obtain rfl:=c.hD.fst.uniq k kk;refine⟨_,_,by rw[v2 _ Xo q1,if_pos rfl],λhneg=>?_,λ_=>?_⟩
 ·rw[eq]at hneg;exact absurd hneg (by show ¬(gt (soR R (dn r)) i).2.2<0;omega)
 ·rw[eq];exact⟨k',pa,pb,b,d,k0,k1,ra,rb,pa0,pb0,rfl,rfl,ea,eb,e2,e3,e4⟩
structure Laid(l R:List Int)(up dn:Int->List Hf)(n:Int)(UF:List Int)(U U':List B4)(DF:List Int)(D D':List B4):Prop where
 c:Ctx l R up dn n UF U DF D
 tU:Thr UF U U' (soG R up) (Kup l R UF U DF D) U.length
 tD:Thr DF D D' (soG R dn) (Kdn l R UF U DF D) D.length
theorem Thr.zero{so:Int->List Hf}{K:Int->Hf->Int->Int->Prop}:Thr F B B so K 0:=⟨rfl,λp p0 p1 q=>Xo,λ_ _ _ _=>rfl⟩
theorem p_lay(o:ZcY l)(hg:∀R,RkN l R->Gn l R up dn n)(hX:X.length=l.length)(hx:∀r,0≤r->r<n->gt X r=(gt l r,up r,dn r))(hn:(l.length:Int)=n)(n9:n≤9){x1 x2 x3 x4 x5 x7 x8 x9:Int}{nodes:List Nod} :
  T (ZcL x1 x2 x3 x4 x5 nodes x7 x8 X x9) λr=>r.1=l/\∃R U D,Laid l R up dn n r.2.1 U r.2.2.1 r.2.2.2.1 D r.2.2.2.2.1:=by
 unfold ZcL;rw[T_G];refine⟨Xo,Zo _ (Zpr o hX Xo λr r0 r1=>by rw[hx r r0 Xo]) ?_⟩;intro R hR;have g:=hg R hR;refine Zo _ (Zpw g Xo hx) ?_;rintro⟨m2,Nd,UF,U,DF,D⟩⟨⟨hm,hm2⟩,eN,⟨hU,lU⟩,hD,lD⟩;dsimp only at *;have c:Ctx l R up dn n UF U DF D:=⟨g,hU,lU,hD,lD⟩;refine Zo (λz=>Thr UF U z.1 (soG R up) (Kup l R UF U DF D) U.length/\Thr DF D z.2 (soG R dn) (Kdn l R UF U DF D) D.length) ?_ λz hz=>?_;rotate_left
 ·simp only[Zd];exact⟨eN,R,U,D,c,hz.1,hz.2⟩
 refine ZK (λz=>0≤z.1/\z.1≤n/\Thr UF U z.2.1 (soG R up) (Kup l R UF U DF D) (gt UF z.1)/\Thr DF D z.2.2 (soG R dn) (Kdn l R UF U DF D) (gt DF z.1)) (λz=>(n-z.1).toNat) ?_ ⟨Xs,by dsimp only;omega,by dsimp only;rw[hU.z];exact .zero,by dsimp only;rw[hD.z];exact .zero⟩;rintro⟨i,V,W⟩⟨i0,i1,hV,hW⟩;dsimp only at *;unfold ZbQ;rw[Zr];refine⟨λhlt=>?_,λhge=>?_⟩;rotate_left
 ·simp only[Zd,Yq];obtain rfl:i=n:=by dsimp only at hge;omega
  rw[hU.e]at hV;rw[hD.e]at hW;exact⟨hV,hW⟩
 dsimp only at hlt;rw[T_G];refine⟨i0,Zo _ (Zpo c i0 Xo (hm2 i i0 Xo) (hW.tos hD.fst (by have:=hD.fl;omega)) hV) ?_⟩;intro V2 hV2;refine Zo _ (Zpq c i0 Xo (hm2 i i0 Xo) (hV2.tos hU.fst (by have:=hU.fl;omega)) hW) ?_;intro W2 hW2;simp only[T_G,Zd,Yo];exact⟨Xo,⟨Xo,Xo,hV2,hW2⟩,Xo⟩
end Go.Vd
