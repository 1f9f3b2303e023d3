/- Texts. -/
import Derived.Test.YtlfclppjhkeljaaGreatPwhVpB
import Derived.Test.YtlfclppjhkeljaaGreatPwhIWh
import Derived.Test.YtlfclppjhkeljaaGreatPwhSoA
import Derived.WalkKit
import Derived.Elder7
import Derived.RowKitTokens
import Derived.Test.YtlfclppjhkeljaaGreatPwhVeL
set_option linter.all false
open Bool renaming and_eq_true→YW
open Int renaming tdiv→Y3,le_refl→YO
open List renaming getD_eq_getElem?_getD→Yl,getElem?_eq_getElem→Yn,getElem?_append_left→YF,getElem?_eq_none→YQ,getElem?_take→YY,length_take→YG,length_set→Yv,replicate→Ym,take_of_length_le→YE,mem_cons_of_mem→Ys,mem_cons_self→Yw,mem_append_left→YC,getElem?_set_self→Y4,mem_append_right→YS,getElem?_append_right→YV,length_append→Yy,eq_of_mem_replicate→YU,mem_of_getElem?→YK,length_nil→Yt,length_cons→Yp,length_map→YB,mem_of_mem_drop→Y1,map_append→Y2,take_append_drop→YT,mem_of_mem_take→YN,eq_nil_of_length_eq_zero→Yx,length_replicate→Y6,getElem?_cons_succ→Y7
open Nat renaming le_trans→YL,le_of_ble_eq_true→YA,lt_succ_self→YI,le_refl→Yj,zero_add→Y8,lt_of_lt_of_le→YJ
open Option renaming bind_some→Yk
open Sum renaming elim_inl→Yo,elim_inr→Yq,inr→Yr
open Go.Proofs
set_option maxHeartbeats 4000000
set_option maxRecDepth 100000

namespace Go.Vd
theorem Zbn{E:Type}[Inhabited E]{l:List E}{i j:Int}{v:E}(i0:0≤i)(i1:i<(l.length:Int))(j0:0≤j):gt (l.set i.toNat v) j=if j=i then v else gt l j:=by
 unfold gt;rw[Yl,Yl,List.getElem?_set];by_cases h:j=i
 ·subst h;rw[if_pos rfl,if_pos Xo,if_pos rfl];rfl
 ·rw[if_neg Xo,if_neg h]
def Less(a b:Int×Int):Prop:=a.1<b.1∨(a.1=b.1/\a.2<b.2)
instance (a b:Int×Int):Decidable (Less a b):=by unfold Less;exact inferInstance
theorem Less.irr{a b:Int×Int}(h:Less a b):¬Less b a:=by unfold Less at *;omega
theorem Zes{a b c:Int×Int}(h:¬Less a b)(k:¬Less b c):¬Less a c:=by unfold Less at *;omega
theorem ZkC{a b c:Int×Int}(h:¬Less a b)(k:Less c b):¬Less a c:=by unfold Less at *;omega
end Go.Vd


namespace Go.Vd
variable{L:Int}{h h':Int->Int×Int}
def ZX(p:Int):Int:=(p-1) / 2
theorem tdiv2{p:Int}(h:0<p):Y3 (p-1) 2=ZX p:=by
 unfold ZX;rw[Int.tdiv_eq_ediv_of_nonneg Xo]
def Ord2(L:Int)(h:Int->Int×Int):Prop:=∀p,1≤p->p<L->¬Less (h p) (h (ZX p))
def Up2(L:Int)(h:Int->Int×Int)(i:Int):Prop:=
 (∀p,1≤p->p<L->p≠i->¬Less (h p) (h (ZX p)))/\(1≤i->∀c,1≤c->c<L->ZX c=i->¬Less (h c) (h (ZX i)))
def Down2(L:Int)(h:Int->Int×Int)(i:Int):Prop:=
 (∀p,1≤p->p<L->ZX p≠i->¬Less (h p) (h (ZX p)))/\(1≤i->∀c,1≤c->c<L->ZX c=i->¬Less (h c) (h (ZX i)))
theorem Up2.done{i:Int}(U:Up2 L h i)(k:i=0∨¬Less (h i) (h (ZX i))):Ord2 L h:=by
 intro p p0 p1;by_cases e:p=i
 ·subst e;rcases k with k|k
  ·omega
  ·exact k
 ·exact U.1 p p0 p1 e
theorem Up2.step{i:Int}(U:Up2 L h i)(i0:1≤i)(i1:i<L)(k:Less (h i) (h (ZX i)))
  (eh:∀p,0≤p->p<L->h' p=if p=ZX i then h i else if p=i then h (ZX i) else h p):Up2 L h' (ZX i):=by
 have hq:ZX i<i/\0≤ZX i:=by unfold ZX;omega
 have e1:h' (ZX i)=h i:=by rw[eh _ hq.2 Xo,if_pos rfl]
 have e2:h' i=h (ZX i):=by rw[eh _ Xo i1,if_neg Xo,if_pos rfl]
 have e3:∀p,0≤p->p<L->p≠ZX i->p≠i->h' p=h p:=λp p0 p1 h1 h2=>by rw[eh p p0 p1,if_neg h1,if_neg h2]
 have pl:∀p,1≤p->ZX p<p/\0≤ZX p:=λp hp=>by unfold ZX;omega
 refine⟨λp p0 p1 hp=>?_,λq0 c c0 c1 hc=>?_⟩
 ·have:=pl p p0;by_cases hpi:p=i
  ·subst hpi;rw[e2,e1];exact k.irr
  ·rw[e3 p Xo p1 hp hpi];by_cases h1:ZX p=i
   ·rw[h1,e2];exact U.2 i0 p p0 p1 h1
   ·by_cases h2:ZX p=ZX i
    ·rw[h2,e1];have:=U.1 p p0 p1 hpi;rw[h2]at this;exact ZkC this k
    ·rw[e3 _ Xo Xo h2 h1];exact U.1 p p0 p1 hpi
 ·have:=pl (ZX i) q0;have hc':=pl c c0;have e4:h' (ZX (ZX i))=h (ZX (ZX i)):=e3 _ Xo Xo Xo Xo;have hq2:=U.1 (ZX i) q0 Xo Xo;rw[e4];by_cases hci:c=i
  ·subst hci;rw[e2];exact hq2
  ·rw[e3 c Xo c1 Xo hci];have:=U.1 c c0 c1 hci;rw[hc]at this;exact Zes this hq2
theorem Down2.done{i:Int}(D:Down2 L h i)(k:∀c,1≤c->c<L->ZX c=i->¬Less (h c) (h i)):Ord2 L h:=by
 intro p p0 p1;by_cases e:ZX p=i
 ·rw[e];exact k p p0 p1 e
 ·exact D.1 p p0 p1 e
theorem Down2.step{i b:Int}(D:Down2 L h i)(i0:0≤i)(b0:1≤b)(b1:b<L)(hb:ZX b=i)(hm:∀c,1≤c->c<L->ZX c=i->¬Less (h c) (h b))(k:Less (h b) (h i))
  (eh:∀p,0≤p->p<L->h' p=if p=b then h i else if p=i then h b else h p):Down2 L h' b:=by
 have pl:∀p,1≤p->ZX p<p/\0≤ZX p:=λp hp=>by unfold ZX;omega
 have hbi:=pl b b0;have e1:h' b=h i:=by rw[eh _ Xo b1,if_pos rfl]
 have e2:h' i=h b:=by rw[eh _ i0 Xo,if_neg Xo,if_pos rfl]
 have e3:∀p,0≤p->p<L->p≠b->p≠i->h' p=h p:=λp p0 p1 h1 h2=>by rw[eh p p0 p1,if_neg h1,if_neg h2]
 refine⟨λp p0 p1 hp=>?_,λq0 c c0 c1 hc=>?_⟩
 ·have:=pl p p0;by_cases hpb:p=b
  ·subst hpb;rw[e1,hb,e2];exact k.irr
  ·by_cases h1:ZX p=i
   ·rw[h1,e2,e3 p Xo p1 hpb Xo];exact hm p p0 p1 h1
   ·by_cases hpi:p=i
    ·subst hpi;rw[e2,e3 (ZX p) Xo Xo Xo Xo];exact D.2 p0 b b0 b1 hb
    ·rw[e3 p Xo p1 hpb hpi,e3 _ Xo Xo hp h1];exact D.1 p p0 p1 h1
 ·have:=pl c c0;rw[hb,e2,e3 c Xo c1 Xo Xo];have:=D.1 c c0 c1 Xo;rwa[hc]at this
theorem Ord2.top(O:Ord2 L h):∀p,0≤p->p<L->¬Less (h p) (h 0):=by
 intro p p0 p1;generalize hk:p.toNat=k;induction k using Nat.strongRecOn generalizing p with
 | _ k ih =>
  by_cases e:p=0
  ·subst e;unfold Less;omega
  ·have hp:ZX p<p/\0≤ZX p:=by unfold ZX;omega
   exact Zes (O p Xo p1) (ih (ZX p).toNat Xo (ZX p) hp.2 Xo rfl)
def swp(l:Yf)(i j:Int):Yf:=(l.set i.toNat (gt l j)).set j.toNat (gt l i)
theorem ZoU{l:Yf}{i j:Int}:(swp l i j).length=l.length:=by simp[swp]
theorem ZkM{l:Yf}{i j:Int}(i0:0≤i)(i1:i<(l.length:Int))(j0:0≤j)(j1:j<(l.length:Int)){p:Int}(p0:0≤p):gt (swp l i j) p=if p=j then gt l i else if p=i then gt l j else gt l p:=by
 unfold swp;rw[Zbn j0 (by simpa using j1) p0,Zbn i0 i1 p0]
theorem ZiD{l:Yf}{i j:Int}(i0:0≤i)(i1:i<(l.length:Int))(j0:0≤j)(j1:j<(l.length:Int)):(swp l i j).Perm l:=by
 unfold swp
 have e:∀{k:Int},0≤k->∀hk:k.toNat<l.length,gt l k=l[k.toNat]:=λ{k} k0 hk=>by
  unfold gt;rw[Yl,Yn hk];rfl
 rw[e i0 Xo,e j0 Xo];exact List.set_set_perm Xo Xo
def Hq(q:Yf):Prop:=Ord2 q.length (gt q)
theorem Ord2.congr{L:Int}{h h':Int->Int×Int}(O:Ord2 L h)(eh:∀p,0≤p->p<L->h' p=h p):Ord2 L h':=λp p0 p1=>by
 have hp:ZX p<p/\0≤ZX p:=by unfold ZX;omega
 rw[eh p Xo p1,eh _ hp.2 Xo];exact O p p0 p1
end Go.Vd


namespace Go.Vd
end Go.Vd


namespace Go.Vd
variable{fi to wt:List Int}
end Go.Vd


namespace Go.Vd
variable{fi to wt:List Int}
end Go.Vd


namespace Go.Vd
structure Ix(n L:Int)(h:Int->Int×Int)(a:Int->Int):Prop where
 fwd:∀p,0≤p->p<L->0≤(h p).2/\(h p).2<n/\a (h p).2=p+1
 bwd:∀v,0≤v->v<n->0≤a v/\a v≤L/\(a v≠0->(h (a v-1)).2=v)
def Kf(h:Int->Int×Int)(a:Int->Int)(v:Int):Option Int:=if a v=0 then none else some (h (a v-1)).1
variable{n L:Int}{h h':Int->Int×Int}{a a':Int->Int}
theorem Ix.inj(I:Ix n L h a){p q:Int}(p0:0≤p)(p1:p<L)(q0:0≤q)(q1:q<L)(e:(h p).2=(h q).2):p=q:=by
 have h1:=(I.fwd p p0 p1).2.2;have h2:=(I.fwd q q0 q1).2.2;rw[e]at h1;omega
theorem Ix.swap(I:Ix n L h a){i q:Int}(i0:0≤i)(i1:i<L)(q0:0≤q)(q1:q<L)(hne:i≠q)
  (eh:∀p,0≤p->p<L->h' p=if p=q then h i else if p=i then h q else h p)
  (ea:∀v,0≤v->v<n->a' v=if v=(h i).2 then q+1 else if v=(h q).2 then i+1 else a v) :
  Ix n L h' a'/\∀v,0≤v->v<n->Kf h' a' v=Kf h a v:=by
 obtain⟨fi0,fi1,fi2⟩:=I.fwd i i0 i1;obtain⟨fq0,fq1,fq2⟩:=I.fwd q q0 q1;have hid:(h q).2≠(h i).2:=λe=>hne (I.inj i0 i1 q0 q1 e.symm);have hq':h' q=h i:=by rw[eh q q0 q1,if_pos rfl]
 have hi':h' i=h q:=by rw[eh i i0 i1,if_neg hne,if_pos rfl]
 have ho':∀p,0≤p->p<L->p≠q->p≠i->h' p=h p:=λp p0 p1 h1 h2=>by rw[eh p p0 p1,if_neg h1,if_neg h2]
 have ai':a' (h i).2=q+1:=by rw[ea _ fi0 fi1,if_pos rfl]
 have aq':a' (h q).2=i+1:=by rw[ea _ fq0 fq1,if_neg hid,if_pos rfl]
 have ao':∀v,0≤v->v<n->v≠(h i).2->v≠(h q).2->a' v=a v:=λv v0 v1 h1 h2=>by rw[ea v v0 v1,if_neg h1,if_neg h2]
 refine⟨⟨λp p0 p1=>?_,λv v0 v1=>?_⟩,λv v0 v1=>?_⟩
 ·by_cases hpq:p=q
  ·subst hpq;rw[hq'];exact⟨fi0,fi1,ai'⟩
  ·by_cases hpi:p=i
   ·subst hpi;rw[hi'];exact⟨fq0,fq1,aq'⟩
   ·rw[ho' p p0 p1 hpq hpi];obtain⟨f0,f1,f2⟩:=I.fwd p p0 p1;refine⟨f0,f1,?_⟩;rw[ao' _ f0 f1 (λe=>hpi (I.inj p0 p1 i0 i1 e)) (λe=>hpq (I.inj p0 p1 q0 q1 e))];exact f2
 ·by_cases hvi:v=(h i).2
  ·subst hvi;rw[ai'];exact⟨Xo,Xo,λ_=>by rw[show q+1-1=q from Xo,hq']⟩
  ·by_cases hvq:v=(h q).2
   ·subst hvq;rw[aq'];exact⟨Xo,Xo,λ_=>by rw[show i+1-1=i from Xo,hi']⟩
   ·rw[ao' v v0 v1 hvi hvq];obtain⟨b0,b1,b2⟩:=I.bwd v v0 v1;refine⟨b0,b1,λhz=>?_⟩;have hb:=b2 hz;rw[ho' _ Xo Xo (λe=>hvq (by rw[← hb,e])) (λe=>hvi (by rw[← hb,e]))];exact hb
 ·unfold Kf;by_cases hvi:v=(h i).2
  ·subst hvi;rw[ai',fi2,if_neg Xo,if_neg Xo,show q+1-1=q from Xo,show i+1-1=i from Xo,hq']
  ·by_cases hvq:v=(h q).2
   ·subst hvq;rw[aq',fq2,if_neg Xo,if_neg Xo,show q+1-1=q from Xo,show i+1-1=i from Xo,hi']
   ·rw[ao' v v0 v1 hvi hvq];by_cases hz:a v=0
    ·rw[if_pos hz,if_pos hz]
    ·obtain⟨b0,b1,b2⟩:=I.bwd v v0 v1;have hb:=b2 hz;rw[if_neg hz,if_neg hz,ho' _ Xo Xo (λe=>hvq (by rw[← hb,e])) (λe=>hvi (by rw[← hb,e]))]
def ZU(p:Int):Int:=(p-1) / 4
theorem tdiv4{p:Int}(h:0<p):Y3 (p-1) 4=ZU p:=by
 unfold ZU;rw[Int.tdiv_eq_ediv_of_nonneg Xo]
def Ord4(L:Int)(h:Int->Int×Int):Prop:=∀p,1≤p->p<L->¬Less (h p) (h (ZU p))
def Up4(L:Int)(h:Int->Int×Int)(i:Int):Prop:=
 (∀p,1≤p->p<L->p≠i->¬Less (h p) (h (ZU p)))/\(1≤i->∀c,1≤c->c<L->ZU c=i->¬Less (h c) (h (ZU i)))
def Down4(L:Int)(h:Int->Int×Int)(i:Int):Prop:=
 (∀p,1≤p->p<L->ZU p≠i->¬Less (h p) (h (ZU p)))/\(1≤i->∀c,1≤c->c<L->ZU c=i->¬Less (h c) (h (ZU i)))
theorem Up4.done{i:Int}(U:Up4 L h i)(k:i=0∨¬Less (h i) (h (ZU i))):Ord4 L h:=by
 intro p p0 p1;by_cases e:p=i
 ·subst e;rcases k with k|k
  ·omega
  ·exact k
 ·exact U.1 p p0 p1 e
theorem Up4.step{i:Int}(U:Up4 L h i)(i0:1≤i)(i1:i<L)(k:Less (h i) (h (ZU i)))
  (eh:∀p,0≤p->p<L->h' p=if p=ZU i then h i else if p=i then h (ZU i) else h p):Up4 L h' (ZU i):=by
 have hq:ZU i<i/\0≤ZU i:=by unfold ZU;omega
 have e1:h' (ZU i)=h i:=by rw[eh _ hq.2 Xo,if_pos rfl]
 have e2:h' i=h (ZU i):=by rw[eh _ Xo i1,if_neg Xo,if_pos rfl]
 have e3:∀p,0≤p->p<L->p≠ZU i->p≠i->h' p=h p:=λp p0 p1 h1 h2=>by rw[eh p p0 p1,if_neg h1,if_neg h2]
 have pl:∀p,1≤p->ZU p<p/\0≤ZU p:=λp hp=>by unfold ZU;omega
 refine⟨λp p0 p1 hp=>?_,λq0 c c0 c1 hc=>?_⟩
 ·have:=pl p p0;by_cases hpi:p=i
  ·subst hpi;rw[e2,e1];exact k.irr
  ·rw[e3 p Xo p1 hp hpi];by_cases h1:ZU p=i
   ·rw[h1,e2];exact U.2 i0 p p0 p1 h1
   ·by_cases h2:ZU p=ZU i
    ·rw[h2,e1];have:=U.1 p p0 p1 hpi;rw[h2]at this;exact ZkC this k
    ·rw[e3 _ Xo Xo h2 h1];exact U.1 p p0 p1 hpi
 ·have:=pl (ZU i) q0;have hc':=pl c c0;have e4:h' (ZU (ZU i))=h (ZU (ZU i)):=e3 _ Xo Xo Xo Xo;have hq2:=U.1 (ZU i) q0 Xo Xo;rw[e4];by_cases hci:c=i
  ·subst hci;rw[e2];exact hq2
  ·rw[e3 c Xo c1 Xo hci];have:=U.1 c c0 c1 hci;rw[hc]at this;exact Zes this hq2
theorem Down4.done{i:Int}(D:Down4 L h i)(k:∀c,1≤c->c<L->ZU c=i->¬Less (h c) (h i)):Ord4 L h:=by
 intro p p0 p1;by_cases e:ZU p=i
 ·rw[e];exact k p p0 p1 e
 ·exact D.1 p p0 p1 e
theorem Down4.step{i b:Int}(D:Down4 L h i)(i0:0≤i)(b0:1≤b)(b1:b<L)(hb:ZU b=i)(hm:∀c,1≤c->c<L->ZU c=i->¬Less (h c) (h b))(k:Less (h b) (h i))
  (eh:∀p,0≤p->p<L->h' p=if p=b then h i else if p=i then h b else h p):Down4 L h' b:=by
 have pl:∀p,1≤p->ZU p<p/\0≤ZU p:=λp hp=>by unfold ZU;omega
 have hbi:=pl b b0;have e1:h' b=h i:=by rw[eh _ Xo b1,if_pos rfl]
 have e2:h' i=h b:=by rw[eh _ i0 Xo,if_neg Xo,if_pos rfl]
 have e3:∀p,0≤p->p<L->p≠b->p≠i->h' p=h p:=λp p0 p1 h1 h2=>by rw[eh p p0 p1,if_neg h1,if_neg h2]
 refine⟨λp p0 p1 hp=>?_,λq0 c c0 c1 hc=>?_⟩
 ·have:=pl p p0;by_cases hpb:p=b
  ·subst hpb;rw[e1,hb,e2];exact k.irr
  ·by_cases h1:ZU p=i
   ·rw[h1,e2,e3 p Xo p1 hpb Xo];exact hm p p0 p1 h1
   ·by_cases hpi:p=i
    ·subst hpi;rw[e2,e3 (ZU p) Xo Xo Xo Xo];exact D.2 p0 b b0 b1 hb
    ·rw[e3 p Xo p1 hpb hpi,e3 _ Xo Xo hp h1];exact D.1 p p0 p1 h1
 ·have:=pl c c0;rw[hb,e2,e3 c Xo c1 Xo Xo];have:=D.1 c c0 c1 Xo;rwa[hc]at this
theorem Ord4.down(O:Ord4 L h){i:Int}(i1:i<L):Down4 L h i:=
 ⟨λp p0 p1 _=>O p p0 p1,λq0 c c0 c1 hc=>by have:=O c c0 c1;rw[hc]at this;exact Zes this (O i q0 i1)⟩
theorem Ord4.top(O:Ord4 L h):∀p,0≤p->p<L->¬Less (h p) (h 0):=by
 intro p p0 p1;generalize hk:p.toNat=k;induction k using Nat.strongRecOn generalizing p with
 | _ k ih =>
  by_cases e:p=0
  ·subst e;unfold Less;omega
  ·have hp:ZU p<p/\0≤ZU p:=by unfold ZU;omega
   exact Zes (O p Xo p1) (ih (ZU p).toNat Xo (ZU p) hp.2 Xo rfl)
end Go.Vd


namespace Go.Vd
theorem ZkG{k i k' i':Int}:Zbx k i k' i'=some (decide (Less (k,i) (k',i'))):=by
 unfold Zbx;by_cases h1:k<k'
 ·rw[if_pos h1,decide_eq_true (show Less (k,i) (k',i') from Or.inl h1)]
 ·rw[if_neg h1];by_cases h2:k=k'
  ·subst h2;rw[if_pos rfl];congr 1;by_cases h3:i<i'
   ·rw[decide_eq_true h3,decide_eq_true (show Less (k,i) (k,i') from Or.inr ⟨rfl,h3⟩)]
   ·rw[decide_eq_false h3,decide_eq_false (show ¬Less (k,i) (k,i') by unfold Less;dsimp only;omega)]
  ·rw[if_neg h2,decide_eq_false (show ¬Less (k,i) (k',i') by unfold Less;dsimp only;omega)]
def vh(h:Yf)(i:Int)(x:Int×Int):Int->Int×Int:=λp=>if p=i then x else gt h p
def va(a:List Int)(v i:Int):Int->Int:=λw=>if w=v then i+1 else gt a w
theorem Zhg{h:Yf}{a:List Int}{i k v:Int}(i0:0≤i)(i1:i<(h.length:Int))(v0:0≤v)(v1:v<(a.length:Int))(hl:h.length≤1099511627776) :
  Zau h a i k v=some (h.set i.toNat (k,v),a.set v.toNat (i+1)):=by
 unfold Zau G;rw[if_pos ⟨i0,i1⟩,if_pos Xo,if_pos ⟨v0,v1⟩]
structure Hv(n:Int)(h:Yf)(a:List Int)(i:Int)(x:Int×Int)(K:Int->Option Int):Prop where
 len:(a.length:Int)=n
 small:h.length≤1099511627776
 i0:0≤i
 i1:i<(h.length:Int)
 x0:0≤x.2
 x1:x.2<n
 ix:Ix n h.length (vh h i x) (va a x.2 i)
 key:∀v,0≤v->v<n->Kf (vh h i x) (va a x.2 i) v=K v
theorem Hv.move{n:Int}{h:Yf}{a:List Int}{i q:Int}{x:Int×Int}{K:Int->Option Int}(H:Hv n h a i x K)(q0:0≤q)(q1:q<(h.length:Int))(hne:i≠q) :
  0≤(gt h q).2/\(gt h q).2<n/\Hv n (h.set i.toNat (gt h q)) (a.set (gt h q).2.toNat (i+1)) q x K /\
   ∀p,0≤p->p<(h.length:Int)->vh (h.set i.toNat (gt h q)) q x p=if p=q then vh h i x i else if p=i then vh h i x q else vh h i x p:=by
 have hvq:vh h i x q=gt h q:=if_neg (Ne.symm hne);have hvi:vh h i x i=x:=if_pos rfl;obtain⟨f0,f1,f2⟩:=H.ix.fwd q q0 q1;rw[hvq]at f0 f1 f2
 have eh:∀p,0≤p->p<(h.length:Int)->vh (h.set i.toNat (gt h q)) q x p=if p=q then vh h i x i else if p=i then vh h i x q else vh h i x p:=by
  intro p p0 p1;rw[hvq,hvi];unfold vh;by_cases e:p=q
  ·rw[if_pos e,if_pos e]
  ·rw[if_neg e,if_neg e,Zbn H.i0 H.i1 p0];by_cases e2:p=i
   ·rw[if_pos e2,if_pos e2]
   ·rw[if_neg e2,if_neg e2,if_neg e2]
 have ea:∀v,0≤v->v<n->va (a.set (gt h q).2.toNat (i+1)) x.2 q v=if v=(vh h i x i).2 then q+1 else if v=(vh h i x q).2 then i+1 else va a x.2 i v:=by
  intro v v0 v1;rw[hvq,hvi];unfold va;by_cases e:v=x.2
  ·rw[if_pos e,if_pos e]
  ·rw[if_neg e,if_neg e,Zbn f0 (by rw[H.len];exact f1) v0];by_cases e2:v=(gt h q).2
   ·rw[if_pos e2,if_pos e2]
   ·rw[if_neg e2,if_neg e2,if_neg e]
 obtain⟨s1,s2⟩:=H.ix.swap H.i0 H.i1 q0 q1 hne eh ea;refine⟨f0,f1,⟨by simpa using H.len,by simpa using H.small,q0,by simpa using q1,H.x0,H.x1,by simpa using s1,λv v0 v1=>(s2 v v0 v1).trans (H.key v v0 v1)⟩,eh⟩
structure Hp(n:Int)(h:Yf)(a:List Int)(K:Int->Option Int):Prop where
 len:(a.length:Int)=n
 small:h.length≤1099511627776
 ix:Ix n h.length (gt h) (gt a)
 key:∀v,0≤v->v<n->Kf (gt h) (gt a) v=K v
theorem Zje{h:Yf}{i:Int}{x:Int×Int}(i0:0≤i)(i1:i<(h.length:Int)){p:Int}(p0:0≤p):gt (h.set i.toNat x) p=vh h i x p:=by
 rw[Zbn i0 i1 p0];rfl
theorem ZpP{a:List Int}{v i:Int}(v0:0≤v)(v1:v<(a.length:Int)){w:Int}(w0:0≤w):gt (a.set v.toNat (i+1)) w=va a v i w:=by
 rw[Zbn v0 v1 w0];rfl
theorem Ix.congr{n L:Int}{h h':Int->Int×Int}{a a':Int->Int}(I:Ix n L h a)(eh:∀p,0≤p->h' p=h p)(ea:∀v,0≤v->a' v=a v):Ix n L h' a':=
 ⟨λp p0 p1=>by rw[eh p p0];obtain⟨f0,f1,f2⟩:=I.fwd p p0 p1;exact⟨f0,f1,by rw[ea _ f0];exact f2⟩,
  λv v0 v1=>by
   rw[ea v v0];obtain⟨b0,b1,b2⟩:=I.bwd v v0 v1;exact⟨b0,b1,λhz=>by rw[eh _ Xo];exact b2 hz⟩⟩
theorem Kf.congr{n L:Int}{h h':Int->Int×Int}{a a':Int->Int}(I:Ix n L h a)(eh:∀p,0≤p->h' p=h p)(ea:∀v,0≤v->a' v=a v){v:Int}(v0:0≤v)(v1:v<n):Kf h' a' v=Kf h a v:=by
 unfold Kf;rw[ea v v0];obtain⟨b0,b1,b2⟩:=I.bwd v v0 v1;by_cases hz:a v=0
 ·rw[if_pos hz,if_pos hz]
 ·rw[if_neg hz,if_neg hz,eh _ Xo]
theorem Hv.lay{n:Int}{h:Yf}{a:List Int}{i:Int}{x:Int×Int}{K:Int->Option Int}(H:Hv n h a i x K) :
  Hp n (h.set i.toNat x) (a.set x.2.toNat (i+1)) K:=by
 have eh:∀p,0≤p->gt (h.set i.toNat x) p=vh h i x p:=λp p0=>Zje H.i0 H.i1 p0;have ea:∀v,0≤v->gt (a.set x.2.toNat (i+1)) v=va a x.2 i v:=λv v0=>ZpP H.x0 (by rw[H.len];exact H.x1) v0;exact⟨by simpa using H.len,by simpa using H.small,by simpa using H.ix.congr eh ea,λv v0 v1=>(Kf.congr H.ix eh ea v0 v1).trans (H.key v v0 v1)⟩
theorem Hp.pick{n:Int}{h:Yf}{a:List Int}{K:Int->Option Int}(H:Hp n h a K){i:Int}(i0:0≤i)(i1:i<(h.length:Int)) :
  Hv n h a i (gt h i) K/\∀p,vh h i (gt h i) p=gt h p:=by
 obtain⟨f0,f1,f2⟩:=H.ix.fwd i i0 i1;have eh:∀p,vh h i (gt h i) p=gt h p:=λp=>by unfold vh;split <;> simp_all
 have ea:∀v,va a (gt h i).2 i v=gt a v:=λv=>by unfold va;split <;> simp_all
 exact⟨⟨H.len,H.small,i0,i1,f0,f1,H.ix.congr (λp _=>eh p) (λv _=>ea v),λv v0 v1=>(Kf.congr H.ix (λp _=>eh p) (λv _=>ea v) v0 v1).trans (H.key v v0 v1)⟩,eh⟩
theorem Ord4.congr{L:Int}{h h':Int->Int×Int}(O:Ord4 L h)(eh:∀p,0≤p->h' p=h p):Ord4 L h':=λp p0 p1=>by
 rw[eh p Xo,eh _ (by unfold ZU;omega)];exact O p p0 p1
theorem Up4.congr{L i:Int}{h h':Int->Int×Int}(O:Up4 L h i)(eh:∀p,0≤p->h' p=h p):Up4 L h' i:=
 ⟨λp p0 p1 hp=>by rw[eh p Xo,eh _ (by unfold ZU;omega)];exact O.1 p p0 p1 hp,
  λi0 c c0 c1 hc=>by rw[eh c Xo,eh _ (by unfold ZU;omega)];exact O.2 i0 c c0 c1 hc⟩
theorem Down4.congr{L i:Int}{h h':Int->Int×Int}(O:Down4 L h i)(eh:∀p,0≤p->h' p=h p):Down4 L h' i:=
 ⟨λp p0 p1 hp=>by rw[eh p Xo,eh _ (by unfold ZU;omega)];exact O.1 p p0 p1 hp,
  λi0 c c0 c1 hc=>by rw[eh c Xo,eh _ (by unfold ZU;omega)];exact O.2 i0 c c0 c1 hc⟩
theorem p_up{n:Int}{h:Yf}{a:List Int}{K:Int->Option Int}(H:Hp n h a K){i:Int}(i0:0≤i)(i1:i<(h.length:Int))(U:Up4 h.length (gt h) i) :
  T (Za8 h a i) λr=>r.1.length=h.length/\Hp n r.1 r.2 K/\Ord4 h.length (gt r.1):=by
 obtain⟨Hv0,e0⟩:=H.pick i0 i1;unfold Za8;rw[T_G];refine⟨⟨i0,i1⟩,Zo (λs=>s.1.length=h.length/\Hv n s.1 s.2.1 s.2.2 (gt h i) K/\Ord4 h.length (vh s.1 s.2.2 (gt h i))) ?_ ?_⟩
 ·refine ZK (λs=>s.1.length=h.length/\Hv n s.1 s.2.1 s.2.2 (gt h i) K/\Up4 h.length (vh s.1 s.2.2 (gt h i)) s.2.2) (λs=>s.2.2.toNat) ?_ ⟨rfl,Hv0,U.congr λp _=>e0 p⟩;rintro⟨h0,a0,j⟩⟨hl,hv,hu⟩;dsimp only at *;unfold ZbX;rw[Zr];refine⟨λhj=>?_,λhj=>?_⟩
  ·rw[tdiv4 hj];have j1:=hv.i1;have hsm:=hv.small;have hq:ZU j<j/\0≤ZU j:=by unfold ZU;omega
   have hpx:((gt h i).1,(gt h i).2)=gt h i:=rfl;have hpy:((gt h0 (ZU j)).1,(gt h0 (ZU j)).2)=gt h0 (ZU j):=rfl;have hvj:vh h0 j (gt h i) j=gt h i:=if_pos rfl;have hvq:vh h0 j (gt h i) (ZU j)=gt h0 (ZU j):=if_neg Xo;simp only[T_G,ZkG,Yk,Zr,Bool.not_eq_true',decide_eq_false_iff_not,Zd,Yo,Yq,hpx,hpy];refine⟨Xo,Xo,Xo,λhn=>⟨hl,hv,hu.done (.inr ?_)⟩,λhy=>?_⟩
   ·rw[hvj,hvq];exact hn
   ·have hy':Less (gt h i) (gt h0 (ZU j)):=Classical.not_not.1 hy;obtain⟨m0,m1,m2,m3⟩:=hv.move hq.2 Xo Xo;rw[Zhg Xo j1 m0 (by rw[hv.len];exact m1) hsm];simp only[Yk,Zd,Yo];refine⟨⟨by simpa using hl,m2,hu.step Xo Xo (by rw[hvj,hvq];exact hy') λp p0 p1=>?_⟩,Xo⟩;rw[m3 p p0 Xo]
  ·simp only[Zd,Yq];exact⟨hl,hv,hu.done (.inl (by have:=hv.i0;omega))⟩
 ·rintro⟨h0,a0,j⟩⟨hl,hv,ho⟩;dsimp only at *;rw[Zhg hv.i0 hv.i1 hv.x0 (by rw[hv.len];exact hv.x1) hv.small];simp only[Yk,Zd];exact⟨by simpa using hl,hv.lay,ho.congr λp p0=>Zje hv.i0 hv.i1 p0⟩
end Go.Vd


namespace Go.Vd
theorem ZoC{h:Yf}{i:Int}(i0:0≤i)(i1:i<1099511627776) :
  T (ZB (λzz_=>Zbk h i zz_.1 zz_.2) (0,(-1))) λb=>(b=-1/\(h.length:Int)≤4*i+1)∨(1≤b/\b<(h.length:Int)/\ZU b=i/\∀c,1≤c->c<(h.length:Int)->ZU c=i->¬Less (gt h c) (gt h b)):=by
 refine ZK (λs=>0≤s.1/\s.1≤4/\((s.2=-1/\(s.1=0∨(h.length:Int)≤4*i+1))∨(4*i+1≤s.2/\s.2<4*i+1+s.1/\s.2<(h.length:Int)/\∀c,4*i+1≤c->c<4*i+1+s.1->c<(h.length:Int)->¬Less (gt h c) (gt h s.2)))) (λs=>(4-s.1).toNat) ?_ ⟨Xs,Xs,.inl ⟨rfl,.inl rfl⟩⟩;rintro⟨k,b⟩⟨k0,k1,hb⟩;dsimp only at *;unfold Zbk;simp only[Zr,T_G,Zd,Yo,Yq,ZkG,Yk,decide_eq_true_eq];have e1:i*4+1+k=4*i+1+k:=Xo;rw[e1];refine⟨λhk=>⟨Xo,Xo,Xo,λhc=>⟨λhn=>⟨Xo,⟨Xo,Xo,.inr ⟨Xo,Xo,hc,λc c0 c1 c2=>?_⟩⟩,Xo⟩,λhn=>⟨Xo,Xo,λhl=>⟨Xo,⟨Xo,Xo,.inr ⟨Xo,Xo,hc,λc c0 c1 c2=>?_⟩⟩,Xo⟩,λhl=>⟨Xo,⟨Xo,Xo,.inr ⟨Xo,Xo,Xo,λc c0 c1 c2=>?_⟩⟩,Xo⟩⟩⟩,λhc=>⟨Xo,⟨Xo,Xo,?_⟩,Xo⟩⟩,λhk=>?_⟩
 ·rcases hb with ⟨rfl,h1⟩|⟨h1,_⟩
  ·rcases h1 with rfl|h1
   ·rw[show c=4*i+1+0 from Xo];unfold Less;omega
   ·omega
  ·omega
 ·rcases hb with ⟨rfl,h1⟩|⟨h1,h2,h3,h4⟩
  ·omega
  ·by_cases e:c=4*i+1+k
   ·subst e;unfold Less;omega
   ·have:=h4 c c0 Xo c2;have hl':Less (gt h (4*i+1+k)) (gt h b):=hl;exact ZkC this hl'
 ·rcases hb with ⟨rfl,h1⟩|⟨h1,h2,h3,h4⟩
  ·omega
  ·by_cases e:c=4*i+1+k
   ·subst e;exact hl
   ·exact h4 c c0 Xo c2
 ·rcases hb with ⟨rfl,h1⟩|⟨h1,h2,h3,h4⟩
  ·exact .inl ⟨rfl,.inr Xo⟩
  ·exact .inr ⟨h1,Xo,h3,λc c0 c1 c2=>h4 c c0 Xo c2⟩
 ·rcases hb with ⟨rfl,h1⟩|⟨h1,h2,h3,h4⟩
  ·exact .inl ⟨rfl,Xo⟩
  ·exact .inr ⟨Xo,h3,by unfold ZU;omega,λc c0 c1 hc=>h4 c (by unfold ZU at hc;omega) (by unfold ZU at hc;omega) c1⟩
theorem Znk{n:Int}{h:Yf}{a:List Int}{K:Int->Option Int}(H:Hp n h a K){i:Int}(i0:0≤i)(i1:i<(h.length:Int))(D:Down4 h.length (gt h) i) :
  T (Zbw h a i) λr=>r.1.length=h.length/\Hp n r.1 r.2 K/\Ord4 h.length (gt r.1):=by
 obtain⟨Hv0,e0⟩:=H.pick i0 i1;unfold Zbw;rw[T_G];refine⟨⟨i0,i1⟩,Zo (λs=>s.1.length=h.length/\Hv n s.1 s.2.1 s.2.2 (gt h i) K/\Ord4 h.length (vh s.1 s.2.2 (gt h i))) ?_ ?_⟩
 ·refine ZK (λs=>s.1.length=h.length/\Hv n s.1 s.2.1 s.2.2 (gt h i) K/\Down4 h.length (vh s.1 s.2.2 (gt h i)) s.2.2) (λs=>((h.length:Int)-s.2.2).toNat) ?_ ⟨rfl,Hv0,D.congr λp _=>e0 p⟩;rintro⟨h0,a0,j⟩⟨hl,hv,hd⟩;dsimp only at *;unfold Zb8;have j0:=hv.i0;have j1:=hv.i1;have hsm:=hv.small;refine Zo _ (ZoC (h:=h0) j0 Xo) λb hb=>?_;have hvj:vh h0 j (gt h i) j=gt h i:=if_pos rfl;have hvn:∀c,c≠j->vh h0 j (gt h i) c=gt h0 c:=λc hc=>if_neg hc;have hch:∀c,1≤c->ZU c=j->j<c:=λc c0 hc=>by unfold ZU at hc;omega
  refine Zo (λo=>o=true↔(b<0∨¬Less (gt h0 b) (gt h i))) ?_ λo ho=>?_
  ·simp only[Zr,T_G,Zd,ZkG,Yk,true_iff,Bool.not_eq_true',decide_eq_false_iff_not];refine⟨λhn=>.inl hn,λhn=>⟨Xo,⟨λk=>.inr k,λk=>k.resolve_left hn⟩⟩⟩
  rw[Zr];refine⟨λht=>?_,λhf=>?_⟩
  ·simp only[Zd,Yq];refine⟨hl,hv,hd.done λc c0 c1 hc=>?_⟩;have hjc:=hch c c0 hc;rw[hvn c Xo,hvj];rcases hb with ⟨rfl,hb⟩|⟨b0,b1,b2,b3⟩
   ·unfold ZU at hc;omega
   ·rcases ho.1 ht with hx|hx
    ·omega
    ·exact Zes (b3 c c0 Xo hc) hx
  ·have hx:¬(b<0∨¬Less (gt h0 b) (gt h i)):=λk=>hf (ho.2 k);rcases hb with ⟨rfl,hb⟩|⟨b0,b1,b2,b3⟩
   ·omega
   have hlx:Less (gt h0 b) (gt h i):=Classical.not_not.1 λk=>hx (.inr k);have hjb:=hch b b0 b2;obtain⟨m0,m1,m2,m3⟩:=hv.move Xo b1 Xo;rw[T_G,Zhg j0 j1 m0 (by rw[hv.len];exact m1) hsm];simp only[Yk,Zd,Yo];refine⟨Xo,⟨by simpa using hl,m2,hd.step j0 b0 Xo b2 (λc c0 c1 hc=>?_) (by rw[hvn b Xo,hvj];exact hlx) λp p0 p1=>m3 p p0 Xo⟩,Xo⟩;rw[hvn c (by have:=hch c c0 hc;omega),hvn b Xo];exact b3 c c0 Xo hc
 ·rintro⟨h0,a0,j⟩⟨hl,hv,ho⟩;dsimp only at *;rw[Zhg hv.i0 hv.i1 hv.x0 (by rw[hv.len];exact hv.x1) hv.small];simp only[Yk,Zd];exact⟨by simpa using hl,hv.lay,ho.congr λp p0=>Zje hv.i0 hv.i1 p0⟩
theorem p_up0{n:Int}{h:Yf}{a:List Int}{K:Int->Option Int}(H:Hp n h a K)(i1:0<(h.length:Int)) :
  T (Za8 h a 0) λr=>r.1.length=h.length/\Hp n r.1 r.2 K/\∀p,0≤p->gt r.1 p=gt h p:=by
 obtain⟨hv,e0⟩:=H.pick (YO 0) i1;unfold Za8;rw[T_G];refine⟨⟨Xo,i1⟩,Zo (λs=>s=(h,a,0)) ?_ ?_⟩
 ·refine ZK (λs=>s=(h,a,0)) (λs=>0) ?_ rfl;rintro _ rfl;unfold ZbX;rw[if_neg Xs];simp
 ·rintro _ rfl;dsimp only;rw[Zhg hv.i0 hv.i1 hv.x0 (by rw[hv.len];exact hv.x1) hv.small];simp only[Yk,Zd];exact⟨Xs,hv.lay,λp p0=>(Zje hv.i0 hv.i1 p0).trans (e0 p)⟩
section
variable{n L:Int}{h h':Int->Int×Int}{a a':Int->Int}{x:Int×Int}
theorem Ix.add(I:Ix n L h a)(L0:0≤L)(x0:0≤x.2)(x1:x.2<n)(hz:a x.2=0)(eh:∀p,0≤p->p≤L->h' p=if p=L then x else h p)(ea:∀v,0≤v->a' v=if v=x.2 then L+1 else a v) :
  Ix n (L+1) h' a'/\∀v,0≤v->v<n->Kf h' a' v=if v=x.2 then some x.1 else Kf h a v:=by
 have hL:h' L=x:=by rw[eh L L0 Xo,if_pos rfl]
 have hp:∀p,0≤p->p<L->h' p=h p:=λp p0 p1=>by rw[eh p p0 Xo,if_neg Xo]
 have ax:a' x.2=L+1:=by rw[ea _ x0,if_pos rfl]
 have ao:∀v,0≤v->v≠x.2->a' v=a v:=λv v0 hv=>by rw[ea v v0,if_neg hv]
 refine⟨⟨λp p0 p1=>?_,λv v0 v1=>?_⟩,λv v0 v1=>?_⟩
 ·by_cases e:p=L
  ·subst e;rw[hL];exact⟨x0,x1,ax⟩
  ·rw[hp p p0 Xo];obtain⟨f0,f1,f2⟩:=I.fwd p p0 Xo;exact⟨f0,f1,by rw[ao _ f0 (λe=>by rw[e,hz]at f2;omega)];exact f2⟩
 ·by_cases e:v=x.2
  ·subst e;rw[ax];exact⟨Xo,Xo,λ_=>by rw[show L+1-1=L from Xo,hL]⟩
  ·rw[ao v v0 e];obtain⟨b0,b1,b2⟩:=I.bwd v v0 v1;exact⟨b0,Xo,λk=>by rw[hp _ Xo Xo];exact b2 k⟩
 ·unfold Kf;by_cases e:v=x.2
  ·subst e;rw[ax,if_neg Xo,if_pos rfl,show L+1-1=L from Xo,hL]
  ·rw[ao v v0 e,if_neg e];obtain⟨b0,b1,b2⟩:=I.bwd v v0 v1;by_cases k:a v=0
   ·rw[if_pos k,if_pos k]
   ·rw[if_neg k,if_neg k,hp _ Xo Xo]
theorem Ix.rekey(I:Ix n L h a){i:Int}(i0:0≤i)(i1:i<L)(hx:(h i).2=x.2)(eh:∀p,0≤p->p<L->h' p=if p=i then x else h p)(ea:∀v,0≤v->a' v=if v=x.2 then i+1 else a v) :
  Ix n L h' a'/\∀v,0≤v->v<n->Kf h' a' v=if v=x.2 then some x.1 else Kf h a v:=by
 obtain⟨fi0,fi1,fi2⟩:=I.fwd i i0 i1;rw[hx]at fi0 fi1 fi2;have hi:h' i=x:=by rw[eh i i0 i1,if_pos rfl]
 have hp:∀p,0≤p->p<L->p≠i->h' p=h p:=λp p0 p1 e=>by rw[eh p p0 p1,if_neg e]
 have h2:∀p,0≤p->p<L->(h' p).2=(h p).2:=λp p0 p1=>by
  by_cases e:p=i
  ·subst e;rw[hi,hx]
  ·rw[hp p p0 p1 e]
 have av:∀v,0≤v->a' v=a v:=λv v0=>by
  rw[ea v v0];split
  ·rename_i e;subst e;exact fi2.symm
  ·rfl
 refine⟨⟨λp p0 p1=>?_,λv v0 v1=>?_⟩,λv v0 v1=>?_⟩
 ·rw[h2 p p0 p1];obtain⟨f0,f1,f2⟩:=I.fwd p p0 p1;exact⟨f0,f1,by rw[av _ f0];exact f2⟩
 ·rw[av v v0];obtain⟨b0,b1,b2⟩:=I.bwd v v0 v1;exact⟨b0,b1,λk=>by rw[h2 _ Xo Xo];exact b2 k⟩
 ·unfold Kf;rw[av v v0];obtain⟨b0,b1,b2⟩:=I.bwd v v0 v1;by_cases e:v=x.2
  ·subst e;rw[fi2,if_neg Xo,if_pos rfl,show i+1-1=i from Xo,hi]
  ·rw[if_neg e];by_cases k:a v=0
   ·rw[if_pos k,if_pos k]
   ·rw[if_neg k,if_neg k,hp _ Xo Xo (λe2=>e (by rw[← b2 k,e2,hx]))]
theorem Ix.rem0(I:Ix n L h a)(L1:1≤L)(eh:∀p,0≤p->p<L-1->h' p=if p=0 then h (L-1) else h p)
  (ea:∀v,0≤v->a' v=if v=(h 0).2 then 0 else if v=(h (L-1)).2 then 1 else a v) :
  Ix n (L-1) h' a'/\∀v,0≤v->v<n->Kf h' a' v=if v=(h 0).2 then none else Kf h a v:=by
 obtain⟨f0,f1,f2⟩:=I.fwd 0 Xo Xo;obtain⟨l0,l1,l2⟩:=I.fwd (L - 1) Xo Xo;have a0:a' (h 0).2=0:=by rw[ea _ f0,if_pos rfl]
 have ao:∀v,0≤v->v≠(h 0).2->v≠(h (L-1)).2->a' v=a v:=λv v0 h1 h2=>by rw[ea v v0,if_neg h1,if_neg h2]
 have hp:∀p,0≤p->p<L-1->p≠0->h' p=h p:=λp p0 p1 e=>by rw[eh p p0 p1,if_neg e]
 refine⟨⟨λp p0 p1=>?_,λv v0 v1=>?_⟩,λv v0 v1=>?_⟩
 ·by_cases e:p=0
  ·subst e;rw[eh 0 p0 p1,if_pos rfl];refine⟨l0,l1,?_⟩;rw[ea _ l0,if_neg (λe=>by have:=I.inj Xo Xo Xo Xo e;omega),if_pos rfl];omega
  ·rw[hp p p0 p1 e];obtain⟨g0,g1,g2⟩:=I.fwd p p0 Xo;refine⟨g0,g1,?_⟩;rw[ao _ g0 (λe2=>by have:=I.inj p0 Xo Xo Xo e2;omega) (λe2=>by have:=I.inj p0 Xo Xo Xo e2;omega)];exact g2
 ·by_cases e:v=(h 0).2
  ·subst e;rw[a0];exact⟨Xo,Xo,λk=>absurd rfl k⟩
  ·by_cases e2:v=(h (L-1)).2
   ·subst e2;have hL:L-1≠0:=λk=>e (by rw[k]);rw[ea _ l0,if_neg e,if_pos rfl];exact⟨Xo,Xo,λ_=>by rw[show (1:Int)-1=0 from rfl,eh 0 Xo Xo,if_pos rfl]⟩
   ·rw[ao v v0 e e2];obtain⟨b0,b1,b2⟩:=I.bwd v v0 v1;have hb:a v≠0->a v-1≠0/\a v-1≠L-1:=λk=>⟨λq=>e (by rw[← b2 k,q]),λq=>e2 (by rw[← b2 k,q])⟩;refine⟨b0,?_,λk=>?_⟩
    ·by_cases k:a v=0
     ·omega
     ·have:=hb k;omega
    ·have:=hb k;rw[hp _ Xo Xo this.1];exact b2 k
 ·unfold Kf;by_cases e:v=(h 0).2
  ·subst e;rw[a0,if_pos rfl,if_pos rfl]
  ·rw[if_neg e];by_cases e2:v=(h (L-1)).2
   ·subst e2;have hL:L-1≠0:=λk=>e (by rw[k]);rw[ea _ l0,if_neg e,if_pos rfl,l2,if_neg Xo,if_neg Xo,show (1:Int)-1=0 from rfl,eh 0 Xo Xo,if_pos rfl,show L-1+1-1=L-1 from Xo]
   ·rw[ao v v0 e e2];obtain⟨b0,b1,b2⟩:=I.bwd v v0 v1;by_cases k:a v=0
    ·rw[if_pos k,if_pos k]
    ·have h1:a v-1≠0:=λq=>e (by rw[← b2 k,q]);have h2:a v-1≠L-1:=λq=>e2 (by rw[← b2 k,q]);rw[if_neg k,if_neg k,hp _ Xo Xo h1]
end
end Go.Vd


namespace Go.Vd
theorem ZoL{E:Type}[Inhabited E]{l:List E}{x:E}{p:Int}(p0:0≤p):gt (l++[x]) p=if p=(l.length:Int) then x else gt l p:=by
 unfold gt;rw[Yl,Yl];by_cases h:p=(l.length:Int)
 ·subst h;simp
 ·rw[if_neg h];by_cases h2:p<(l.length:Int)
  ·rw[YF Xo]
  ·rw[YQ (by simp;omega),YQ Xo]
theorem Zo1{E:Type}[Inhabited E]{l:List E}{m:Nat}{p:Int}(p0:0≤p)(p1:p<(m:Int)):gt (l.take m) p=gt l p:=by
 unfold gt;rw[Yl,Yl,YY,if_pos Xo]
theorem Hp.key_in{n:Int}{h:Yf}{a:List Int}{K:Int->Option Int}(H:Hp n h a K){v k:Int}(v0:0≤v)(v1:v<n)(hk:K v=some k):1≤gt a v/\gt a v≤(h.length:Int)/\gt h (gt a v-1)=(k,v):=by
 have e:=H.key v v0 v1;rw[hk]at e;unfold Kf at e;obtain⟨b0,b1,b2⟩:=H.ix.bwd v v0 v1;by_cases hz:gt a v=0
 ·rw[if_pos hz]at e;cases e
 ·rw[if_neg hz]at e;refine⟨Xo,b1,Prod.ext ?_ (b2 hz)⟩;exact Option.some.inj e
theorem Hp.key_out{n:Int}{h:Yf}{a:List Int}{K:Int->Option Int}(H:Hp n h a K){v:Int}(v0:0≤v)(v1:v<n)(hk:K v=none):gt a v=0:=by
 have e:=H.key v v0 v1;rw[hk]at e;unfold Kf at e;by_cases hz:gt a v=0
 ·exact hz
 ·rw[if_neg hz]at e;cases e
theorem Zoe{n:Int}{h:Yf}{a:List Int}{K:Int->Option Int}(H:Hp n h a K)(O:Ord4 h.length (gt h)){id key:Int}(v0:0≤id)(v1:id<n)(hn:n≤1099511627776)
  (hk:∀old,K id=some old->key≤old) (room:h.length+1≤1099511627776) :
  T (Zdz h a id key) λr=>r.1=Er.nil/\r.2.2.length≤h.length+1/\Hp n r.2.2 r.2.1 (λv=>if v=id then some key else K v)/\Ord4 r.2.2.length (gt r.2.2):=by
 unfold Zdz;have hal:=H.len
 have hchk:Zar h a id=some Er.nil:=by
  unfold Zar G;rw[if_pos Xo,if_neg Xo]
 obtain⟨b0,b1,b2⟩:=H.ix.bwd id v0 v1;rw[hchk,Yk,if_pos rfl];simp only[T_G];refine⟨Xo,Xo,?_⟩
 -- the item is laid
 suffices key':∀(h1:Yf) (i:Int),0≤i->i<(h1.length:Int)->h1.length≤h.length+1->Hp n (h1.set i.toNat (key,id)) (a.set id.toNat (i+1)) (λv=>if v=id then some key else K v)->Up4 h1.length (gt (h1.set i.toNat (key,id))) i ->
   T ((Zau h1 a i key id).bind λy94=>((Za8 y94.1 y94.2 i).bind λy103=>G (id<(y103.2.length:Int)) (G (-9223372036854775808≤((gt y103.2 id)-1)/\((gt y103.2 id)-1)≤9223372036854775807) (((Zbw y103.1 y103.2 ((gt y103.2 id)-1)).bind λy116=>some (Er.nil,y116.2,y116.1))))))
    λr=>r.1=Er.nil/\r.2.2.length≤h.length+1/\Hp n r.2.2 r.2.1 (λv=>if v=id then some key else K v)/\Ord4 r.2.2.length (gt r.2.2) by
  by_cases hz:gt a id=0
  ·refine Zo (λo=>o=(h++[(0,0)],(h.length:Int))) ?_ ?_
   ·rw[if_pos Xo];simp only[T_G,Zd,and_true];omega
   ·rintro _ rfl;have hl:(h++[((0:Int),(0:Int))]).length=h.length+1:=Xs
    have eh:∀p,0≤p->p≤(h.length:Int)->gt ((h++[((0:Int),(0:Int))]).set ((h.length:Int)).toNat (key,id)) p=if p=(h.length:Int) then (key,id) else gt h p:=λp p0 p1=>by
     rw[Zbn Xo (by rw[hl];omega) p0,ZoL p0];by_cases e:p=(h.length:Int)
     ·rw[if_pos e,if_pos e]
     ·rw[if_neg e,if_neg e,if_neg e]
    have ea:∀v,0≤v->gt (a.set id.toNat ((h.length:Int)+1)) v=if v=id then (h.length:Int)+1 else gt a v:=λv w0=>Zbn v0 Xo w0;obtain⟨s1,s2⟩:=H.ix.add (x:=(key,id)) Xo v0 v1 hz eh ea;refine key' (h++[(0,0)]) h.length Xo (by rw[hl];omega) Xo ⟨by simpa using hal,by simp;omega,by simpa using s1,λv w0 w1=>?_⟩ ?_
    ·rw[s2 v w0 w1,H.key v w0 w1]
    ·rw[hl];have pl:∀p,1≤p->ZU p<p/\0≤ZU p:=λp hp=>by unfold ZU;omega
     refine⟨λp p0 p1 hp=>?_,λi0 c c0 c1 hc=>?_⟩
     ·have:=pl p p0;rw[eh p Xo Xo,if_neg hp,eh _ Xo Xo,if_neg Xo];exact O p p0 Xo
     ·have:=pl c c0;omega
  ·refine Zo (λo=>o=(h,gt a id-1)) ?_ ?_
   ·rw[if_neg Xo];simp only[Zd]
   ·rintro _ rfl;have hb:=b2 hz
    have hK:K id=some (gt h (gt a id-1)).1:=by
     rw[← H.key id v0 v1];unfold Kf;rw[if_neg hz]
    have hle:=hk _ hK;have eh:∀p,0≤p->p<(h.length:Int)->gt (h.set (gt a id-1).toNat (key,id)) p=if p=gt a id-1 then (key,id) else gt h p:=λp p0 p1=>Zbn Xo Xo p0;have ea:∀v,0≤v->gt (a.set id.toNat (gt a id-1+1)) v=if v=id then gt a id-1+1 else gt a v:=λv w0=>Zbn v0 Xo w0;obtain⟨s1,s2⟩:=H.ix.rekey (x:=(key,id)) Xo Xo hb eh ea;refine key' h (gt a id-1) Xo Xo Xo ⟨by simpa using hal,by simpa using H.small,by simpa using s1,λv w0 w1=>?_⟩ ?_
    ·rw[s2 v w0 w1,H.key v w0 w1]
    ·have pl:∀p,1≤p->ZU p<p/\0≤ZU p:=λp hp=>by unfold ZU;omega
     refine⟨λp p0 p1 hp=>?_,λi0 c c0 c1 hc=>?_⟩
     ·have:=pl p p0;rw[eh p Xo p1,if_neg hp,eh _ Xo Xo];have hO:=O p p0 p1;split
      ·rename_i e
       rw[e]at hO;revert hO;generalize hg:gt h (gt a id-1)=y at *;unfold Less;dsimp only;omega
      ·exact hO
     ·have:=pl c c0;have:=pl (gt a id-1) i0;rw[eh c Xo c1,if_neg Xo,eh _ Xo Xo,if_neg Xo];have h1:=O c c0 c1;rw[hc]at h1;exact Zes h1 (O _ i0 Xo)
 intro h1 i i0 i1 hl hH hU;rw[Zhg i0 i1 v0 Xo Xo,Yk];have hl2:(h1.set i.toNat (key,id)).length=h1.length:=Xs
 refine Zo _ (p_up hH i0 (by rw[hl2];exact i1) (by rw[hl2];exact hU)) ?_;rintro⟨h2,a2⟩⟨l2,H2,O2⟩;dsimp only at *;obtain⟨k1,k2,k3⟩:=H2.key_in v0 v1 (if_pos rfl);have hl2':=H2.len;rw[hl2]at l2 O2;simp only[T_G];refine⟨Xo,Xo,?_⟩;rw[← l2]at O2;refine Zo _ (Znk H2 Xo Xo (O2.down Xo)) ?_;rintro⟨h3,a3⟩⟨l3,H3,O3⟩;dsimp only at *;simp only[Zd];exact⟨trivial,Xo,H3,by rw[l3];exact O3⟩
theorem Zmg{h:Yf}{a:List Int}:ZcA h a=some (if (h.length:Int)=0 then (0,0,false) else ((gt h 0).2,(gt h 0).1,true)):=by
 unfold ZcA G;by_cases e:(h.length:Int)=0
 ·rw[if_pos e,if_pos e]
 ·rw[if_neg e,if_neg e,if_pos Xo]
theorem p_Pop{n:Int}{h:Yf}{a:List Int}{K:Int->Option Int}(H:Hp n h a K)(O:Ord4 h.length (gt h))(hn:n≤1099511627776)(hl:0<(h.length:Int)) :
  T (ZaR h a) λr=>(r.2.2.2.2.length:Int)=h.length-1/\Hp n r.2.2.2.2 r.2.2.2.1 (λv=>if v=(gt h 0).2 then none else K v)/\Ord4 r.2.2.2.2.length (gt r.2.2.2.2):=by
 unfold ZaR;have hsm:=H.small;have hal:=H.len;obtain⟨f0,f1,f2⟩:=H.ix.fwd 0 Xo hl;obtain⟨g0,g1,g2⟩:=H.ix.fwd ((h.length:Int) - 1) Xo Xo;have hT:ZcA h a=some ((gt h 0).2,(gt h 0).1,true):=by rw[Zmg,if_neg Xo]
 rw[hT,Yk,if_pos rfl]
 have hkey:Zbf h a (gt h 0).2=some ((gt h 0).1,true):=by
  have hchk:Zar h a (gt h 0).2=some Er.nil:=by
   unfold Zar G;rw[if_pos Xo,if_neg Xo]
  refine Zfb.1 ?_;unfold Zbf;rw[hchk,Yk,if_pos rfl,f2];refine Zo (λo=>o=false) ?_ ?_
  ·simp only[T_G,Zd];exact⟨Xo,rfl⟩
  ·rintro _ rfl;rw[if_neg Xd];simp only[T_G,Zd];exact⟨Xo,Xo,Xo,rfl⟩
 suffices rem:T (Zcs h a (gt h 0).2) λr=>(r.2.2.length:Int)=h.length-1/\Hp n r.2.2 r.2.1 (λv=>if v=(gt h 0).2 then none else K v)/\Ord4 r.2.2.length (gt r.2.2) by
  refine Zo _ rem ?_;rintro⟨b,a',h'⟩ hr;simpa using hr
 unfold Zcs;rw[hkey,Yk];dsimp only;rw[if_neg Xd];simp only[T_G];have htl:((h.take ((h.length:Int)-1).toNat).length:Int)=h.length-1:=by rw[YG];omega
 refine⟨Xo,Xo,Xo,Xo,Xo,?_⟩;rw[f2,Zr];have ea0:∀v,0≤v->gt (a.set (gt h 0).2.toNat 0) v=if v=(gt h 0).2 then 0 else gt a v:=λv w0=>Zbn f0 Xo w0;refine⟨λhlt=>?_,λhge=>?_⟩
 ·have hid:(gt h 0).2≠(gt h ((h.length:Int)-1)).2:=λe=>by have:=H.ix.inj Xo hl Xo Xo e;omega
  rw[show (0:Int)+1-1=0 from rfl,Zhg Xo (by rw[htl];omega) g0 (by simp;omega) Xo,Yk];dsimp only
  have eh:∀p,0≤p->p<(h.length:Int)-1->gt ((h.take ((h.length:Int)-1).toNat).set (0:Int).toNat ((gt h ((h.length:Int)-1)).1,(gt h ((h.length:Int)-1)).2)) p=if p=0 then gt h ((h.length:Int)-1) else gt h p:=λp p0 p1=>by
   rw[Zbn Xo (by rw[htl];omega) p0];by_cases e:p=0
   ·rw[if_pos e,if_pos e]
   ·rw[if_neg e,if_neg e,Zo1 p0 Xo]
  have ea:∀v,0≤v->gt ((a.set (gt h 0).2.toNat 0).set (gt h ((h.length:Int)-1)).2.toNat (0+1)) v=if v=(gt h 0).2 then 0 else if v=(gt h ((h.length:Int)-1)).2 then 1 else gt a v:=λv w0=>by
   rw[Zbn g0 (by simp;omega) w0,ea0 v w0];by_cases e:v=(gt h 0).2
   ·rw[if_neg (λe2=>hid (e.symm.trans e2)),if_pos e,if_pos e]
   ·rw[if_neg e,if_neg e];rfl
  obtain⟨s1,s2⟩:=H.ix.rem0 Xo eh ea;have hl1:(((h.take ((h.length:Int)-1).toNat).set (0:Int).toNat ((gt h ((h.length:Int)-1)).1,(gt h ((h.length:Int)-1)).2)).length:Int)=h.length-1:=by rw[Yv];exact htl
  have HH:Hp n ((h.take ((h.length:Int)-1).toNat).set (0:Int).toNat ((gt h ((h.length:Int)-1)).1,(gt h ((h.length:Int)-1)).2)) ((a.set (gt h 0).2.toNat 0).set (gt h ((h.length:Int)-1)).2.toNat (0+1)) (λv=>if v=(gt h 0).2 then none else K v):=
   ⟨by simpa using hal,Xo,by rw[hl1];exact s1,λv w0 w1=>by rw[s2 v w0 w1,H.key v w0 w1]⟩
  have e0:gt ((a.set (gt h 0).2.toNat 0).set (gt h ((h.length:Int)-1)).2.toNat (0+1)) (gt h ((h.length:Int)-1)).2=1:=by
   rw[ea _ g0,if_neg (Ne.symm hid),if_pos rfl]
  refine Zo _ (p_up0 HH (by rw[hl1];omega)) ?_;rintro⟨h2,a2⟩⟨l2,H2,q2⟩;dsimp only at *;have hl2:=H2.len;have hL2:(h2.length:Int)=h.length-1:=Xo
  -- the place of the item that was moved
  have hpos:gt a2 (gt h ((h.length:Int)-1)).2=1:=by
   obtain⟨_,_,w⟩:=H2.ix.fwd 0 Xo Xo;rw[q2 0 Xo,eh 0 Xo Xo,if_pos rfl]at w;simpa using w
  simp only[T_G];refine⟨Xo,Xo,?_⟩;rw[hpos]
  have D:Down4 h2.length (gt h2) 0:=by
   refine⟨λp p0 p1 hp=>?_,λi0=>Xo⟩;have hpp:ZU p<p/\0≤ZU p:=by unfold ZU;omega
   rw[q2 p Xo,q2 _ hpp.2,eh p Xo Xo,if_neg Xo,eh _ hpp.2 Xo,if_neg hp];exact O p p0 Xo
  refine Zo _ (Znk H2 (i:=1-1) Xo Xo D) ?_;rintro⟨h3,a3⟩⟨l3,H3,O3⟩;dsimp only at *;simp only[Zd];exact⟨Xo,H3,by rw[l3];exact O3⟩
 ·have hL:(h.length:Int)=1:=Xo;simp only[Zd];have eh:∀p,0≤p->p<(h.length:Int)-1->gt (h.take ((h.length:Int)-1).toNat) p=if p=0 then gt h ((h.length:Int)-1) else gt h p:=λp p0 p1=>Xo
  have ea:∀v,0≤v->gt (a.set (gt h 0).2.toNat 0) v=if v=(gt h 0).2 then 0 else if v=(gt h ((h.length:Int)-1)).2 then 1 else gt a v:=λv w0=>by
   rw[ea0 v w0,show (h.length:Int)-1=0 from Xo];by_cases e:v=(gt h 0).2
   ·rw[if_pos e,if_pos e]
   ·rw[if_neg e,if_neg e,if_neg e]
  obtain⟨s1,s2⟩:=H.ix.rem0 Xo eh ea;exact⟨htl,⟨by simpa using hal,Xo,by rw[htl];exact s1,λv w0 w1=>by rw[s2 v w0 w1,H.key v w0 w1]⟩,λp p0 p1=>Xo⟩
end Go.Vd


namespace Go.Vd
theorem Hp.keys{n:Int}{h:Yf}{a:List Int}{K K':Int->Option Int}(H:Hp n h a K)(e:∀v,0≤v->v<n->K v=K' v):Hp n h a K':=
 ⟨H.len,H.small,H.ix,λv v0 v1=>(H.key v v0 v1).trans (e v v0 v1)⟩
theorem ZkL{E:Type}[Inhabited E]{m:Nat}{x:Int}:gt (Ym m (default:E)) x=default:=by
 unfold gt;rw[Yl,List.getElem?_replicate];split <;> rfl
theorem Zpg{n:Int}(n0:0≤n)(n1:n≤65536):Ze8 n=some (Yr (Ym n.toNat 0)):=by
 refine Zfb.1 ?_;unfold Ze8;refine Zo (λo=>o=false) ?_ ?_
 ·simp only[Zr,Zd];exact⟨λh=>Xo,λ_=>by simp;omega⟩
 ·rintro _ rfl;rw[if_neg Xd];simp only[T_G,Zd,and_true];omega
theorem Hp.empty{n:Int}{m:Nat}(hm:(m:Int)=n):Hp n [] (Ym m (0:Int)) (λ_=>none):=by
 have h0:∀v,gt (Ym m (0:Int)) v=0:=λv=>ZkL (E:=Int);exact⟨by simp;omega,Xs,⟨λp p0 p1=>by simp at p1;omega,λv v0 v1=>by rw[h0];exact⟨Xo,Xs,λk=>absurd rfl k⟩⟩,λv v0 v1=>by unfold Kf;rw[h0,if_pos rfl]⟩
end Go.Vd


namespace Go.Vd
variable{F T' W l:List Int}
theorem p_E(n:Int):Zch n=some n:=rfl
theorem p_Bad{c:Int}{ps:Yf}:Zbu c ps=some (decide (c≠0∨ps≠[])):=by
 unfold Zbu;by_cases h:c=0
 ·rw[if_pos h];subst h;by_cases hp:0<(ps.length:Int)
  ·rw[Zoo (.inr hp),decide_eq_true Xo]
  ·rw[bad_f ⟨rfl,hp⟩,decide_eq_false Xo]
 ·rw[if_neg h,Zoo (.inl h)]
end Go.Vd


namespace Go.Vd
variable{F T' W l:List Int}
theorem p_At{k i c:Int}{ps:Yf}(h:ps.length≤8796093021951):Zb1 k i c ps=some (c,(k,i)::ps):=by
 unfold Zb1 G;rw[if_pos (by simp;omega)];rfl
end Go.Vd


namespace Go.Vd
theorem Zmf{l:List Int}(h:l.length≤17592186043904):Zbb l=some l:=by
 refine Zfb.1 ?_;unfold Zbb;rw[Zf3];refine ZK (λs=>0≤s.2/\s.2≤(l.length:Int)/\s.1=l.take s.2.toNat) (λs=>((l.length:Int)-s.2).toNat) ?_ Xs;rintro⟨m,i⟩⟨h0,h1,h2⟩;dsimp only at h0 h1 h2 ⊢;subst h2;simp only[ZaO,Zr,T_G,Zd,Yo,Yq,YG];refine⟨λhi=>?_,λhi=>YE Xo⟩;and_intros <;> first|omega|exact (ZoO h0 hi).symm
end Go.Vd


namespace Go.Vd
variable[Pins]
section
variable{P:Program}{H H':AH}{E:Type}{C:CR E}{s:Value}{xs zs:List E}{W fp g:Fp}
structure News(C:CR E)(H:AH)(zs:List E)(css:List (List Value))(g:Fp):Prop where
 len:css.length=zs.length
 lt:Lt H g
 is:∃G:Nat->Fp,∀(i:Nat) (x:E) (cs:List Value),zs[i]? = some x->css[i]? = some cs->C.rel H x cs (G i)/\(∀t∈G i,t∈g)/\∀j,j<zs.length->j≠i->Dj (G i) (G j)
end
end Go.Vd


namespace Go.Vd
variable[Pins]
section
class Hd(A:Type) where
 v:A->Value
 one:∀a,(v a).oneCell'=true
instance:Hd Bool:=⟨.bool,λ_=>rfl⟩
instance:Hd Int:=⟨.int .i64,λ_=>rfl⟩
variable{P:Program}{H H':AH}{F A:Type}[Inhabited A][Hd A]{enc:F->List Value}{sz:Nat}{s:Value}{W fp g:Fp}{xs:List (A×List F×List F)}{hol:List (Nat×Bool)}
def sdG(k:Bool)(x:A×List F×List F):List F:=match k with|false=>x.2.1|true=>x.2.2
def sdP(k:Bool)(x:A×List F×List F)(y:List F):A×List F×List F:=match k with|false=>(x.1,y,x.2.2)|true=>(x.1,x.2.1,y)
def sdO(k:Bool):Nat:=match k with|false=>1|true=>2
def sdF(k:Bool)(g1 g2:Fp):Fp:=match k with|false=>g1|true=>g2
def sdH(k:Bool)(h1 h2:Value):Value:=match k with|false=>h1|true=>h2
structure Nd{F A:Type}[Hd A](enc:F->List Value)(sz:Nat)(H:AH)(s:Value)(xs:List (A×List F×List F))(fp:Fp)(hol:List (Nat×Bool)):Prop where
 lt:Lt H fp
 is:∃(css:List (List Value)) (f0:Fp) (G:Nat->Bool->Fp),Ow id 3 H s css f0/\(∀t∈f0,t∈fp)/\css.length=xs.length /\
  (∀(i:Nat) (x:A×List F×List F) (cs:List Value),xs[i]? = some x->css[i]? = some cs->∃h1 h2,cs=[Hd.v x.1,h1,h2]/\h1.oneCell'=true/\h2.oneCell'=true /\
   ∀k,(i,k)∉hol->Ow enc sz H (sdH k h1 h2) (sdG k x) (G i k)) /\
  (∀i k,i<xs.length->(i,k)∉hol->(∀t∈G i k,t∈fp)/\Dj f0 (G i k)/\∀j l,j<xs.length->(j,l)∉hol->(j,l)≠(i,k)->Dj (G i k) (G j l))
theorem Nd.fr(h:Nd enc sz H s xs fp hol)(k:FrS W H H')(hd:Dj W fp):Nd enc sz H' s xs fp hol:=by
 obtain⟨hl,css,f0,G,a,b,c,d,e⟩:=h;refine⟨hl.fr k,css,f0,G,a.fr k (hd.sub b),b,c,λi x cs h1 h2=>?_,e⟩;obtain⟨u1,u2,e1,e2,e3,e4⟩:=d i x cs h1 h2;exact⟨u1,u2,e1,e2,e3,λq hq=>(e4 q hq).fr k (hd.sub (e i q (List.getElem?_eq_some_iff.1 h1).1 hq).1)⟩
theorem Nd.ext(h:Nd enc sz H s xs fp hol)(k:Ext H H'):Nd enc sz H' s xs fp hol:=h.fr (k.frS []) Dj.nil_l
theorem Nd.nil:Nd enc sz H (.slice none 0 0) ([]:List (A×List F×List F)) [] []:=
 ⟨.nil,[],[],λ_ _=>[],.nil Xd,(λ_ h=>(by cases h)),rfl,(λi x cs h=>(by simp at h)),λi k hi=>(by simp at hi)⟩
theorem Nd.form(h:Nd enc sz H s xs fp hol):∃a n c,s=.slice a n c:=by obtain⟨_,css,f0,G,a,_⟩:=h;exact a.form
theorem Nd.one1(h:Nd enc sz H s xs fp hol):s.oneCell'=true:=by obtain⟨_,css,f0,G,a,_⟩:=h;exact a.one1
theorem Nd.lenb{t:TypeId}(h:Nd enc sz H s xs fp hol)(hu:Zd1 P t=true):Zb7 P t s H=some (.int .i64 xs.length):=by
 obtain⟨_,css,f0,G,a,_,b,_⟩:=h;rw[← b];exact a.sq.lenb hu
theorem Nd.idxb{t:TypeId}{k:IntKind}{i:Int}(h:Nd enc sz H s xs fp hol)(ht:Zbh P t=some 3)(h0:0≤i)(h1:i<(xs.length:Int)):ZO P t s (.int k i)=some (elp s 3 i.toNat 0):=by
 obtain⟨_,css,f0,G,a,_,b,_⟩:=h;rw[← b]at h1;exact a.sq.idxb ht h0 h1
theorem Nd.fldq{t:TypeId}{i:Int}{off f d:Nat}(h:Nd enc sz H s xs fp hol)(h0:0≤i)(h1:i<(xs.length:Int))(hf:Zkg P t f=some d):Zz P t (elp s 3 i.toNat off) f=some (elp s 3 i.toNat (off+d)):=by
 obtain⟨_,css,f0,G,a,_,b,_⟩:=h;rw[← b]at h1;exact a.sq.fldq h0 h1 hf
theorem Nd.at(h:Nd enc sz H s xs fp hol){i:Int}(h0:0≤i)(h1:i<(xs.length:Int)) :
  ∃h1 h2,(∀(P:Program) (t:TypeId) (off:Nat) (v:Value),ZeJ P t [Hd.v (gt xs i).1,h1,h2] off=some v->ZbK P t (elp s 3 i.toNat off) H=some v) /\
   (∀k,(i.toNat,k)∉hol->KdS enc sz H (sdH k h1 h2) (sdG k (gt xs i)) fp s 3 i.toNat (sdO k)):=by
 obtain⟨hl,css,f0,G,a,b,c,d,e⟩:=h;have hi:i.toNat<xs.length:=Xo;have hlt:i.toNat<css.length:=Xo;have hc:css[i.toNat]? = some css[i.toNat]:=Yn hlt;obtain⟨u1,u2,e1,e2,e3,e4⟩:=d i.toNat _ _ (ZbG h0 h1) hc;refine⟨u1,u2,λP t off v hv=>?_,λk hk=>⟨(e4 k hk).sq.up (e i.toNat k hi hk).1 hl,?_⟩⟩
 ·have h1':i<(css.length:Int):=Xo;refine a.sq.ld h0 h1' ?_;have:gt css i=css[i.toNat]:=Option.some.inj ((ZbG h0 h1').symm.trans hc);rw[this,e1];exact hv
 ·have hv:css[i.toNat][sdO k]? = some (sdH k u1 u2):=by rw[e1];cases k <;> rfl
  obtain⟨bb,o,n,cc,kd,row,z1,z2,z3,z4⟩:=a.kid hc hv (by cases k <;> decide);exact⟨bb,o,n,cc,kd,row,z1,z2,b _ z3,z4⟩
theorem Nd.borrow(k:Bool){i:Int}{hd:Value}{ys:List F}(h:Nd enc sz H s xs fp hol)(h0:0≤i)(h1:i<(xs.length:Int))(hn:(i.toNat,k)∉hol)(hk:KdS enc sz H hd ys fp s 3 i.toNat (sdO k))(hys:ys=sdG k (gt xs i)) :
  ∃fr g,Nd enc sz H s xs fr ((i.toNat,k)::hol)/\Ow enc sz H hd ys g/\Dj fr g/\(∀t∈fr,t∈fp)/\(∀t∈g,t∈fp):=by
 obtain⟨hl,css,f0,G,a,b,c,d,e⟩:=h;have hi:i.toNat<xs.length:=Xo;have hlt:i.toNat<css.length:=Xo;have hc:css[i.toNat]? = some css[i.toNat]:=Yn hlt;obtain⟨u1,u2,e1,e2,e3,e4⟩:=d i.toNat _ _ (ZbG h0 h1) hc;obtain⟨q1,q2,q3⟩:=e i.toNat k hi hn
 have hh:hd=sdH k u1 u2:=by
  have:=Kid.same a hc (by cases k <;> decide) hk.kid;rw[e1]at this;cases k <;> exact (Option.some.inj this).symm
 have ho:=e4 k hn;rw[← hh,← hys]at ho;refine⟨fp.filter λt=>t∉G i.toNat k,G i.toNat k,⟨hl.sub λt ht=>(List.mem_filter.1 ht).1,css,f0,G,a,?_,c,λj x cs hj hcs=>?_,λj l hj hjl=>?_⟩,ho,?_,λt ht=>(List.mem_filter.1 ht).1,q1⟩
 ·exact λt ht=>List.mem_filter.2 ⟨b t ht,by simpa using λhm=>q2 t ht hm⟩
 ·obtain⟨v1,v2,f1,f2,f3,f4⟩:=d j x cs hj hcs;exact⟨v1,v2,f1,f2,f3,λl hl=>f4 l λhm=>hl (Ys _ hm)⟩
 ·have hne:(j,l)≠(i.toNat,k):=λe=>hjl (by rw[e];exact Yw ..);have hjl':(j,l)∉hol:=λhm=>hjl (Ys _ hm);obtain⟨p1,p2,p3⟩:=e j l hj hjl';have hd2:=p3 i.toNat k hi hn (Ne.symm hne);refine⟨λt ht=>List.mem_filter.2 ⟨p1 t ht,by simpa using λhm=>hd2 t ht hm⟩,p2,λj' l' hj' hl' hne'=>p3 j' l' hj' (λhm=>hl' (Ys _ hm)) hne'⟩
 ·exact λt ht hm=>by have:=(List.mem_filter.1 ht).2;simp at this;exact this hm
theorem Nd.kdOf(k:Bool){i:Int}{hd:Value}(h:Nd enc sz H s xs fp hol)(h0:0≤i)(h1:i<(xs.length:Int))(hn:(i.toNat,k)∉hol)(hk:∃fk,Kid H s 3 i.toNat (sdO k) hd fk):KdS enc sz H hd (sdG k (gt xs i)) fp s 3 i.toNat (sdO k):=by
 obtain⟨u1,u2,_,a2⟩:=h.at h0 h1;have q:=a2 k hn
 have hv:sdH k u1 u2=hd:=by
  obtain⟨x1,x2,x3,x4,x5,x6,x7,x8,x9,y1,y2⟩:=q.kid;obtain⟨_,z1,z2,z3,z4,z5,z6,z7,z8,z9,w1,w2⟩:=hk;rw[x7]at z7;cases z7
  rw[y1]at w1;cases w1
  rw[y2]at w2;exact Option.some.inj w2
 rw[← hv];exact q
theorem Nd.takeK(k:Bool){i:Int}{hd hd2:Value}{ys:List F}(h:Nd enc sz H s xs fp hol)(h0:0≤i)(h1:i<(xs.length:Int))(hn:(i.toNat,k)∉hol)(hk:KdS enc sz H hd ys fp s 3 i.toNat (sdO k))(hys:ys=sdG k (gt xs i))(hk2:∃fk,Kid H s 3 i.toNat (sdO (!k)) hd2 fk) :
  ∃fr g,Nd enc sz H s xs fr ((i.toNat,k)::hol)/\Ow enc sz H hd ys g/\Dj fr g/\(∀t∈fr,t∈fp)/\(∀t∈g,t∈fp)/\Kid H s 3 i.toNat (sdO k) hd fr/\Kid H s 3 i.toNat (sdO (!k)) hd2 fr:=by
 obtain⟨fr,g,n,o,d,s1,s2⟩:=h.borrow k h0 h1 hn hk hys;refine⟨fr,g,n,o,d,s1,s2,?_⟩;obtain⟨hl,css,f0,G,a,b,c,_,_⟩:=n;have hc:css[i.toNat]? = some (css[i.toNat]'Xo):=Yn Xo;have e1:=Kid.same a hc (by cases k <;> decide) hk.kid;have e2:=Kid.same a hc (by cases k <;> decide) hk2.choose_spec;obtain⟨bb,o',n',cc,kd,row,z1,z2,z3,z4⟩:=a.kid hc e1 (by cases k <;> decide);obtain⟨bb2,o2,n2,cc2,kd2,row2,y1,y2,y3,y4⟩:=a.kid hc e2 (by cases k <;> decide);exact⟨⟨bb,o',n',cc,kd,row,z1,z2,b _ z3,z4⟩,⟨bb2,o2,n2,cc2,kd2,row2,y1,y2,b _ y3,y4⟩⟩
theorem Nd.close{t:TypeId}(k:Bool){i:Int}{hd:Value}{y:List F}(hw:WF H)(h:Nd enc sz H s xs fp ((i.toNat,k)::hol))(ho:Ow enc sz H hd y g)(hdj:Dj fp g)(h0:0≤i)(h1:i<(xs.length:Int))(hx:hd.cells.toList=[hd])(hs:(P.info? t).map (·.size)=some 1)(ho1:Zy [hd]=true) :
  ∃H' fp',ZcW P t (elp s 3 i.toNat (sdO k)) hd H=some H'/\FrS fp H H'/\Nd enc sz H' s (xs.set i.toNat (sdP k (gt xs i) y)) fp' hol/\Inn (fp++g) H fp':=by
 obtain⟨hl,css,f0,G,a,b,c,d,e⟩:=h;have hi:i.toNat<xs.length:=Xo;have hic:i.toNat<css.length:=Xo;have hc:css[i.toNat]? = some css[i.toNat]:=Yn hic;have h1c:i<(css.length:Int):=Xo;have hgc:gt css i=css[i.toNat]:=Option.some.inj ((ZbG h0 h1c).symm.trans hc);have hgx:=ZbG h0 h1;obtain⟨u1,u2,e1,e2,e3,e4⟩:=d i.toNat _ _ hgx hc;obtain⟨H',p1,p2,p3⟩:=a.store (P:=P) (t:=t) (off:=sdO k) hw h0 h1c hd [hd] hx hs ho1 (Zaa css[i.toNat] (sdO k) [hd]) (by cases k <;> simp[sdO]) (by rw[hgc];rfl);have hf0g:Dj f0 g:=hdj.subl b;have hone:hd.oneCell'=true:=by unfold Zy at ho1;simpa using ho1
 have hout:∀j l,(j,l)≠(i.toNat,k)->(j,l)∉hol->(j,l)∉(i.toNat,k)::hol:=λj l h1 h2 h3=>(List.mem_cons.1 h3).elim h1 h2;refine⟨H',fp++g,p1,p2.mono b,⟨(hl.fr p2).app (ho.lt.fr p2),css.set i.toNat (Zaa css[i.toNat] (sdO k) [hd]),f0,λj l=>if (j,l)=(i.toNat,k) then g else G j l,p3,λt ht=>YC _ (b t ht),by simp[c],?_,?_⟩,Inn.self⟩
 ·intro j x cs hj hcs;by_cases hji:j=i.toNat
  ·subst hji;rw[Y4 hi]at hj;rw[Y4 hic]at hcs;cases hj;cases hcs
   refine⟨sdH k hd u1,sdH k u2 hd,?_,by cases k <;> assumption,by cases k <;> assumption,λl hlh=>?_⟩
   ·rw[e1];cases k <;> rfl
   ·by_cases hlk:l=k
    ·subst hlk;try dsimp only
     rw[if_pos rfl];have:=ho.fr p2 hf0g;cases l <;> exact this
    ·have hne:((i.toNat,l):Nat×Bool)≠(i.toNat,k):=λe=>hlk (Prod.mk.inj e).2;try dsimp only
     rw[if_neg hne];have hq:=e4 l (hout _ _ hne hlh);have hq2:=hq.fr p2 (e i.toNat l hi (hout _ _ hne hlh)).2.1;cases k <;> cases l <;> first|exact absurd rfl hlk|exact hq2
  ·rw[List.getElem?_set_ne (λe=>hji e.symm)]at hj hcs;obtain⟨v1,v2,f1,f2,f3,f4⟩:=d j x cs hj hcs;refine⟨v1,v2,f1,f2,f3,λl hlh=>?_⟩;have hne:((j,l):Nat×Bool)≠(i.toNat,k):=λe=>hji (Prod.mk.inj e).1;try dsimp only
   rw[if_neg hne];exact (f4 l (hout _ _ hne hlh)).fr p2 (e j l (List.getElem?_eq_some_iff.1 hj).1 (hout _ _ hne hlh)).2.1
 ·intro j l hj hjl;rw[Yv]at hj;by_cases hji:((j,l):Nat×Bool)=(i.toNat,k)
  ·try dsimp only
   rw[if_pos hji];refine⟨λt ht=>YS _ ht,hf0g,λj' l' hj' hl' hne=>?_⟩;rw[Yv]at hj';have hne':((j',l'):Nat×Bool)≠(i.toNat,k):=λe=>hne (e.trans hji.symm);try dsimp only
   rw[if_neg hne'];exact (hdj.symm).sub (e j' l' hj' (hout _ _ hne' hl')).1
  ·try dsimp only
   rw[if_neg hji];obtain⟨q1,q2,q3⟩:=e j l hj (hout _ _ hji hjl);refine⟨λt ht=>YC _ (q1 t ht),q2,λj' l' hj' hl' hne=>?_⟩;rw[Yv]at hj';by_cases hne':((j',l'):Nat×Bool)=(i.toNat,k)
   ·try dsimp only
    rw[if_pos hne'];exact hdj.subl q1
   ·try dsimp only
    rw[if_neg hne'];exact q3 j' l' hj' (hout _ _ hne' hl') hne
theorem Nd.clearAt{t:TypeId}{i:Int}{v:Value}{b0:A}{hol':List (Nat×Bool)}(hw:WF H)(h:Nd enc sz H s xs fp hol)(hp:0<sz)(h0:0≤i)(h1:i<(xs.length:Int))(hx:v.cells.toList=[Hd.v b0,.slice none 0 0,.slice none 0 0])(hs:(P.info? t).map (·.size)=some 3)
  (hh:∀p∈hol,p.1=i.toNat∨p∈hol') :
  ∃H',ZcW P t (elp s 3 i.toNat 0) v H=some H'/\FrS fp H H'/\Nd enc sz H' s (xs.set i.toNat (b0,[],[])) fp hol':=by
 obtain⟨hl,css,f0,G,a,b,c,d,e⟩:=h;have hi:i.toNat<xs.length:=Xo;have hic:i.toNat<css.length:=Xo;have hc:css[i.toNat]? = some css[i.toNat]:=Yn hic;have h1c:i<(css.length:Int):=Xo;have hgc:gt css i=css[i.toNat]:=Option.some.inj ((ZbG h0 h1c).symm.trans hc);obtain⟨u1,u2,e1,e2,e3,e4⟩:=d i.toNat _ _ (ZbG h0 h1) hc;obtain⟨H',p1,p2,p3⟩:=a.store (P:=P) (t:=t) (off:=0) hw h0 h1c v [Hd.v b0,.slice none 0 0,.slice none 0 0] hx hs (by simp[Zy,Hd.one];rfl) [Hd.v b0,.slice none 0 0,.slice none 0 0] Xs (by rw[hgc,e1];rfl);have hout:∀j l,j≠i.toNat->(j,l)∉hol'->(j,l)∉hol:=λj l h1 h2 h3=>(hh _ h3).elim h1 h2;refine⟨H',p1,p2.mono b,⟨hl.fr p2,css.set i.toNat [Hd.v b0,.slice none 0 0,.slice none 0 0],f0,λj l=>if j=i.toNat then [] else G j l,p3,b,by simp[c],?_,?_⟩⟩
 ·intro j x cs hj hcs;by_cases hji:j=i.toNat
  ·subst hji;rw[Y4 hi]at hj;rw[Y4 hic]at hcs;cases hj;cases hcs
   refine⟨_,_,rfl,rfl,rfl,λl _=>?_⟩;try dsimp only
   rw[if_pos rfl];cases l <;> exact .nil hp
  ·rw[List.getElem?_set_ne (λe=>hji e.symm)]at hj hcs;obtain⟨v1,v2,f1,f2,f3,f4⟩:=d j x cs hj hcs;refine⟨v1,v2,f1,f2,f3,λl hlh=>?_⟩;try dsimp only
   rw[if_neg hji];exact (f4 l (hout j l hji hlh)).fr p2 (e j l (List.getElem?_eq_some_iff.1 hj).1 (hout j l hji hlh)).2.1
 ·intro j l hj hjl;rw[Yv]at hj;by_cases hji:j=i.toNat
  ·try dsimp only
   rw[if_pos hji];exact⟨λt ht=>(by cases ht),Dj.nil_r,λ_ _ _ _ _=>Dj.nil_l⟩
  ·try dsimp only
   rw[if_neg hji];obtain⟨q1,q2,q3⟩:=e j l hj (hout j l hji hjl);refine⟨q1,q2,λj' l' hj' hl' hne=>?_⟩;rw[Yv]at hj';by_cases hne':j'=i.toNat
   ·try dsimp only
    rw[if_pos hne'];exact Dj.nil_r
   ·try dsimp only
    rw[if_neg hne'];exact q3 j' l' hj' (hout j' l' hne' hl') hne
theorem Nd.open2{i:Int}(h:Nd enc sz H s xs fp [])(h0:0≤i)(h1:i<(xs.length:Int)) :
  ∃u1 u2 fr g1 g2,(∀(P:Program) (t:TypeId) (v:Value),ZeJ P t [Hd.v (gt xs i).1,u1,u2] 0=some v->ZbK P t (elp s 3 i.toNat 0) H=some v) /\
   Nd enc sz H s xs fr [(i.toNat,true),(i.toNat,false)]/\Ow enc sz H u1 (gt xs i).2.1 g1/\Ow enc sz H u2 (gt xs i).2.2 g2/\Dj fr g1/\Dj fr g2/\Dj g1 g2/\(∀t∈fr,t∈fp)/\(∀t∈g1,t∈fp)/\(∀t∈g2,t∈fp):=by
 obtain⟨u1,u2,a1,a2⟩:=h.at h0 h1;obtain⟨fr,g,b1,b2,b3,b4,b5⟩:=h.borrow false h0 h1 Xs (a2 false Xs) rfl;obtain⟨v1,v2,c1,c2⟩:=b1.at h0 h1
 have hv:v2=u2:=by
  have k1:=(a2 true Xs).kid;have k2:=(c2 true Xs).kid;obtain⟨x1,x2,x3,x4,x5,x6,x7,x8,x9,y1,y2⟩:=k1;obtain⟨z1,z2,z3,z4,z5,z6,z7,z8,z9,w1,w2⟩:=k2;rw[x7]at z7;cases z7
  rw[y1]at w1;cases w1
  rw[y2]at w2;exact (Option.some.inj w2).symm
 obtain⟨fr2,g2,d1,d2,d3,d4,d5⟩:=b1.borrow true h0 h1 Xs (c2 true Xs) rfl;have d2':Ow enc sz H u2 (gt xs i).2.2 g2:=by rw[← hv];exact d2
 exact⟨u1,u2,fr2,g,g2,λP t v hh=>a1 P t 0 v hh,d1,b2,d2',b3.subl d4,d3,λt h1 h2=>b3 t (d5 t h2) h1,λt ht=>b4 t (d4 t ht),b5,λt ht=>b4 t (d5 t ht)⟩
theorem Sq.lenA{E:Type}{enc:E->List Value}{xs:List E}{t:TypeId}(h:Sq enc sz H s xs fp)(hu:Zd1 P t=true):Zb7 P t s H'=some (.int .i64 xs.length):=by
 have q:=h.lenb hu;obtain⟨a,n,c,rfl⟩:=h.form;obtain⟨e,he⟩:=ZdU hu;simp only[Zb7,he]at q ⊢;exact q
theorem Nd.appendE{b:Nat}{a:A}{u1 u2:Value}{y1 y2:List F}{g1 g2:Fp}(m:Nat){at_:Array TypeId}{t0 t1:TypeId}(hw:WF H)(h:Nd enc sz H s xs fp [])(hr:Row H b [Hd.v a,u1,u2])(o1:Ow enc sz H u1 y1 g1)(o2:Ow enc sz H u2 y2 g2)
  (d1:Dj fp g1) (d2:Dj fp g2) (d3:Dj g1 g2) (a0:at_[0]? = some t0) (a1:at_[1]? = some t1) (hT':ZfL P t0=some (3,m)) (hT1':Zd1 P t1=true) (hm:m≠0) (hcap:((xs.length+1)+(xs.length+1) / 4+512)*m≤2 ^ 48) :
  ∃s' H' fp',Zam P at_ s (.slice (some ⟨b,0,none⟩) 1 1) H=some (s',H')/\FrS fp H H'/\Nd enc sz H' s' (xs++[(a,y1,y2)]) fp' []/\Inn (fp++(g1++g2)) H fp':=by
 obtain⟨hl,css,f0,G,ow,hb,hc,hd,he⟩:=h;have hy:Sq id 3 H (.slice (some ⟨b,0,none⟩) 1 1) [[Hd.v a,u1,u2]] [b]:=hr.sqn Xd [[Hd.v a,u1,u2]] Xs Xs 1 rfl
 have hone:∀y∈[[Hd.v a,u1,u2]],Zy (id y)=true:=λy q=>by
  rw[List.mem_singleton.1 q];simp[Zy,Hd.one,o1.one1,o2.one1]
 obtain⟨s',H',f0',e1,e2,e3,e4⟩:=ow.append (P:=P) m hw hy hone a0 a1 hT' hT1' hm (by rw[hc];exact hcap);have hb1:Dj f0 g1:=d1.subl hb;have hb2:Dj f0 g2:=d2.subl hb;refine⟨s',H',f0'++(fp++(g1++g2)),e1,e2.mono hb,⟨?_,css++[[Hd.v a,u1,u2]],f0',λi k=>if i<xs.length then G i k else sdF k g1 g2,e3,λt ht=>YC _ ht,by simp[hc],?_,?_⟩,?_⟩
 ·exact e3.lt.app ((hl.fr e2).app ((o1.lt.fr e2).app (o2.lt.fr e2)))
 ·intro i x cs hx hcs;by_cases hi:i<xs.length
  ·rw[YF hi]at hx;rw[YF Xo]at hcs;obtain⟨v1,v2,q1,q2,q3,q4⟩:=hd i x cs hx hcs;refine⟨v1,v2,q1,q2,q3,λk hk=>?_⟩;dsimp only;rw[if_pos hi];exact (q4 k hk).fr e2 (he i k hi hk).2.1
  ·have hie:i=xs.length:=by
    have:=(List.getElem?_eq_some_iff.1 hx).1;simp at this;omega
   subst hie;rw[YV Xo]at hx;rw[YV Xo,hc]at hcs;simp at hx hcs;subst hx;subst hcs;refine⟨u1,u2,rfl,o1.one1,o2.one1,λk _=>?_⟩;dsimp only;rw[if_neg Xo];cases k with
   | false=>exact o1.fr e2 hb1
   | true=>exact o2.fr e2 hb2
 ·intro i k hi _;rw[Yy,List.length_singleton]at hi;dsimp only;by_cases hi2:i<xs.length
  ·rw[if_pos hi2];obtain⟨q1,q2,q3⟩:=he i k hi2 Xs;refine⟨λt ht=>YS _ (YC _ (q1 t ht)),e4.dj q2 (hl.sub q1),λj l hj _ hne=>?_⟩;by_cases hj2:j<xs.length
   ·rw[if_pos hj2];exact q3 j l hj2 Xs hne
   ·rw[if_neg hj2];cases l with
    | false=>exact d1.subl q1
    | true=>exact d2.subl q1
  ·rw[if_neg hi2];refine⟨λt ht=>YS _ (YS _ ?_),?_,λj l hj _ hne=>?_⟩
   ·cases k with
    | false=>exact YC _ ht
    | true=>exact YS _ ht
   ·cases k with
    | false=>exact e4.dj hb1 o1.lt
    | true=>exact e4.dj hb2 o2.lt
   ·rw[Yy,List.length_singleton]at hj;by_cases hj2:j<xs.length
    ·rw[if_pos hj2];have q:=(he j l hj2 Xs).1;cases k with
     | false=>exact (d1.subl q).symm
     | true=>exact (d2.subl q).symm
    ·rw[if_neg hj2];have:l≠k:=λe=>hne (by rw[e,show j=i by omega]);cases k <;> cases l <;> first|exact absurd rfl this|exact d3|exact d3.symm
 ·refine Inn.app ?_ (λt ht=>.inl ht);exact λt ht=>(e4 t ht).imp (λh=>YC _ (hb t h)) id
theorem Nd.restore(k:Bool){i:Int}{hd:Value}{y:List F}(h:Nd enc sz H s xs fp ((i.toNat,k)::hol))(ho:Ow enc sz H hd y g)(hdj:Dj fp g)(h0:0≤i)(h1:i<(xs.length:Int))(hk:∃fk,Kid H s 3 i.toNat (sdO k) hd fk) :
  ∃fp',Nd enc sz H s (xs.set i.toNat (sdP k (gt xs i) y)) fp' hol/\(∀t∈fp',t∈fp++g):=by
 obtain⟨hl,css,f0,G,a,b,c,d,e⟩:=h;have hi:i.toNat<xs.length:=Xo;have hic:i.toNat<css.length:=Xo;have hc:css[i.toNat]? = some css[i.toNat]:=Yn hic;have hgx:=ZbG h0 h1;obtain⟨u1,u2,e1,e2,e3,e4⟩:=d i.toNat _ _ hgx hc
 have hh:hd=sdH k u1 u2:=by
  have:=Kid.same a hc (by cases k <;> decide) hk.choose_spec;rw[e1]at this;cases k <;> exact (Option.some.inj this).symm
 have hf0g:Dj f0 g:=hdj.subl b;have hout:∀j l,(j,l)≠(i.toNat,k)->(j,l)∉hol->(j,l)∉(i.toNat,k)::hol:=λj l h1 h2 h3=>(List.mem_cons.1 h3).elim h1 h2;refine⟨fp++g,⟨hl.app ho.lt,css,f0,λj l=>if (j,l)=(i.toNat,k) then g else G j l,a,λt ht=>YC _ (b t ht),by simp[c],?_,?_⟩,λt ht=>ht⟩
 ·intro j x cs hj hcs;by_cases hji:j=i.toNat
  ·subst hji;rw[Y4 hi]at hj;rw[hc]at hcs;cases hj;cases hcs
   refine⟨u1,u2,?_,e2,e3,λl hlh=>?_⟩
   ·rw[e1];cases k <;> rfl
   ·by_cases hlk:l=k
    ·subst hlk;try dsimp only
     rw[if_pos rfl,← hh];cases l <;> exact ho
    ·have hne:((i.toNat,l):Nat×Bool)≠(i.toNat,k):=λe=>hlk (Prod.mk.inj e).2;try dsimp only
     rw[if_neg hne];have hq:=e4 l (hout _ _ hne hlh);cases k <;> cases l <;> first|exact absurd rfl hlk|exact hq
  ·rw[List.getElem?_set_ne (λe=>hji e.symm)]at hj;obtain⟨v1,v2,f1,f2,f3,f4⟩:=d j x cs hj hcs;refine⟨v1,v2,f1,f2,f3,λl hlh=>?_⟩;have hne:((j,l):Nat×Bool)≠(i.toNat,k):=λe=>hji (Prod.mk.inj e).1;try dsimp only
   rw[if_neg hne];exact f4 l (hout _ _ hne hlh)
 ·intro j l hj hjl;rw[Yv]at hj;by_cases hji:((j,l):Nat×Bool)=(i.toNat,k)
  ·try dsimp only
   rw[if_pos hji];refine⟨λt ht=>YS _ ht,hf0g,λj' l' hj' hl' hne=>?_⟩;rw[Yv]at hj';have hne':((j',l'):Nat×Bool)≠(i.toNat,k):=λe=>hne (e.trans hji.symm);try dsimp only
   rw[if_neg hne'];exact (hdj.symm).sub (e j' l' hj' (hout _ _ hne' hl')).1
  ·try dsimp only
   rw[if_neg hji];obtain⟨q1,q2,q3⟩:=e j l hj (hout _ _ hji hjl);refine⟨λt ht=>YC _ (q1 t ht),q2,λj' l' hj' hl' hne=>?_⟩;rw[Yv]at hj';by_cases hne':((j',l'):Nat×Bool)=(i.toNat,k)
   ·try dsimp only
    rw[if_pos hne'];exact hdj.subl q1
   ·try dsimp only
    rw[if_neg hne'];exact q3 j' l' hj' (hout _ _ hne' hl') hne
theorem Nd.zeros{n:Nat}(hp:0<sz)(h:Ow id 3 H s (Ym n [.bool false,.slice none 0 0,.slice none 0 0]) fp):Nd enc sz H s (Ym n ((false,[],[]):Bool×List F×List F)) fp []:=by
 refine⟨h.lt,_,fp,λ_ _=>[],h,λ_ h=>h,Xs,λi x cs hx hc=>?_,λi k _ _=>⟨λt h=>(by cases h),Dj.nil_r,λ_ _ _ _ _=>Dj.nil_l⟩⟩;have e1:=YU (YK hx);have e2:=YU (YK hc);subst e1;subst e2;exact⟨_,_,rfl,rfl,rfl,λk _=>by cases k <;> exact .nil hp⟩
end
theorem Ow.form3{E:Type}{enc:E->List Value}{sz:Nat}{H:AH}{s:Value}{xs:List E}{fp:Fp}{i:Int}(h:Ow enc sz H s xs fp)(h1:i<(xs.length:Int))(h0:0≤i):∃b n c,s=.slice (some ⟨b,0,none⟩) n c:=by
 rcases h.is with ⟨_,rfl⟩|⟨φ,_,h2⟩
 ·simp only[Yt]at h1;omega
 ·rcases h2.is with ⟨_,rfl⟩|⟨b,c,kd,cs,g1,_⟩
  ·simp only[Yt]at h1;omega
  ·exact⟨b,_,_,g1⟩
theorem KdS.one1{E':Type}{enc:E'->List Value}{sz' sz i off:Nat}{H:AH}{hd s:Value}{ys:List E'}{fp:Fp}(h:KdS enc sz' H hd ys fp s sz i off):hd.oneCell'=true:=h.sq.one1
end Go.Vd


namespace Go.Proofs
open Go.Shelf Go.RowKit Go.Lib Go.Sort
def Tryz.sortRk_ren:Go.Shelf.Ren:=⟨fun|6=>125|15=>146|14=>162|28=>182|29=>183|20=>188|21=>189|22=>190|23=>191|24=>192|25=>193|26=>194|27=>195|46=>220|47=>214|48=>215|49=>221|50=>222|57=>232|n=>n,fun|22=>134|24=>224|25=>226|3=>3|39=>252|0=>0|53=>60|55=>35|4=>4|46=>303|45=>302|50=>292|5=>5|9=>9|66=>339|70=>283|76=>352|77=>200|n=>n,fun|n=>n⟩
theorem Tryz.sortRk:Go.Proofs.SlLaysF0.n6 Tryz.prog Tryz.sortRk_ren where
 mixed:=by kernel_rfl
 f6:=⟨Tryz.f125.name,by kernel_rfl,Tryz.func125.trans (congrArg some Xk)⟩
 f14:=⟨Tryz.f162.name,by kernel_rfl,Tryz.func162.trans (congrArg some Xk)⟩
 f15:=Tryz.func146.trans (congrArg some Xk)
 f20:=⟨Tryz.f188.name,by kernel_rfl,Tryz.func188.trans (congrArg some Xk)⟩
 f21:=⟨Tryz.f189.name,by kernel_rfl,Tryz.func189.trans (congrArg some Xk)⟩
 f22:=⟨Tryz.f190.name,by kernel_rfl,Tryz.func190.trans (congrArg some Xk)⟩
 f23:=⟨Tryz.f191.name,by kernel_rfl,Tryz.func191.trans (congrArg some Xk)⟩
 f24:=⟨Tryz.f192.name,by kernel_rfl,Tryz.func192.trans (congrArg some Xk)⟩
 f25:=⟨Tryz.f193.name,by kernel_rfl,Tryz.func193.trans (congrArg some Xk)⟩
 f26:=⟨Tryz.f194.name,by kernel_rfl,Tryz.func194.trans (congrArg some Xk)⟩
 f27:=⟨Tryz.f195.name,by kernel_rfl,Tryz.func195.trans (congrArg some Xk)⟩
 f28:=Tryz.func182.trans (congrArg some Xk)
 f29:=Tryz.func183.trans (congrArg some Xk)
 f46:=⟨Tryz.f220.name,by kernel_rfl,Tryz.func220.trans (congrArg some Xk)⟩
 f47:=Tryz.func214.trans (congrArg some Xk)
 f48:=Tryz.func215.trans (congrArg some Xk)
 f49:=⟨Tryz.f221.name,by kernel_rfl,Tryz.func221.trans (congrArg some Xk)⟩
 f50:=⟨Tryz.f222.name,by kernel_rfl,Tryz.func222.trans (congrArg some Xk)⟩
 f57:=⟨Tryz.f232.name,by kernel_rfl,Tryz.func232.trans (congrArg some Xk)⟩
 t0:=Tryz.underlying0
 a0:=Tryz.isAgg0
 z0:=Tryz.sizeOf0
 v0:=Tryz.zeroValue0
 t3:=Tryz.underlying3
 a3:=Tryz.isAgg3
 z3:=Tryz.sizeOf3
 v3:=Tryz.zeroValue3
 t4:=Tryz.underlying4
 a4:=Tryz.isAgg4
 z4:=Tryz.sizeOf4
 v4:=Tryz.zeroValue4
 t5:=Tryz.underlying5
 a5:=Tryz.isAgg5
 z5:=Tryz.sizeOf5
 v5:=Tryz.zeroValue5
 t9:=Tryz.underlying9
 a9:=Tryz.isAgg9
 z9:=Tryz.sizeOf9
 v9:=Tryz.zeroValue9
 t22:=Tryz.underlying134
 a22:=Tryz.isAgg134
 z22:=Tryz.sizeOf134
 v22:=Tryz.zeroValue134
 t25:=Tryz.underlying226
 a25:=Tryz.isAgg226
 z25:=Tryz.sizeOf226
 v25:=Tryz.zeroValue226
 t39:=Tryz.underlying252
 a39:=Tryz.isAgg252
 z39:=Tryz.sizeOf252
 v39:=Tryz.zeroValue252
 t45:=Tryz.underlying302
 a45:=Tryz.isAgg302
 z45:=Tryz.sizeOf302
 v45:=Tryz.zeroValue302
 t46:=Tryz.underlying303
 a46:=Tryz.isAgg303
 z46:=Tryz.sizeOf303
 v46:=Tryz.zeroValue303
 t50:=Tryz.underlying292
 a50:=Tryz.isAgg292
 z50:=Tryz.sizeOf292
 v50:=Tryz.zeroValue292
 t53:=Tryz.underlying60
 a53:=Tryz.isAgg60
 z53:=Tryz.sizeOf60
 v53:=Tryz.zeroValue60
 t55:=Tryz.underlying35
 a55:=Tryz.isAgg35
 z55:=Tryz.sizeOf35
 v55:=Tryz.zeroValue35
 t66:=Tryz.underlying339
 a66:=Tryz.isAgg339
 z66:=Tryz.sizeOf339
 v66:=Tryz.zeroValue339
 t70:=Tryz.underlying283
 a70:=Tryz.isAgg283
 z70:=Tryz.sizeOf283
 v70:=Tryz.zeroValue283
 t76:=Tryz.underlying352
 a76:=Tryz.isAgg352
 z76:=Tryz.sizeOf352
 v76:=Tryz.zeroValue352
 t77:=Tryz.underlying200
 a77:=Tryz.isAgg200
 z77:=Tryz.sizeOf200
 v77:=Tryz.zeroValue200
theorem Tryz.isAggR:∀w,(isAgg 224).run Tryz.prog w=.ok true w:=by
 intro w;kernel_rfl
theorem Tryz.sizeOfR:∀w,(Go.sizeOf 224).run Tryz.prog w=.ok 3 w:=by
 intro w;kernel_rfl
end Go.Proofs
namespace Go.Proofs.YtlfclppjhkeljaaGreat
open Go.RowKit Go.Sort Go.Proofs
theorem nanW(x:Int)(W:World):Calls Tryz.prog 161 #[.int .i64 x] W λe w'=>e=.returned (.bool false)/\w'=W:=by
 go_enter Tryz.func161,Tryz.ntmps161;go_wp2;go_ret;exact⟨Xs,rfl⟩
theorem cmpW(x y:Int)(W:World):Calls Tryz.prog 124 #[.int .i64 x,.int .i64 y] W λe w'=>e=.returned (.int .i64 (if x<y then -1 else if x>y then 1 else 0))/\w'=W:=by
 have hn:=nanW;by_cases h1:x<y
 ·have d1:decide (x<y)=true:=decide_eq_true h1;go_enter Tryz.func124,Tryz.ntmps124;go_wp2_with (go_at_call 161;refine (hn _ _).mono ?_;rintro e w' ⟨rfl,rfl⟩);go_ret;exact⟨rfl,rfl⟩
 ·have d1:decide (x<y)=false:=decide_eq_false h1;by_cases h2:x>y
  ·have d2:decide (x>y)=true:=decide_eq_true h2;go_enter Tryz.func124,Tryz.ntmps124;go_wp2_with (go_at_call 161;refine (hn _ _).mono ?_;rintro e w' ⟨rfl,rfl⟩);go_ret;exact⟨rfl,rfl⟩
  ·have d2:decide (x>y)=false:=decide_eq_false h2;go_enter Tryz.func124,Tryz.ntmps124;go_wp2_with (go_at_call 161;refine (hn _ _).mono ?_;rintro e w' ⟨rfl,rfl⟩);go_ret;exact⟨rfl,rfl⟩
theorem byRankW(x1 x2 x3 y1 y2 y3 rx ry r:Int)(a:Addr)(k o n c:Nat)(W:World)(hv:W.cell? a=some (.slice (some ⟨k,o,none⟩) n c))(ha:a.block<W.heap.size)(hk:k<W.heap.size)(x0:0≤x1)(xn:x1<n)(y0:0≤y1)(yn:y1<n)
  (hx:W.cell? ⟨k,o+x1.toNat,none⟩=some (.int .i64 rx)) (hy:W.cell? ⟨k,o+y1.toNat,none⟩=some (.int .i64 ry)) (hr:(if rx<ry then -1 else if rx>ry then 1 else 0:Int)=r) :
  Calls Tryz.prog 123 #[.agg #[.int .i64 x1,.int .u64 x2,.int .i64 x3],.agg #[.int .i64 y1,.int .u64 y2,.int .i64 y3],.pointer (some a)] W λe w'=>e=.returned (.int .i64 r)/\∃q os',w'=grow (W.drewN q) os':=by
 have hn:=λW'=>cmpW rx ry W';rw[hr]at hn;have hn':∀W',Calls Tryz.prog 124 #[.int .i64 rx,.int .i64 ry] W' λe w'=>e=.returned (.int .i64 r)/\∃q os',w'=grow (W'.drewN q) os':=λW'=>(hn W').mono λ_ _ ⟨he,hw⟩=>⟨he,0,#[],by rw[hw,grow_empty];rfl⟩;have mixed:Tryz.prog.follows .mixedOrders=true:=by kernel_rfl
 go_enter Tryz.func123,Tryz.ntmps123;go_wp2
 have e0:(W.alloc (Obj.cells #[Value.int IntKind.i64 x1,Value.int IntKind.u64 x2,Value.int IntKind.i64 x3] 224)).alloc (Obj.cells #[Value.int IntKind.i64 y1,Value.int IntKind.u64 y2,Value.int IntKind.i64 y3] 224)=grow W #[.cells #[.int .i64 x1,.int .u64 x2,.int .i64 x3] 224,.cells #[.int .i64 y1,.int .u64 y2,.int .i64 y3] 224]:=by
  rw[alloc_eq_grow,alloc_eq_grow,grow_grow];rfl
 rw[e0]
 have old:∀(b:Addr) (v:Value),b.block<W.heap.size->W.cell? b=some v->∀n os,(grow ((grow W #[.cells #[.int .i64 x1,.int .u64 x2,.int .i64 x3] 224,.cells #[.int .i64 y1,.int .u64 y2,.int .i64 y3] 224]).drewN n) os).cell? b=some v:=λb v hb h n os=>by
  rw[cell?_grow _ _ _ (by show b.block<(grow W _).heap.size;rw[Go.Vd.Ze2];omega)];show (grow W _).cell? b=_;rw[cell?_grow _ _ _ hb,h]
 have f1:=old a _ ha hv;have f2:=old ⟨k,o+x1.toNat,none⟩ _ hk hx;have f3:=old ⟨k,o+y1.toNat,none⟩ _ hk hy
 have f4:∀n os,(grow ((grow W #[.cells #[.int .i64 x1,.int .u64 x2,.int .i64 x3] 224,.cells #[.int .i64 y1,.int .u64 y2,.int .i64 y3] 224]).drewN n) os).cell? ⟨W.heap.size,0,none⟩=some (.int .i64 x1):=λn os=>by
  rw[cell?_grow _ _ _ (by show W.heap.size<(grow W _).heap.size;rw[Go.Vd.Ze2];simp)];show (grow W _).cell? _=_;simp[World.cell?,grow]
 have f5:∀n os,(grow ((grow W #[.cells #[.int .i64 x1,.int .u64 x2,.int .i64 x3] 224,.cells #[.int .i64 y1,.int .u64 y2,.int .i64 y3] 224]).drewN n) os).cell? ⟨W.heap.size+1,0,none⟩=some (.int .i64 y1):=λn os=>by
  rw[cell?_grow _ _ _ (by show W.heap.size+1<(grow W _).heap.size;rw[Go.Vd.Ze2];simp)];show (grow W _).cell? _=_;simp[World.cell?,grow]
 clear old hv hx hy;generalize hg:grow W #[.cells #[.int .i64 x1,.int .u64 x2,.int .i64 x3] 224,.cells #[.int .i64 y1,.int .u64 y2,.int .i64 y3] 224]=V at f1 f2 f3 f4 f5 ⊢;go_quiet_grown (first|(go_at_call 124;refine Calls.grown_of (hn' _)));subst hg;go_wp2;go_ret;exact⟨rfl,nq,_,by show grow (grow (W.drewN nq) _) osq=_;rw[grow_grow]⟩
end Go.Proofs.YtlfclppjhkeljaaGreat
namespace Go.Vd
open Go.Proofs Go.Sort Go.RowKit
def Zgg(x:Int×Int×Int):List Value:=[.int .i64 x.1,.int .u64 x.2.1,.int .i64 x.2.2]
theorem ZnQ{H:AH}{bv n:Nat}{rk:Value}{R:List Int}{fr fp:Fp}{xs:Yd}(hb:Row H bv [rk])(hr:Sq (Zq .i64) 1 H rk R fr)(d1:Dj fp [bv])(d2:Dj fp fr)(on:SortOn (Zd6 R) xs)[hi:Inhabited {x // x∈xs}] :
  Zkb (E:={x // x∈xs}) (λy=>Zgg y.1) H fp (λx y=>Zd6 R x.1 y.1) 123 #[.pointer (some ⟨bv,0,none⟩)] n:=by
 intro μ w cb hrel hab b p hp ht hro hne0
 obtain⟨pv,hpv,rfl⟩:∃pv,μ bv=some pv/\cb=#[.pointer (some ⟨pv.blk,pv.off+0,none⟩)]:=by
  have h0:=hab.2 0;have hs:=hab.1;match cb,hs,h0 with
  | ⟨[x]⟩,_,h0 =>
   have h0':VRel μ (.pointer (some ⟨bv,0,none⟩)) x:=h0;cases h0' with
   | ptr _ _ pv hpv=>exact⟨pv,hpv,rfl⟩
 intro m os dk hdk x y;obtain⟨r,hr1⟩:=on.ans x.1 x.2 y.1 y.2;have hr2:(Zd6 R x.1 y.1).getD 0=r:=by rw[hr1];rfl
 obtain⟨x0,x1,y0,y1,hrr⟩:0≤x.1.1/\x.1.1<(R.length:Int)/\0≤y.1.1/\y.1.1<(R.length:Int)/\(if gt R x.1.1<gt R y.1.1 then -1 else if gt R x.1.1>gt R y.1.1 then 1 else 0:Int)=r:=by
  unfold Zd6 at hr1;split at hr1
  ·rename_i hc;exact⟨hc.1,hc.2.1,hc.2.2.1,hc.2.2.2,Option.some.inj hr1⟩
  ·cases hr1
 have hpos:0<R.length:=Xo;obtain⟨kb,cb',hgb,hnr⟩:=hro;rcases hr.is with ⟨_,rfl⟩|⟨hsl,htok⟩
 ·simp at hpos
 rcases hsl.is with ⟨_,rfl⟩|⟨br,o,c,kd,cs,rfl,h2,h3,h4,h5,h6⟩
 ·simp at hpos
 have htr:=(htok br o _ c rfl).2
 -- the variable
 obtain⟨ov,g1,g2⟩:=hrel.ok bv pv hpv;rw[hb.row]at g1;cases g1;obtain⟨⟨cm,ty,frz,k1,k2,k3,k4⟩,_,_⟩:=g2;obtain⟨rk',a1,a2⟩:=k4 0 _ rfl
 obtain⟨pr,hpr,rfl⟩:∃pr,μ br=some pr/\rk'=.slice (some ⟨pr.blk,pr.off+o,none⟩) R.length (c+pr.exs):=by
  generalize hn:R.length=q at a2 hpos;cases a2 with
  | slice _ _ _ _ pr h=>exact⟨pr,h,rfl⟩
  | sliceEnd _ _ _ pr h=>omega
 -- the ranks
 obtain⟨orr,g3,g4⟩:=hrel.ok br pr hpr;rw[h3]at g3;cases g3;obtain⟨⟨cm2,ty2,frz2,l1,l2,l3,l4⟩,_,_⟩:=g4
 have cell:∀i:Int,0≤i->i<(R.length:Int)->w.cell? ⟨pr.blk,pr.off+o+i.toNat,none⟩=some (.int .i64 (gt R i)):=λi i0 i1=>by
  have e:=h6 i.toNat _ (ZbG i0 i1) 0 Xd;have e':cs[o+i.toNat]? = some (.int .i64 (gt R i)):=by simpa [Zq] using e
  obtain⟨v',b1,b2⟩:=l4 _ _ e';cases b2
  rw[show pr.off+(o+i.toNat)=pr.off+o+i.toNat from Xo]at b1;simp[World.cell?,l1,b1]
 have hv:w.cell? ⟨pv.blk,pv.off+0,none⟩=some (.slice (some ⟨pr.blk,pr.off+o,none⟩) R.length (c+pr.exs)):=by simp[World.cell?,k1];simpa using a1
 have ne1:pv.blk≠p.blk:=λe=>by
  by_cases hbb:bv=b
  ·subst hbb;rw[hb.tok]at ht;exact d1 _ ht (List.mem_singleton.2 rfl)
  ·have:=hrel.apart bv b pv p _ _ hpv hp hbb e hb.row hgb;cases kb <;> exact this
 have ne2:pr.blk≠p.blk:=λe=>by
  by_cases hbb:br=b
  ·subst hbb;exact d2 _ ht htr
  ·have:=hrel.apart br b pr p _ _ hpr hp hbb e h3 hgb;cases kb with
   | ro=>exact hnr rfl
   | own=>cases kd <;> exact this
   | loose φ z =>
    cases kd with
    | ro=>exact this
    | own=>exact this
    | loose ψ z' =>
     have e1:ψ=φ:=this;have t1:ZI H b=φ:=by unfold ZI;rw[hgb]
     have t2:ZI H br=ψ:=by unfold ZI;rw[h3]
     rw[t1]at ht;rw[t2,e1]at htr;exact d2 _ ht htr
 have oth:∀a:Addr,a.block<w.heap.size->a.block≠p.blk->(sortWorldK (λy:{x // x∈xs}=>Zgg y.1) 3 w p.blk p.off m dk os).cell? a=w.cell? a:=λa h1 h2=>by
  unfold sortWorldK;rw[cell?_grow _ _ _ (by show a.block<(putRowK _ 3 _ p.blk p.off dk).heap.size;rw[size_putRowK];exact h1),cell?_putRowK_other _ _ _ _ _ _ _ h2];rfl
 have s1:=(hrel.lt bv pv hpv).2;have s2:=(hrel.lt br pr hpr).2
 have sz:w.heap.size≤(sortWorldK (λy:{x // x∈xs}=>Zgg y.1) 3 w p.blk p.off m dk os).heap.size:=by
  unfold sortWorldK;rw[Ze2];show _≤(putRowK _ 3 _ p.blk p.off dk).heap.size+_;rw[size_putRowK];exact Nat.le_add_right _ _
 have key:=Go.Proofs.YtlfclppjhkeljaaGreat.byRankW x.1.1 x.1.2.1 x.1.2.2 y.1.1 y.1.2.1 y.1.2.2 _ _ r ⟨pv.blk,pv.off+0,none⟩ pr.blk (pr.off+o) R.length (c+pr.exs) (sortWorldK (λy:{x // x∈xs}=>Zgg y.1) 3 w p.blk p.off m dk os) (by rw[oth _ s1 ne1];exact hv) (by show pv.blk<_;omega) Xo x0 x1 y0 y1
  (by rw[oth _ s2 ne2];exact cell _ x0 x1) (by rw[oth _ s2 ne2];exact cell _ y0 y1) hrr
 refine key.mono ?_;rintro e w' ⟨he,hw⟩;exact⟨by rw[he];show _=Ending.returned (.int .i64 ((Zd6 R x.1 y.1).getD 0));rw[hr2],hw⟩
theorem ZnD:∀x,(Zgg x).length=3:=λ_=>rfl
theorem ZnB:∀x,∀v∈Zgg x,v.oneCell'=true:=by
 intro x v hv;simp only[Zgg,List.mem_cons,List.not_mem_nil,or_false]at hv;rcases hv with rfl|rfl|rfl <;> rfl
theorem ZmB:∀x,∀v∈Zgg x,plain v=true:=by
 intro x v hv;simp only[Zgg,List.mem_cons,List.not_mem_nil,or_false]at hv;rcases hv with rfl|rfl|rfl <;> rfl
theorem ZlB{H:AH}{s rk:Value}{bv:Nat}{R:List Int}{fr fp:Fp}{xs ys:Yd}(hw:WF H)(h:Ow Zgg 3 H s xs fp)(hb:Row H bv [rk])(hr:Sq (Zq .i64) 1 H rk R fr)(d1:Dj fp [bv])(d2:Dj fp fr)(hl:xs.length≤1000000000000)(hy:ZeS (Zd6 R) xs=some ys) :
  ACalls Tryz.prog 125 #[s,.func (.func 123) #[] #[.pointer (some ⟨bv,0,none⟩)]] H λv H'=>v=.tuple #[]/\FrS fp H H'/\Ow Zgg 3 H' s ys fp:=
 ZkH (ρ:=Tryz.sortRk_ren) { Tryz.sortRk with } Tryz.isAggR Tryz.sizeOfR ZnD ZnB ZmB (Go.Proofs.enters_of Tryz.func123 Xk rfl) (λon hi=>ZnQ hb hr d1 d2 on) hw h hl hy
end Go.Vd

namespace Go.Vd
/-! Steps under short names: what is reckoned is reckoned by itself. -/
section
variable[Pins]{P:Program}{ops:Array Oper}{K:AAct->AH->Prop}{α:AAct}{H:AH}{o:Oper}{rest:List Oper}{tbl:List (List Nat)}{i:Nat}{rs:List Nat}{fl:List (Nat×AAct×Value)}
theorem q_(v:Value)(k:Zs P ops K rest (α.put o.dst v) H)(h:ZbJ P ops o α H=some v:=by kernel_rfl):Zs P ops K (o::rest) α H:=ZhH v h k
theorem l_'(v:Value)(x:Option Value)(h:x=some v)(k:Zs P ops K rest (α.put o.dst v) H)(h1:ZbJ P ops o α H=x:=by kernel_rfl):Zs P ops K (o::rest) α H:=Zb6 v h1 h k
theorem e_'(v:Value)(k:Zu P ops tbl K rs fl (α.put (Zab ops i) v) H)(h:ZcE P ops tbl i rs α H=some v:=by kernel_rfl):Zu P ops tbl K (i::rs) fl α H:=Zc8 v h k
theorem m_'(v:Value)(x:Option Value)(h:x=some v)(k:Zu P ops tbl K rs fl (α.put (Zab ops i) v) H)(h1:ZcE P ops tbl i rs α H=x:=by kernel_rfl):Zu P ops tbl K (i::rs) fl α H:=Zde v h1 h k
theorem Znc:∀{l:List (Nat×Value)},(l.map λp=>α p.1)=l.map (·.2)->Has α l
  | [],_=>trivial
  | (_,_)::_,h=>⟨(List.cons.inj h).1,Znc (List.cons.inj h).2⟩
theorem ha_{l:List (Nat×Value)}(h:(l.map λp=>α p.1)=l.map (·.2):=by kernel_rfl):Has α l:=Znc h
theorem n_'(k:Zs P ops K rest (α.put o.dst undef) H)(hg:Region.wanted o (ZZ ops α)=false:=by kernel_rfl):Zs P ops K (o::rest) α H:=s_no hg k
theorem j_'(k:Zu P ops tbl K rs fl (α.put (Zab ops i) undef) H)(h:Zjq ops i α=true:=by kernel_rfl):Zu P ops tbl K (i::rs) fl α H:=Zng h k
theorem g_'{N id:Nat}{l:List Oper}{Q:Exit->AAct->AH->Prop}(h:Zs P l.toArray (Q .normal) l α H)(hok:ZfA N l=true:=by kernel_rfl):aWp P N (.region id l.toArray false) Q α H:=Zon hok h
theorem w_'(x:Int)(hw:IntKind.i64.wrap x=x)(kk:Zs P ops K rest (α.put o.dst (.int .i64 x)) H)(h:ZbJ P ops o α H=some (.int .i64 (IntKind.i64.wrap x)):=by kernel_rfl):Zs P ops K (o::rest) α H:=s_w x h hw kk
end
abbrev i_(n:Int):Value:=.int .i64 n
abbrev pt_(b o:Nat):Value:=.pointer (some ⟨b,o,none⟩)
end Go.Vd
namespace Go.Vd
section
variable[Pins]{N:Nat}{Q:Exit->AAct->AH->Prop}{ops:Array Oper}{K:AAct->AH->Prop}{α:AAct}{H:AH}{tbl:List (List Nat)}{fl:List (Nat×AAct×Value)}
noncomputable def vQ(ops:Array Oper)(o:Oper)(α:AAct)(H:AH):Value:=if Region.wanted o (ZZ ops α)=true then (ZbJ Tryz.prog ops o α H).getD undef else undef
noncomputable def rQ(ops:Array Oper)(H:AH):Nat->List Oper->AAct->AAct
  | 0,_,α=>α
  | n+1,l,α=>match l with | []=>α|o::r=>rQ ops H n r (α.put o.dst (vQ ops o α H))
noncomputable def kQ(ops:Array Oper)(H:AH):Nat->List Oper->AAct->Bool
  | 0,_,_=>true
  | n+1,l,α=>match l with | []=>true|o::r=>(!Region.wanted o (ZZ ops α) || (ZbJ Tryz.prog ops o α H).isSome) && kQ ops H n r (α.put o.dst (vQ ops o α H))
theorem qs_{rest:List Oper}(n:Nat)(k:Zs Tryz.prog ops K (rest.drop n) (rQ ops H n rest α) H)(h:kQ ops H n rest α=true:=by kernel_rfl):Zs Tryz.prog ops K rest α H:=by
  induction n generalizing rest α with
  | zero=>exact k
  | succ n ih =>
    cases rest with
    | nil=>exact k
    | cons o r =>
      simp only[kQ,YW,Bool.or_eq_true,Bool.not_eq_true']at h;have t:=ih k h.2;cases hw:Region.wanted o (ZZ ops α) with
      | false=>exact s_no hw (by rwa[show vQ ops o α H=undef by unfold vQ;rw[hw];rfl]at t)
      | true =>
        obtain⟨v,hv⟩:=Option.isSome_iff_exists.1 (h.1.resolve_left (by rw[hw];decide));exact ZhH v hv (by rwa[show vQ ops o α H=v by unfold vQ;rw[hw,hv];rfl]at t)
theorem sn_{id:Nat}{l:List Oper}{y:Code}(k:aWp Tryz.prog N y Q (rQ l.toArray H l.length l α) H)(hok:ZfA N l=true:=by kernel_rfl)(h:kQ l.toArray H l.length l α=true:=by kernel_rfl):aWp Tryz.prog N (.seq (.region id l.toArray false) y) Q α H:=
  Zm4 λ_ kk=>Zon hok (qs_ l.length (by rw[List.drop_length];exact Za (kk _ _ k)) h)
noncomputable def vD(ops:Array Oper)(tbl:List (List Nat))(i:Nat)(r:List Nat)(α:AAct)(H:AH):Value:=if Zjq ops i α=true then undef else (ZcE Tryz.prog ops tbl i r α H).getD undef
noncomputable def rD(ops:Array Oper)(tbl:List (List Nat))(H:AH):Nat->List Nat->AAct->AAct
  | 0,_,α=>α
  | n+1,l,α=>match l with | []=>α|i::r=>rD ops tbl H n r (α.put (Zab ops i) (vD ops tbl i r α H))
noncomputable def kD(ops:Array Oper)(tbl:List (List Nat))(H:AH):Nat->List Nat->AAct->Bool
  | 0,_,_=>true
  | n+1,l,α=>match l with | []=>true|i::r=>(Zjq ops i α || (ZcE Tryz.prog ops tbl i r α H).isSome) && kD ops tbl H n r (α.put (Zab ops i) (vD ops tbl i r α H))
theorem es_{rs:List Nat}(n:Nat)(k:Zu Tryz.prog ops tbl K (rs.drop n) fl (rD ops tbl H n rs α) H)(h:kD ops tbl H n rs α=true:=by kernel_rfl):Zu Tryz.prog ops tbl K rs fl α H:=by
  induction n generalizing rs α with
  | zero=>exact k
  | succ n ih =>
    cases rs with
    | nil=>exact k
    | cons i r =>
      simp only[kD,YW,Bool.or_eq_true]at h;have t:=ih k h.2;cases hw:Zjq ops i α with
      | true=>exact Zng hw (by rwa[show vD ops tbl i r α H=undef by unfold vD;rw[hw];rfl]at t)
      | false =>
        obtain⟨v,hv⟩:=Option.isSome_iff_exists.1 (h.1.resolve_left (by rw[hw];decide));exact Zc8 v hv (by rwa[show vD ops tbl i r α H=v by unfold vD;rw[hw,hv];rfl]at t)
end
end Go.Vd
namespace Go.Vd
section
variable[Pins]{P:Program}{α:AAct}{H H':AH}{W:Fp}{b o:Nat}{cs:List Value}{t:TypeId}{v:Value}
theorem Ext.n(h:Ext H H'):H.next≤H'.next:=h.next
theorem FrS.n(h:FrS W H H'):H.next≤H'.next:=h.next
theorem t_{a b c:Nat}(h:a≤b)(k:b≤c):a≤c:=YL h k
theorem Row.l_(h:Row H b cs)(hv:ZeJ P t cs o=some v:=by kernel_rfl):ZbK P t (.pointer (some ⟨b,o,none⟩)) H=some v:=h.ld hv
theorem rt_{t:Nat}{v:Value}{l:List ResultVar}{vs:List Value}(hr:ZdE P α H l=some vs)(h:α t=v:=by kernel_rfl):ZdE P α H (.tmp t::l)=some (v::vs):=Zew h hr
theorem oi_{E:Type}{a b:E}(h:some a=some b):a=b:=Option.some.inj h
theorem f0_(wf:WF H):FrS [] H H:=.refl wf
noncomputable abbrev aL_(t:TypeId)(v:Value)(H:AH):Option Value:=ZbK Tryz.prog t v H
end
end Go.Vd
namespace Go.Vd
section
variable[Pins]{N:Nat}{Q:Exit->AAct->AH->Prop}{ops:Array Oper}{K:AAct->AH->Prop}{α:AAct}{H H':AH}{o:Oper}{rest:List Oper}{tbl:List (List Nat)}{i:Nat}{rs:List Nat}{fl:List (Nat×AAct×Value)}
variable{b:Nat}{cs:List Value}{E:Type}{enc:E->List Value}{sz:Nat}{s:Value}{xs:List E}{fp:Fp}{j:Int}
theorem lr_(t:TypeId)(p:Nat)(v:Value)(u:Row H b cs)(k:Zs Tryz.prog ops K rest (α.put o.dst v) H)(hv:ZeJ Tryz.prog t cs p=some v:=by kernel_rfl)(h1:ZbJ Tryz.prog ops o α H=ZbK Tryz.prog t (.pointer (some ⟨b,p,none⟩)) H:=by kernel_rfl):Zs Tryz.prog ops K (o::rest) α H:=Zb6 v h1 (u.ld hv) k
theorem mr_(t:TypeId)(p:Nat)(v:Value)(u:Row H b cs)(k:Zu Tryz.prog ops tbl K rs fl (α.put (Zab ops i) v) H)(hv:ZeJ Tryz.prog t cs p=some v:=by kernel_rfl)(h1:ZcE Tryz.prog ops tbl i rs α H=ZbK Tryz.prog t (.pointer (some ⟨b,p,none⟩)) H:=by kernel_rfl):Zu Tryz.prog ops tbl K (i::rs) fl α H:=Zde v h1 (u.ld hv) k
theorem le_[Inhabited E](t:TypeId)(f:Nat)(v:Value)(u:Sq enc sz H s xs fp)(h0:0≤j)(h2:j<(xs.length:Int))(k:Zs Tryz.prog ops K rest (α.put o.dst v) H)(hv:ZeJ Tryz.prog t (enc (gt xs j)) f=some v:=by kernel_rfl)(h1:ZbJ Tryz.prog ops o α H=ZbK Tryz.prog t (elp s sz j.toNat f) H:=by kernel_rfl):Zs Tryz.prog ops K (o::rest) α H:=Zb6 v h1 (u.ld h0 h2 hv) k
theorem me_[Inhabited E](t:TypeId)(f:Nat)(v:Value)(u:Sq enc sz H s xs fp)(h0:0≤j)(h2:j<(xs.length:Int))(k:Zu Tryz.prog ops tbl K rs fl (α.put (Zab ops i) v) H)(hv:ZeJ Tryz.prog t (enc (gt xs j)) f=some v:=by kernel_rfl)(h1:ZcE Tryz.prog ops tbl i rs α H=ZbK Tryz.prog t (elp s sz j.toNat f) H:=by kernel_rfl):Zu Tryz.prog ops tbl K (i::rs) fl α H:=Zde v h1 (u.ld h0 h2 hv) k
theorem Sq.ix_(u:Sq enc sz H s xs fp)(t:TypeId)(h0:0≤j)(h2:j<(xs.length:Int))(k:Zs Tryz.prog ops K rest (α.put o.dst (elp s sz j.toNat 0)) H)(ht:Zbh Tryz.prog t=some sz:=by kernel_rfl)(h1:ZbJ Tryz.prog ops o α H=ZO Tryz.prog t s (.int .i64 j):=by kernel_rfl):Zs Tryz.prog ops K (o::rest) α H:=Zb6 _ h1 (u.idxb ht h0 h2) k
theorem Sq.mx_(u:Sq enc sz H s xs fp)(t:TypeId)(h0:0≤j)(h2:j<(xs.length:Int))(k:Zu Tryz.prog ops tbl K rs fl (α.put (Zab ops i) (elp s sz j.toNat 0)) H)(ht:Zbh Tryz.prog t=some sz:=by kernel_rfl)(h1:ZcE Tryz.prog ops tbl i rs α H=ZO Tryz.prog t s (.int .i64 j):=by kernel_rfl):Zu Tryz.prog ops tbl K (i::rs) fl α H:=Zde _ h1 (u.idxb ht h0 h2) k
theorem Sq.ln_(u:Sq enc sz H s xs fp)(t:TypeId)(k:Zs Tryz.prog ops K rest (α.put o.dst (.int .i64 xs.length)) H)(ht:Zd1 Tryz.prog t=true:=by kernel_rfl)(h1:ZbJ Tryz.prog ops o α H=Zb7 Tryz.prog t s H:=by kernel_rfl):Zs Tryz.prog ops K (o::rest) α H:=Zb6 _ h1 (u.lenb ht) k
theorem Sq.mn_(u:Sq enc sz H s xs fp)(t:TypeId)(k:Zu Tryz.prog ops tbl K rs fl (α.put (Zab ops i) (.int .i64 xs.length)) H)(ht:Zd1 Tryz.prog t=true:=by kernel_rfl)(h1:ZcE Tryz.prog ops tbl i rs α H=Zb7 Tryz.prog t s H:=by kernel_rfl):Zu Tryz.prog ops tbl K (i::rs) fl α H:=Zde _ h1 (u.lenb ht) k
theorem Nst.ix_{C:CR E}(u:Nst C H s xs fp)(t:TypeId)(h0:0≤j)(h2:j<(xs.length:Int))(k:Zs Tryz.prog ops K rest (α.put o.dst (elp s C.sz j.toNat 0)) H)(ht:Zbh Tryz.prog t=some C.sz:=by kernel_rfl)(h1:ZbJ Tryz.prog ops o α H=ZO Tryz.prog t s (.int .i64 j):=by kernel_rfl):Zs Tryz.prog ops K (o::rest) α H:=Zb6 _ h1 (u.idxb ht h0 h2) k
theorem Nst.mx_{C:CR E}(u:Nst C H s xs fp)(t:TypeId)(h0:0≤j)(h2:j<(xs.length:Int))(k:Zu Tryz.prog ops tbl K rs fl (α.put (Zab ops i) (elp s C.sz j.toNat 0)) H)(ht:Zbh Tryz.prog t=some C.sz:=by kernel_rfl)(h1:ZcE Tryz.prog ops tbl i rs α H=ZO Tryz.prog t s (.int .i64 j):=by kernel_rfl):Zu Tryz.prog ops tbl K (i::rs) fl α H:=Zde _ h1 (u.idxb ht h0 h2) k
theorem Nst.ln_{C:CR E}(u:Nst C H s xs fp)(t:TypeId)(k:Zs Tryz.prog ops K rest (α.put o.dst (.int .i64 xs.length)) H)(ht:Zd1 Tryz.prog t=true:=by kernel_rfl)(h1:ZbJ Tryz.prog ops o α H=Zb7 Tryz.prog t s H:=by kernel_rfl):Zs Tryz.prog ops K (o::rest) α H:=Zb6 _ h1 (u.lenb ht) k
theorem Nst.mn_{C:CR E}(u:Nst C H s xs fp)(t:TypeId)(k:Zu Tryz.prog ops tbl K rs fl (α.put (Zab ops i) (.int .i64 xs.length)) H)(ht:Zd1 Tryz.prog t=true:=by kernel_rfl)(h1:ZcE Tryz.prog ops tbl i rs α H=Zb7 Tryz.prog t s H:=by kernel_rfl):Zu Tryz.prog ops tbl K (i::rs) fl α H:=Zde _ h1 (u.lenb ht) k
theorem Hol.ix_{E':Type}{C:CR E}{enc':E'->List Value}{sz' off q:Nat}{upd:List E'->E}(u:Hol C enc' sz' H s xs q off upd fp)(t:TypeId)(h0:0≤j)(h2:j<(xs.length:Int))(k:Zs Tryz.prog ops K rest (α.put o.dst (elp s C.sz j.toNat 0)) H)(ht:Zbh Tryz.prog t=some C.sz:=by kernel_rfl)(h1:ZbJ Tryz.prog ops o α H=ZO Tryz.prog t s (.int .i64 j):=by kernel_rfl):Zs Tryz.prog ops K (o::rest) α H:=Zb6 _ h1 (u.idxb ht h0 h2) k
theorem Hol.mx_{E':Type}{C:CR E}{enc':E'->List Value}{sz' off q:Nat}{upd:List E'->E}(u:Hol C enc' sz' H s xs q off upd fp)(t:TypeId)(h0:0≤j)(h2:j<(xs.length:Int))(k:Zu Tryz.prog ops tbl K rs fl (α.put (Zab ops i) (elp s C.sz j.toNat 0)) H)(ht:Zbh Tryz.prog t=some C.sz:=by kernel_rfl)(h1:ZcE Tryz.prog ops tbl i rs α H=ZO Tryz.prog t s (.int .i64 j):=by kernel_rfl):Zu Tryz.prog ops tbl K (i::rs) fl α H:=Zde _ h1 (u.idxb ht h0 h2) k
theorem Nd.ix_{A:Type}[Inhabited A][Hd A]{xs:List (A×List E×List E)}{hol:List (Nat×Bool)}(u:Nd enc sz H s xs fp hol)(t:TypeId)(h0:0≤j)(h2:j<(xs.length:Int))(k:Zs Tryz.prog ops K rest (α.put o.dst (elp s 3 j.toNat 0)) H)(ht:Zbh Tryz.prog t=some 3:=by kernel_rfl)(h1:ZbJ Tryz.prog ops o α H=ZO Tryz.prog t s (.int .i64 j):=by kernel_rfl):Zs Tryz.prog ops K (o::rest) α H:=Zb6 _ h1 (u.idxb ht h0 h2) k
theorem Nd.mx_{A:Type}[Inhabited A][Hd A]{xs:List (A×List E×List E)}{hol:List (Nat×Bool)}(u:Nd enc sz H s xs fp hol)(t:TypeId)(h0:0≤j)(h2:j<(xs.length:Int))(k:Zu Tryz.prog ops tbl K rs fl (α.put (Zab ops i) (elp s 3 j.toNat 0)) H)(ht:Zbh Tryz.prog t=some 3:=by kernel_rfl)(h1:ZcE Tryz.prog ops tbl i rs α H=ZO Tryz.prog t s (.int .i64 j):=by kernel_rfl):Zu Tryz.prog ops tbl K (i::rs) fl α H:=Zde _ h1 (u.idxb ht h0 h2) k
theorem Nd.ln_{A:Type}[Inhabited A][Hd A]{xs:List (A×List E×List E)}{hol:List (Nat×Bool)}(u:Nd enc sz H s xs fp hol)(t:TypeId)(k:Zs Tryz.prog ops K rest (α.put o.dst (.int .i64 xs.length)) H)(ht:Zd1 Tryz.prog t=true:=by kernel_rfl)(h1:ZbJ Tryz.prog ops o α H=Zb7 Tryz.prog t s H:=by kernel_rfl):Zs Tryz.prog ops K (o::rest) α H:=Zb6 _ h1 (u.lenb ht) k
theorem Nd.mn_{A:Type}[Inhabited A][Hd A]{xs:List (A×List E×List E)}{hol:List (Nat×Bool)}(u:Nd enc sz H s xs fp hol)(t:TypeId)(k:Zu Tryz.prog ops tbl K rs fl (α.put (Zab ops i) (.int .i64 xs.length)) H)(ht:Zd1 Tryz.prog t=true:=by kernel_rfl)(h1:ZcE Tryz.prog ops tbl i rs α H=Zb7 Tryz.prog t s H:=by kernel_rfl):Zu Tryz.prog ops tbl K (i::rs) fl α H:=Zde _ h1 (u.lenb ht) k
theorem ck_{f:FuncId}{args:Array Value}{K':Value->AH->Prop}(hf:ACalls Tryz.prog f args H K')(k:∀v H',K' v H'->Zs Tryz.prog ops K rest (α.put o.dst v) H')(h:Zii Tryz.prog ops o α=some (f,args):=by kernel_rfl):Zs Tryz.prog ops K (o::rest) α H:=Zjz f args h hf k
theorem dk_{f:FuncId}{args:Array Value}{K':Value->AH->Prop}(hf:ACalls Tryz.prog f args H K')(k:∀v H',K' v H'->ZcO Tryz.prog ops tbl i H' fl/\Zu Tryz.prog ops tbl K rs fl (α.put (Zab ops i) v) H')(h:ZeK ops i (λo=>Zii Tryz.prog ops o α)=some (f,args):=by kernel_rfl):Zu Tryz.prog ops tbl K (i::rs) fl α H:=d_ck f args h hf k
theorem ek_{x:Option AH}(h:x=some H')(k:Zs Tryz.prog ops K rest (α.put o.dst undef) H')(h1:ZjC Tryz.prog ops o α H=x.map λH'=>(undef,H'):=by kernel_rfl):Zs Tryz.prog ops K (o::rest) α H:=Zb5 undef h1 (Zk6 h) k
theorem fk_{x:Option AH}(h:x=some H')(st:ZcO Tryz.prog ops tbl i H' fl)(k:Zu Tryz.prog ops tbl K rs fl (α.put (Zab ops i) undef) H')(h1:ZeK ops i (λo=>ZjC Tryz.prog ops o α H)=x.map λH'=>(undef,H'):=by kernel_rfl):Zu Tryz.prog ops tbl K (i::rs) fl α H:=Zfu undef h1 (Zk6 h) st k
theorem wc_{c:Operand}{x y:Code}(p:Prop)[Decidable p](ht:p->aWp Tryz.prog N x Q α H)(hf:¬p->aWp Tryz.prog N y Q α H)(hb:ZY α c=.bool (decide p):=by kernel_rfl)(hok:Zd9 c=true:=by rfl):aWp Tryz.prog N (.cond c x y) Q α H:=Zia p hb hok ht hf
theorem wb_{c:Operand}{x y:Code}(b:Bool)(ht:b=true->aWp Tryz.prog N x Q α H)(hf:b=false->aWp Tryz.prog N y Q α H)(hb:ZY α c=.bool b:=by kernel_rfl)(hok:Zd9 c=true:=by rfl):aWp Tryz.prog N (.cond c x y) Q α H:=Zkr b hb hok ht hf
theorem sb_(p:Prop)[Decidable p](ht:p->Zs Tryz.prog ops K rest (α.put o.dst (.bool true)) H)(hf:¬p->Zs Tryz.prog ops K rest (α.put o.dst (.bool false)) H)(h:ZbJ Tryz.prog ops o α H=some (.bool (decide p)):=by kernel_rfl):Zs Tryz.prog ops K (o::rest) α H:=s_b p h ht hf
theorem db_(p:Prop)[Decidable p](ht:p->Zu Tryz.prog ops tbl K rs fl (α.put (Zab ops i) (.bool true)) H)(hf:¬p->Zu Tryz.prog ops tbl K rs fl (α.put (Zab ops i) (.bool false)) H)(h:ZcE Tryz.prog ops tbl i rs α H=some (.bool (decide p)):=by kernel_rfl):Zu Tryz.prog ops tbl K (i::rs) fl α H:=d_b p h ht hf
theorem rk_(hw:WF H)(cs:List Value)(k:∀b H',Ext H H'->Inn [] H [b]->Row H' b cs->Zs Tryz.prog ops K rest (α.put o.dst (.pointer (some ⟨b,0,none⟩))) H')(h:ZdD Tryz.prog ops o α=some (.row .own cs,Zem):=by kernel_rfl):Zs Tryz.prog ops K (o::rest) α H:=s_rwk hw cs h k
theorem rl_(hw:WF H)(cs:List Value)(k:∀b H',Ext H H'->Inn [] H [b]->Row H' b cs->Zs Tryz.prog ops K rest (α.put o.dst (.pointer (some ⟨b,0,none⟩))) H')(h1:Zy cs=true:=by kernel_rfl)(h:ZdD Tryz.prog ops o α=if Zy cs=true then some (.row .own cs,Zem) else none:=by kernel_rfl):Zs Tryz.prog ops K (o::rest) α H:=Zbg hw cs h1 h k
theorem sq_{x y:Code}(h:∀{K:AAct->AH->Prop},(∀α H,aWp Tryz.prog N y Q α H->K α H)->aWp Tryz.prog N x (ZdI K Q) α H):aWp Tryz.prog N (.seq x y) Q α H:=Zm4 λ_ k=>h k
theorem ab_{f:FuncId}{fn:Func}{c:Code}{args:Array Value}{K:Value->AH->Prop}(hf:Tryz.prog.funcs[f]? = some fn)(h:aWp Tryz.prog fn.ntmps c (Zgp Tryz.prog fn K) (Zka args) H)(hb:fn.body=some c:=by rfl)(hn:Nat.ble args.size fn.ntmps=true:=by rfl):ACalls Tryz.prog f args H K:=Zft mixed hf hb (YA hn) h
theorem br_{fn:Func}{K:Value->AH->Prop}(vs:List Value)(k:K (ZgC vs) H)(h:ZdE Tryz.prog α H fn.results.toList=some vs:=by kernel_rfl):Zgp Tryz.prog fn K .ret α H:=ZaW h k
theorem nr_{fn:Func}{K:Value->AH->Prop}(vs:List Value)(k:K (ZgC vs) H)(h:ZdE Tryz.prog α H fn.results.toList=some vs:=by kernel_rfl):Zgp Tryz.prog fn K .normal α H:=Zek h k
theorem ra_(t p:Nat)(hw:WF H)(h:Row H b cs)(vs cs':List Value)(hx:(Value.agg vs.toArray).cells.toList=vs:=by kernel_rfl)(hs:(Tryz.prog.info? t).map (·.size)=some vs.length:=by kernel_rfl)(h1:Zy vs=true:=by kernel_rfl)(hl:Nat.ble (p+vs.length) cs.length=true:=by kernel_rfl)(hcs:Zaa cs p vs=cs':=by kernel_rfl):∃H',ZcW Tryz.prog t (.pointer (some ⟨b,p,none⟩)) (.agg vs.toArray) H=some H'/\FrS [b] H H'/\Row H' b cs':=Row.store hw h _ vs hx hs h1 (YA hl) cs' hcs
theorem rb_(t p:Nat)(hw:WF H)(h:Row H b cs)(v:Value)(cs':List Value)(hx:v.cells.toList=[v]:=by kernel_rfl)(hs:(Tryz.prog.info? t).map (·.size)=some [v].length:=by kernel_rfl)(h1:Zy [v]=true:=by kernel_rfl)(hl:Nat.ble (p + [v].length) cs.length=true:=by kernel_rfl)(hcs:Zaa cs p [v]=cs':=by kernel_rfl):∃H',ZcW Tryz.prog t (.pointer (some ⟨b,p,none⟩)) v H=some H'/\FrS [b] H H'/\Row H' b cs':=Row.store hw h _ [v] hx hs h1 (YA hl) cs' hcs
end
section
variable{H H1 H2:AH}{W S:Fp}
theorem fr_(h:WF H):FrS W H H:=.refl h
theorem fs_(hw:WF H)(h:FrS W H H1)(k:FrS S H1 H2)(hi:Inn W H S):FrS W H H2:=.step hw h k hi
theorem bs_{α β:Type}{x:Option α}{f:α->Option β}{r:β}(h:x.bind f=some r):∃y,x=some y/\f y=some r:=bind_some h
theorem lt_{n:Nat}:n<n+1:=YI n
theorem dn_{a:Fp}:Dj [] a:=Dj.nil_l
theorem in_:Inn W H []:=Inn.nil
theorem ir_:Inn W H W:=Inn.refl'
end
end Go.Vd


namespace Go.Vd
section
variable{α:Type}
theorem Zny{a r u:List α}{i m:Nat}{y:α}(ha:a.length=i)(hr:r.length=m+1)(hu:u.length=m) :
  ((a++r).take i++[y]++(a++r).drop (i+1)).take (i+1)++u++((a++r).take i++[y]++(a++r).drop (i+1)).drop (i+1+m)=a++([y]++u):=by
 subst ha;subst hu;have h1:(a++r).take a.length=a:=List.take_left;have h2:(a++r).drop (a.length+1)=r.drop 1:=by rw[List.drop_append];simp
 rw[h1,h2]
 have h3:(a++[y]++r.drop 1).take (a.length+1)=a++[y]:=by
  have:(a++[y]).length=a.length+1:=Xs
  rw[← this];exact List.take_left
 have h4:(a++[y]++r.drop 1).drop (a.length+1+u.length)=[]:=List.drop_eq_nil_of_le (by simp;omega);rw[h3,h4];simp
theorem Zn3{a J u:List α}{i m:Nat}{y:α}(ha:a.length=i)(hJ:1≤J.length)(hu:u.length=m) :
  ((a++u++J).take (i+1)++u++(a++u++J).drop (i+1+m)).take i++[y]++((a++u++J).take (i+1)++u++(a++u++J).drop (i+1+m)).drop (i+1)=a++([y]++u)++J.drop 1:=by
 subst ha;subst hu;have h1:((a++u++J).take (a.length+1)).length=a.length+1:=by rw[YG];simp;omega
 have h2:(a++u++J).drop (a.length+1+u.length)=J.drop 1:=by
  have:a.length+1+u.length=(a++u).length+1:=by simp;omega
  rw[this,List.drop_append];simp
 rw[h2]
 have h3:((a++u++J).take (a.length+1)++u++J.drop 1).take a.length=a:=by
  rw[List.append_assoc,List.take_append_of_le_length Xo,List.take_take,Nat.min_eq_left Xo,List.append_assoc];exact List.take_left
 have h4:((a++u++J).take (a.length+1)++u++J.drop 1).drop (a.length+1)=u++J.drop 1:=by
  have:((a++u++J).take (a.length+1)++(u++J.drop 1)).drop ((a++u++J).take (a.length+1)).length=u++J.drop 1:=List.drop_left;rw[h1]at this;rw[List.append_assoc];exact this
 rw[h3,h4];simp
end
section
variable[Pins]
variable{H:AH}{E:Type}{enc:E->List Value}{s t:Value}{xs:List E}{y:E}{fp ft:Fp}{i j:Int}
structure InS(enc:E->List Value)(H:AH)(s:Value)(xs:List E)(fs:Fp):Prop where
 ow:Ow enc 3 H s xs fs
 is:((s=.slice none 0 0∨s=ZbN)/\xs=[])∨∃b c J,s=.slice (some ⟨b,0,none⟩) xs.length c/\fs=[b]/\Rw H b .own 3 (xs.map enc++J)/\xs.length+J.length=c
theorem Zkn{f:FuncId}{rest:List Value}{P:Program}{R:List E}(wf:WF H)(h:Ow enc 3 H s xs fp)
  (k:∀s' H' fs,WF H'->FrS fp H H'->InS enc H' s' xs fs->Inn fp H fs->ACalls P f (s'::rest).toArray H' λv H2=>∃fp',FrS fs H' H2/\Ow enc 3 H2 v R fp'/\Inn fs H' fp') :
  ACalls P f (s::rest).toArray H λv H2=>∃fp',FrS fp H H2/\Ow enc 3 H2 v R fp'/\Inn fp H fp':=by
 have fin:∀{s'} {H'} {fs:Fp},FrS fp H H'->Inn fp H fs->ACalls P f (s'::rest).toArray H' (λv H2=>∃fp',FrS fs H' H2/\Ow enc 3 H2 v R fp'/\Inn fs H' fp') ->
   ACalls P f (s'::rest).toArray H' λv H2=>∃fp',FrS fp H H2/\Ow enc 3 H2 v R fp'/\Inn fp H fp':=λhf hi hk =>
  hk.mono λv H2 ⟨f',a,b,c⟩=>⟨f',hf.step wf a hi,b,hi.trans hf.next c⟩
 refine ACalls.spread wf h (λhx hs=>?_) (λhx=>?_) (λH2 b c R' hf hb hn hg hl ho hc hcell=>?_)
 ·subst hx;subst hs;exact fin (.refl wf) Inn.nil (k _ H [] wf (.refl wf) ⟨.nil Xd,.inl ⟨.inl rfl,rfl⟩⟩ Inn.nil)
 ·subst hx;exact fin (.refl wf) Inn.nil (k _ H [] wf (.refl wf) ⟨.void Xd,.inl ⟨.inr rfl,rfl⟩⟩ Inn.nil)
 ·have hlo:(∀x∈xs,(enc x).length=3)/\∀x∈xs,Zy (enc x)=true:=by
   rcases h.is with ⟨_,rfl⟩|⟨φ,_,o⟩
   ·exact⟨λx hx=>(by cases hx),λx hx=>(by cases hx)⟩
   ·exact⟨o.len,o.one⟩
  have hlt:b<H2.next:=Xo;obtain⟨J,hr,hJ⟩:=Rw.of (enc:=enc) (xs:=xs) hlt Xd hg hl hc hlo.1 hcell;have hin:Inn fp H [b]:=λt ht=>.inr (by rw[List.mem_singleton.1 ht];omega);exact fin hf hin (k _ H2 [b] hf.wf hf ⟨hr.ow (.inl ⟨rfl,rfl⟩) rfl hlo.2 hlt rfl (by simpa using hJ),.inr ⟨b,c,J,rfl,rfl,hr,hJ⟩⟩ hin)
end
end Go.Vd


namespace Go.Vd
section
variable[Pins]
variable{H:AH}{E:Type}{enc:E->List Value}{s t:Value}{xs:List E}{y:E}{fs ft:Fp}{i:Int}
attribute [local irreducible] Zs Zu aWp
theorem ZmY(wf:WF H)(hs:InS enc H s xs fs)(ht:Ow enc 3 H t [y] ft)(dj:Dj fs ft)(g:0≤i/\i≤(xs.length:Int)/\(xs.length:Int)≤1000000000) :
  ACalls Tryz.prog 169 #[s,.int .i64 i,t] H λv H'=>∃fp',FrS fs H H'/\Ow enc 3 H' v (xs.take i.toNat++([y]++xs.drop i.toNat)) fp'/\Inn fs H fp':=by
 obtain⟨g0,g1,g2⟩:=g
 obtain⟨tb,tc,kt,ct,rfl,tlt,tg,tk,tlen,tcell,ty,ty1⟩:∃tb tc kt ct,t=.slice (some ⟨tb,0,none⟩) 1 tc/\tb<H.next/\H.get tb=some (.row kt ct)/\(kt≠.ro/\ZI H tb∈ft)/\3≤ct.length/\H.cells tb 0 (1*3)=some ([enc y].flatMap id)/\(enc y).length=3/\Zy (enc y)=true:=by
  rcases ht.is with ⟨_,h⟩|⟨φ,hφ,o⟩
  ·cases h
  rcases o.is with ⟨_,h⟩|⟨b,c,k,cs,e1,e2,e3,e4,e5,e6,e7⟩
  ·cases h
  have hl:=o.len y (List.mem_singleton.2 rfl);have e5':1≤c:=e5;refine⟨b,c,k,cs,e1,e2,e3,⟨?_,?_⟩,Xo,?_,hl,o.one y (List.mem_singleton.2 rfl)⟩
  ·rcases e4 with ⟨rfl,_⟩|rfl <;> simp
  ·rcases e4 with ⟨rfl,rfl⟩|rfl
   ·rw[show ZI H φ=φ by simp[ZI,e3]];exact hφ
   ·rw[show ZI H b=φ by simp[ZI,e3]];exact hφ
  ·rcases ht.sq.src with ⟨h,_⟩|h
   ·rw[e1]at h;simp[ZbN]at h
   ·rw[e1]at h;have:=h.cells.2;simpa using this
 refine Zft mixed Tryz.func169 rfl (YA rfl) ?_;refine sq_ λk1=>g_' (q_ (.slice none 0 0) (Za (k1 _ _ (sq_ λk2=>g_' (q_ s (q_ (.int .i64 i) ?_))))))
 obtain⟨v1,hv1⟩:∃v,ZT Tryz.prog 73 s (some (.int .i64 i)) none none H=some v:=by
  rcases hs.is with ⟨hs0,rfl⟩|⟨b,c,J,rfl,_,hr,hJ⟩
  ·obtain rfl:i=0:=by simp at g1;omega
   obtain⟨m,z,hT⟩:=ZaU (P:=Tryz.prog) (t:=73) (n:=3) Xk;obtain⟨e,inf,hu,hi,_⟩:=ZaH hT;rcases hs0 with rfl|rfl
   ·exact⟨_,by unfold ZT;simp only[hu,hi];simp[Z4];rfl⟩
   ·exact⟨_,by unfold ZT ZbN;simp only[hu,hi];simp[Z4];rfl⟩
  ·exact hr.slo0 Xs Xk g0 Xo Xo
 refine Zb6 v1 (x:=ZT Tryz.prog 73 s (some (.int .i64 i)) none none H) Xk hv1 ?_;refine Za (k2 _ _ (sq_ λk3=>g_' (q_ (.slice (some ⟨tb,0,none⟩) 1 tc) ?_)));refine Zb6 (.int .i64 1) (x:=Zb7 Tryz.prog 73 (.slice (some ⟨tb,0,none⟩) 1 tc) H) Xk (ht.sq.lenb Xk) ?_;refine q_ (.int .i64 1) (Za (k3 _ _ (sq_ λk5=>sq_ λk4=>g_' (q_ (.int .i64 1) (q_ (.bool false) (Za (k4 _ _ ?_)))))));refine Zkr false Xk rfl (λh=>by cases h) (λ_=>?_);refine Zf (k5 _ _ (sq_ λk6=>g_' (q_ s ?_)));refine Zb6 (.int .i64 xs.length) (x:=Zb7 Tryz.prog 73 s H) Xk (hs.ow.sq.lenb Xk) ?_;refine q_ (.int .i64 xs.length) (Za (k6 _ _ (sq_ λk8=>sq_ λk7=>g_' (q_ (.int .i64 i) (q_ (.int .i64 xs.length) (q_ (.bool (decide (i=(xs.length:Int)))) (Za (k7 _ _ ?_))))))));refine Zia (i=(xs.length:Int)) Xk rfl (λh=>?_) (λhi=>?_)
 ·refine sq_ λk9=>g_' (q_ s (q_ (.slice (some ⟨tb,0,none⟩) 1 tc) ?_));obtain⟨s2,H2,f2,ha,hf,ho2,hi2⟩:=Ow.append (P:=Tryz.prog) 24 wf hs.ow ht.sq (λx hx=>by rw[List.mem_singleton.1 hx];exact ty1) (at_:=#[73,73]) rfl rfl Xk Xk Xd (by simp only[Yp,Yt];omega);refine Zb5 s2 (x:=Zam Tryz.prog #[73,73] s (.slice (some ⟨tb,0,none⟩) 1 tc) H) Xk ha ?_;refine q_ s2 (Za (k9 _ _ ?_));refine Zg ?_;dsimp only[ZdI];refine ZaW (vs:=[s2]) (Zew Xk (rfl)) ?_;refine⟨f2,hf,?_,hi2⟩;rw[h,Int.toNat_natCast,List.take_length,List.drop_length,List.append_nil];exact ho2
 rcases hs.is with ⟨_,rfl⟩|⟨b,c,J,rfl,rfl,hr,hJ⟩
 ·simp at hi g1;omega
 have hmap:(xs.map enc).length=xs.length:=YB ..;have hcl:(xs.map enc++J).length=c:=by rw[Yy,hmap];exact hJ
 have hone:∀x∈xs,Zy (enc x)=true:=by
  rcases hs.ow.is with ⟨_,rfl⟩|⟨φ,_,o⟩
  ·intro x hx;cases hx
  ·exact o.one
 have hlen3:∀x∈xs,(enc x).length=3:=λx hx=>hr.len _ (YC _ (List.mem_map_of_mem hx));have htok:ZI H b=b:=by simp[ZI,hr.get]
 have htb:tb≠b:=λe=>dj b (List.mem_singleton.2 rfl) (by rw[← htok];rw[← e];exact tk.2);have hdl:((xs.drop i.toNat).map enc).length=xs.length-i.toNat:=Xs
 have hd3:∀x∈(xs.drop i.toNat).map enc,x.length=3:=λx hx=>by
  obtain⟨u,hu,rfl⟩:=List.mem_map.1 hx;exact hlen3 u (Y1 hu)
 have hyl:∀x∈[enc y],x.length=3:=λx hx=>by rw[List.mem_singleton.1 hx];exact ty
 have hal:((xs.take i.toNat).map enc).length=i.toNat:=by simp;omega
 have hsplit:xs.map enc=(xs.take i.toNat).map enc++(xs.drop i.toNat).map enc:=by rw[← Y2,YT]
 have hus:((xs.map enc++J).drop i.toNat).take (xs.length-i.toNat)=(xs.drop i.toNat).map enc:=by
  have e1:((xs.take i.toNat).map enc++((xs.drop i.toNat).map enc++J)).drop ((xs.take i.toNat).map enc).length=(xs.drop i.toNat).map enc++J:=List.drop_left;have e2:((xs.drop i.toNat).map enc++J).take ((xs.drop i.toNat).map enc).length=(xs.drop i.toNat).map enc:=List.take_left;rw[hal]at e1;rw[hdl]at e2;rw[hsplit,List.append_assoc,e1,e2]
 have hone':∀x∈xs.take i.toNat++([y]++xs.drop i.toNat),Zy (enc x)=true:=λx hx=>by
  rcases List.mem_append.1 hx with hx|hx
  ·exact hone x (YN hx)
  ·rcases List.mem_append.1 hx with hx|hx
   ·rw[List.mem_singleton.1 hx];exact ty1
   ·exact hone x (Y1 hx)
 have hnl:(xs.take i.toNat++([y]++xs.drop i.toNat)).length=xs.length+1:=by simp;omega
 have hnmap:(xs.take i.toNat++([y]++xs.drop i.toNat)).map enc=(xs.take i.toNat).map enc++([enc y]++(xs.drop i.toNat).map enc):=Xs
 refine Zf (k8 _ _ (sq_ λk11=>sq_ λk10=>g_' (q_ (.int .i64 xs.length) (q_ (.int .i64 1) (w_' ((xs.length:Int)+1) (Zn ⟨Xo,Xo⟩) (q_ (.slice (some ⟨b,0,none⟩) xs.length c) ?_))))));refine Zb6 (.int .i64 c) (x:=Ziy Tryz.prog 73 (.slice (some ⟨b,0,none⟩) xs.length c) H) Xk (hr.cap Xk) ?_;refine q_ (.bool (decide ((xs.length:Int)+1>(c:Int)))) (Za (k10 _ _ ?_));refine Zia ((xs.length:Int)+1>(c:Int)) Xk rfl (λhc=>?_) (λhc=>?_)
 ·-- a new row
  refine sq_ λk12=>g_' (q_ (.slice (some ⟨b,0,none⟩) xs.length c) (q_ (.int .i64 i) ?_));refine Zb6 (.slice (some ⟨b,0,none⟩) i.toNat c) (x:=ZT Tryz.prog 73 (.slice (some ⟨b,0,none⟩) xs.length c) none (some (.int .i64 i)) none H) Xk (hr.shi Xk g0 Xo) ?_;refine q_ (.int .i64 xs.length) (q_ (.int .i64 1) (w_' ((xs.length:Int)+1) (Zn ⟨Xo,Xo⟩) (q_ (.int .i64 i) (w_' ((xs.length:Int)+1-i) (Zn ⟨Xo,Xo⟩) ?_))));obtain⟨H2,zs,ha,he2,hn2,hr2⟩:=hr.grow (P:=Tryz.prog) (at_:=#[73,3]) (t0:=73) (t1:=3) (m:=24) (n:=i.toNat) (c:=c) (kk:=.i64) (ki:=.i64) (z:=(xs.length:Int)+1 - i) wf rfl rfl Xk Xk Xo Xo Xo Xd Xo;rw[show i.toNat+((xs.length:Int)+1-i).toNat=xs.length+1 by omega]at ha;have hJ0:J=[]:=Yx Xo;subst hJ0;rw[List.append_nil]at hr hus hr2;rw[show (xs.map enc).take i.toNat=(xs.take i.toNat).map enc from (List.map_take ..).symm]at hr2;generalize hz:Ym ((xs.length:Int)+1-i).toNat zs=Z at hr2;have hzl:Z.length=xs.length-i.toNat+1:=by rw[← hz,Y6];omega
  refine Zb5 (.slice (some ⟨H.next,0,none⟩) (xs.length+1) (xs.length+1)) (x:=Zam Tryz.prog #[73,3] (.slice (some ⟨b,0,none⟩) i.toNat c) (.int .i64 ((xs.length:Int)+1-i)) H) Xk ha ?_;refine q_ (.slice (some ⟨H.next,0,none⟩) (xs.length+1) (xs.length+1)) (Za (k12 _ _ (sq_ λk13=>g_' (q_ (.slice (some ⟨H.next,0,none⟩) (xs.length+1) (xs.length+1)) (q_ (.int .i64 i) ?_)))));refine Zb6 (.slice (some ⟨H.next,i.toNat*3,none⟩) (xs.length+1-i.toNat) (xs.length+1-i.toNat)) (x:=ZT Tryz.prog 73 (.slice (some ⟨H.next,0,none⟩) (xs.length+1) (xs.length+1)) (some (.int .i64 i)) none none H2) Xk (hr2.slo Xk g0 Xo Xo Xo) ?_;refine q_ (.slice (some ⟨tb,0,none⟩) 1 tc) ?_
  have tcell2:H2.cells tb 0 ([enc y].length*3)=some ([enc y].flatMap id):=by
   rw[← tcell];unfold AH.cells;rw[he2.same tb tlt];rfl
  obtain⟨H3,hc3,f3,n3,r3⟩:=hr2.copy (P:=Tryz.prog) (at_:=#[73,73]) (t0:=73) (m:=24) (o:=i.toNat) (n1:=xs.length+1 - i.toNat) (c1:=xs.length+1 - i.toNat) (b2:=tb) (o2:=0) (n2:=1) (c2:=tc) (us:=[enc y]) (φ:=H.next) he2.wf (.inr rfl) rfl Xk tcell2 (by simp only[Yp,Yt];omega) hyl (by rw[Yy,hal,hzl];simp only[Yp,Yt];omega);refine Zb5 _ (x:=Zfv Tryz.prog #[73,73] (.slice (some ⟨H.next,i.toNat*3,none⟩) (xs.length+1-i.toNat) (xs.length+1-i.toNat)) (.slice (some ⟨tb,0,none⟩) 1 tc) H2) Xk hc3 ?_;refine Za (k13 _ _ ?_);have hbn:b<H2.next:=by have:=hr.lt;omega
  have hrb:Rw H3 b .own 3 (xs.map enc):=(hr.fr (he2.frS []) (λh=>by cases h)).fr (f3.frS (W:=[H.next]) (List.mem_singleton.2 rfl)) (by
   have:ZI H2 b=b:=by simp[ZI,he2.same b hr.lt,hr.get]
   rw[this];intro h;have:=List.mem_singleton.1 h;have:=hr.lt;omega)
  refine sq_ λk14=>?_;refine ZE [0,1,2,3,4,5,6,7,8] Xk ?_;refine Zc8 (.slice (some ⟨H.next,0,none⟩) (xs.length+1) (xs.length+1)) Xk ?_;refine Zc8 (.int .i64 i) Xk ?_;refine Zc8 (.int .i64 1) Xk ?_;refine d_w (i+1) (k:=.i64) (x:=i+1) Xk (Zn ⟨Xo,Xo⟩) ?_;refine Zde (.slice (some ⟨H.next,(i+1).toNat*3,none⟩) (xs.length+1-(i+1).toNat) (xs.length+1-(i+1).toNat)) (x:=ZT Tryz.prog 73 (.slice (some ⟨H.next,0,none⟩) (xs.length+1) (xs.length+1)) (some (.int .i64 (i+1))) none none H3) Xk (r3.slo Xk Xo Xo Xo Xo) ?_;refine Zc8 (.slice (some ⟨b,0,none⟩) xs.length c) Xk ?_;refine Zc8 (.int .i64 i) Xk ?_;refine Zde (.slice (some ⟨b,i.toNat*3,none⟩) (xs.length-i.toNat) (c-i.toNat)) (x:=ZT Tryz.prog 73 (.slice (some ⟨b,0,none⟩) xs.length c) (some (.int .i64 i)) none none H3) Xk (hrb.slo Xk Xo Xo Xo Xo) ?_
  have ccell:H3.cells b (i.toNat*3) (((xs.drop i.toNat).map enc).length*3)=some (((xs.drop i.toNat).map enc).flatMap id):=by
   rw[hdl];have:=hrb.cells (o:=i.toNat) (n:=xs.length-i.toNat) (by rw[hmap];omega);rw[hus]at this;exact this
  obtain⟨H4,hc4,f4,n4,r4⟩:=r3.copy (P:=Tryz.prog) (at_:=#[73,73]) (t0:=73) (m:=24) (o:=(i+1).toNat) (n1:=xs.length+1 - (i+1).toNat) (c1:=xs.length+1 - (i+1).toNat) (b2:=b) (o2:=i.toNat*3) (n2:=xs.length - i.toNat) (c2:=c - i.toNat) (us:=(xs.drop i.toNat).map enc) (φ:=H.next) f3.wf (.inr rfl) rfl Xk ccell (by rw[hdl];omega) hd3
   (by rw[hdl];simp only[Yy,YG,List.length_drop,hal,hzl,Yp,Yt];omega)
  refine Zfu _ (x:=Zfv Tryz.prog #[73,73] (.slice (some ⟨H.next,(i+1).toNat*3,none⟩) (xs.length+1-(i+1).toNat) (xs.length+1-(i+1).toNat)) (.slice (some ⟨b,i.toNat*3,none⟩) (xs.length-i.toNat) (c-i.toNat)) H3) Xk hc4 trivial ?_;refine ZD ?_;refine k14 _ _ (sq_ λk15=>g_' (q_ (.slice (some ⟨H.next,0,none⟩) (xs.length+1) (xs.length+1)) (q_ (.slice (some ⟨H.next,0,none⟩) (xs.length+1) (xs.length+1)) (Za (k15 _ _ ?_)))));refine Zg ?_;dsimp only[ZdI];refine ZaW (vs:=[.slice (some ⟨H.next,0,none⟩) (xs.length+1) (xs.length+1)]) (Zew Xk (rfl)) ?_;have hfin:=Zny (y:=enc y) hal hzl hdl;rw[hdl,show (i+1).toNat=i.toNat+1 by omega]at r4;rw[show ([enc y]:List (List Value)).length=1 from rfl,hfin]at r4;have hlt4:H.next<H4.next:=Xo;refine⟨[H.next],?_,r4.ow (.inr rfl) (J:=[]) (by rw[hnmap,List.append_nil]) hone' hlt4 hnl ?_,λu hu=>.inr (by rw[List.mem_singleton.1 hu];exact Yj _)⟩
  ·have a1:FrS [b] H H2:=he2.frS [b];have hin:Inn [b] H [H.next]:=λu hu=>.inr (by rw[List.mem_singleton.1 hu];exact Yj _);have a2:=a1.step wf (f3.frS (W:=[H.next]) (List.mem_singleton.2 rfl)) hin;exact a2.step wf (f4.frS (W:=[H.next]) (List.mem_singleton.2 rfl)) hin
  ·simp only[Yy,hal,hdl,Yp,Yt];omega
 -- in place
 refine Zf (k11 _ _ ?_);have hJ1:1≤J.length:=Xo;have hn1:((xs.length:Int)+1).toNat=xs.length+1:=Xo;refine sq_ λk21=>g_' (q_ (.slice (some ⟨b,0,none⟩) xs.length c) (q_ (.int .i64 xs.length) (q_ (.int .i64 1) (w_' ((xs.length:Int)+1) (Zn ⟨Xo,Xo⟩) ?_))));refine Zb6 (.slice (some ⟨b,0,none⟩) (xs.length+1) c) (x:=ZT Tryz.prog 73 (.slice (some ⟨b,0,none⟩) xs.length c) none (some (.int .i64 ((xs.length:Int)+1))) none H) Xk (by have:=hr.shi (P:=Tryz.prog) (t:=73) (kk:=.i64) (i:=(xs.length:Int)+1) (n:=xs.length) (c:=c) Xk Xo Xo;rw[hn1]at this;exact this) ?_;refine q_ (.slice (some ⟨b,0,none⟩) (xs.length+1) c) (Za (k21 _ _ (sq_ λk23=>sq_ λk22=>g_' (q_ (.slice (some ⟨tb,0,none⟩) 1 tc) (q_ (.slice (some ⟨b,0,none⟩) (xs.length+1) c) (q_ (.int .i64 i) (q_ (.int .i64 1) (w_' (i+1) (Zn ⟨Xo,Xo⟩) ?_))))))));have hsl2:ZT Tryz.prog 73 (.slice (some ⟨b,0,none⟩) (xs.length+1) c) (some (.int .i64 (i+1))) none none H=some (.slice (some ⟨b,(i+1).toNat*3,none⟩) (xs.length+1-(i+1).toNat) (c-(i+1).toNat)):=hr.slo Xk Xo Xo Xo Xo;have hsl1:ZT Tryz.prog 73 (.slice (some ⟨b,0,none⟩) (xs.length+1) c) (some (.int .i64 i)) none none H=some (.slice (some ⟨b,i.toNat*3,none⟩) (xs.length+1-i.toNat) (c-i.toNat)):=hr.slo Xk Xo Xo Xo Xo;refine Zb6 (.slice (some ⟨b,(i+1).toNat*3,none⟩) (xs.length+1-(i+1).toNat) (c-(i+1).toNat)) (x:=ZT Tryz.prog 73 (.slice (some ⟨b,0,none⟩) (xs.length+1) c) (some (.int .i64 (i+1))) none none H) Xk hsl2 ?_;refine s_ov (g:=202) (fn:=Tryz.f202) (tS:=73) (tR:=4) (tb:=tb) (tc:=tc) (b:=b) (off:=(i+1).toNat*3) (n:=xs.length+1-(i+1).toNat) (c:=c-(i+1).toNat) (sz:=3) (kt:=kt) (ct:=ct) rfl Xk Xk Tryz.func202 Xk Xk Xk Xk Xk Xk Xk Xo tg tk.1 hr.get ?_ htb ?_
 ·rw[ZaB (enc:=id) hr.len];omega
 refine q_ (.bool true) (Za (k22 _ _ ?_));refine Zkr true Xk rfl (λ_=>?_) (λh=>by cases h);refine sq_ λk24=>?_;refine ZE [0,1,2,3,4,5,6,7,8] Xk ?_;refine Zc8 (.slice (some ⟨b,0,none⟩) (xs.length+1) c) Xk ?_;refine Zc8 (.int .i64 i) Xk ?_;refine Zc8 (.int .i64 1) Xk ?_;refine d_w (i+1) (k:=.i64) (x:=i+1) Xk (Zn ⟨Xo,Xo⟩) ?_;refine Zde (.slice (some ⟨b,(i+1).toNat*3,none⟩) (xs.length+1-(i+1).toNat) (c-(i+1).toNat)) (x:=ZT Tryz.prog 73 (.slice (some ⟨b,0,none⟩) (xs.length+1) c) (some (.int .i64 (i+1))) none none H) Xk hsl2 ?_;refine Zc8 (.slice (some ⟨b,0,none⟩) (xs.length+1) c) Xk ?_;refine Zc8 (.int .i64 i) Xk ?_;refine Zde (.slice (some ⟨b,i.toNat*3,none⟩) (xs.length+1-i.toNat) (c-i.toNat)) (x:=ZT Tryz.prog 73 (.slice (some ⟨b,0,none⟩) (xs.length+1) c) (some (.int .i64 i)) none none H) Xk hsl1 ?_
 have ccell:H.cells b (i.toNat*3) (((xs.drop i.toNat).map enc).length*3)=some (((xs.drop i.toNat).map enc).flatMap id):=by
  rw[hdl];have:=hr.cells (o:=i.toNat) (n:=xs.length-i.toNat) (by rw[Yy,hmap];omega);rw[hus]at this;exact this
 obtain⟨H2,hc2,f2,n2,r2⟩:=hr.copy (P:=Tryz.prog) (at_:=#[73,73]) (t0:=73) (m:=24) (o:=(i+1).toNat) (n1:=xs.length+1 - (i+1).toNat) (c1:=c - (i+1).toNat) (b2:=b) (o2:=i.toNat*3) (n2:=xs.length+1 - i.toNat) (c2:=c - i.toNat) (us:=(xs.drop i.toNat).map enc) (φ:=b) wf (.inl ⟨rfl,rfl⟩) rfl Xk ccell (by rw[hdl];omega) hd3
  (by rw[hdl,Yy,hmap];omega)
 refine Zfu _ (x:=Zfv Tryz.prog #[73,73] (.slice (some ⟨b,(i+1).toNat*3,none⟩) (xs.length+1-(i+1).toNat) (c-(i+1).toNat)) (.slice (some ⟨b,i.toNat*3,none⟩) (xs.length+1-i.toNat) (c-i.toNat)) H) Xk hc2 trivial ?_;refine ZD ?_;refine k24 _ _ (sq_ λk25=>g_' (q_ (.slice (some ⟨b,0,none⟩) (xs.length+1) c) (q_ (.int .i64 i) ?_)));refine Zb6 (.slice (some ⟨b,i.toNat*3,none⟩) (xs.length+1-i.toNat) (c-i.toNat)) (x:=ZT Tryz.prog 73 (.slice (some ⟨b,0,none⟩) (xs.length+1) c) (some (.int .i64 i)) none none H2) Xk (r2.slo Xk g0 Xo Xo Xo) ?_;refine q_ (.slice (some ⟨tb,0,none⟩) 1 tc) ?_
 have tcell2:H2.cells tb 0 ([enc y].length*3)=some ([enc y].flatMap id):=by
  rw[← tcell];unfold AH.cells;rw[f2.same tb tlt (λe=>dj b (List.mem_singleton.2 rfl) (by rw[← e];exact tk.2))];rfl
 obtain⟨H3,hc3,f3,n3,r3⟩:=r2.copy (P:=Tryz.prog) (at_:=#[73,73]) (t0:=73) (m:=24) (o:=i.toNat) (n1:=xs.length+1 - i.toNat) (c1:=c - i.toNat) (b2:=tb) (o2:=0) (n2:=1) (c2:=tc) (us:=[enc y]) (φ:=b) f2.wf (.inl ⟨rfl,rfl⟩) rfl Xk tcell2 (by simp only[Yp,Yt];omega) hyl
  (by simp only[Yy,YG,List.length_drop,hdl,hmap,Yp,Yt];omega)
 refine Zb5 _ (x:=Zfv Tryz.prog #[73,73] (.slice (some ⟨b,i.toNat*3,none⟩) (xs.length+1-i.toNat) (c-i.toNat)) (.slice (some ⟨tb,0,none⟩) 1 tc) H2) Xk hc3 ?_;refine Za (k25 _ _ (sq_ λk26=>g_' (q_ (.slice (some ⟨b,0,none⟩) (xs.length+1) c) (q_ (.slice (some ⟨b,0,none⟩) (xs.length+1) c) (Za (k26 _ _ ?_))))));refine Zg ?_;dsimp only[ZdI];refine ZaW (vs:=[.slice (some ⟨b,0,none⟩) (xs.length+1) c]) (Zew Xk (rfl)) ?_;have hfin:=Zn3 (y:=enc y) hal hJ1 hdl;rw[hdl,show (i+1).toNat=i.toNat+1 by omega,hsplit]at r3;rw[show ([enc y]:List (List Value)).length=1 from rfl,hfin]at r3;have hlt3:b<H3.next:=r3.lt;refine⟨[b],?_,r3.ow (.inl ⟨rfl,rfl⟩) (J:=J.drop 1) (by rw[hnmap]) hone' hlt3 hnl ?_,Inn.self⟩
 ·exact (f2.frS (W:=[b]) (List.mem_singleton.2 rfl)).step wf (f3.frS (W:=[b]) (List.mem_singleton.2 rfl)) Inn.self
 ·simp only[Yy,hal,hdl,List.length_drop,Yp,Yt];omega
end
end Go.Vd


namespace Go.Vd
section
variable{α:Type}
theorem Zn4{a d u J z:List α}{i j m:Nat}(ha:a.length=i)(hd:d.length=j)(hu:u.length=m)(hz:z.length=j) :
  ((a++(d++u)++J).take i++u++(a++(d++u)++J).drop (i+m)).take (i+m)++z++((a++(d++u)++J).take i++u++(a++(d++u)++J).drop (i+m)).drop (i+m+j)=a++u++(z++J):=by
 subst ha;subst hd;subst hu;have h1:(a++(d++u)++J).take a.length=a:=by rw[List.append_assoc];exact List.take_left
 have hl:(a++u).length=a.length+u.length:=Yy;have h2:∀W:List α,(a++u++W).take (a.length+u.length)=a++u:=λW=>by rw[← hl];exact List.take_left
 have h3:∀W:List α,(a++u++W).drop (a.length+u.length+d.length)=W.drop d.length:=λW=>by
  rw[← hl,← List.drop_drop,List.drop_left]
 rw[h1,h2,h3,List.drop_drop]
 have h4:(a++(d++u)++J).drop (a.length+u.length+d.length)=J:=by
  have:a.length+u.length+d.length=(a++(d++u)).length:=by simp;omega
  rw[this];exact List.drop_left
 rw[h4];simp
end
section
variable[Pins]
variable{H:AH}{E:Type}{enc:E->List Value}{s t:Value}{xs:List E}{y:E}{fp fs ft:Fp}{i j:Int}
theorem ZnY(wf:WF H)(h:Ow enc 3 H s xs fp)(ht:Ow enc 3 H t [y] ft)(dj:Dj fp ft)(g:0≤i/\i≤(xs.length:Int)/\(xs.length:Int)≤1000000000) :
  ACalls Tryz.prog 169 #[s,.int .i64 i,t] H λv H'=>∃fp',FrS fp H H'/\Ow enc 3 H' v (xs.take i.toNat++([y]++xs.drop i.toNat)) fp'/\Inn fp H fp':=
 Zkn (rest:=[.int .i64 i,t]) wf h λs' H' fs wf' hf hs hi=>ZmY wf' hs (ht.fr hf dj) (hi.dj dj ht.lt) g
theorem Rw.app{P:Program}{b b2 o2 n2 c2 n c m:Nat}{css us:List (List Value)}{at_:Array TypeId}{t0 t1:TypeId}(hw:WF H)(h:Rw H b .own 3 css)(a0:at_[0]? = some t0)(a1:at_[1]? = some t1)(hT':ZfL P t0=some (3,m))(hT1':Zd1 P t1=true)
  (hc:H.cells b2 o2 (us.length*3)=some (us.flatMap id)) (hn2:us.length=n2) (h1:∀x∈us,Zy x=true) (hl:∀x∈us,x.length=3) (hroom:n+us.length≤c) (hcc:css.length=c) :
  ∃H',Zam P at_ (.slice (some ⟨b,0,none⟩) n c) (.slice (some ⟨b2,o2,none⟩) n2 c2) H=some (.slice (some ⟨b,0,none⟩) (n+us.length) c,H')/\Fr b H H'/\H'.next=H.next/\Rw H' b .own 3 (css.take n++us++css.drop (n+us.length)):=by
 subst hn2;obtain⟨z,hT⟩:=Zey hT';obtain⟨e1,hT1⟩:=ZdU hT1';obtain⟨e,i,hu1,hi,hel,hs,hb⟩:=ZaH hT;have hone:Zy (us.flatMap id)=true:=ZgD (enc:=id) h1
 have key:Zam P at_ (.slice (some ⟨b,0,none⟩) n c) (.slice (some ⟨b2,o2,none⟩) us.length c2) H=AH.append H 3 m (.slice (some ⟨b,0,none⟩) n c) us.length (us.flatMap id):=by
  unfold Zam;rw[a0,a1];simp only[Yk,hel,hT1,hs,hb,hc,hone,if_true]
 have hlen:=ZaB (enc:=id) (sz:=3) hl;rw[key];unfold AH.append;rw[if_neg Xo];dsimp only;rw[if_pos hroom];by_cases h0:us.length=0
 ·obtain rfl:=Yx h0;exact⟨H,Xs,(Ext.refl hw).toFr b,rfl,by simpa using h⟩
 ·obtain⟨H',p1,p2,p3,p4⟩:=h.put hw (.inl ⟨rfl,rfl⟩) (o:=n) (us:=us) hl Xo;refine⟨H',?_,p2,p3,p4⟩;rw[if_neg h0,Y8,p1];rfl
theorem Rw.clear{P:Program}{b o n c m:Nat}{css:List (List Value)}{at_:Array TypeId}{t0:TypeId}(hw:WF H)(h:Rw H b .own 3 css)(a0:at_[0]? = some t0)(hT':ZfL P t0=some (3,m))(hroom:o+n≤css.length) :
  ∃H' Z,Z.length=n/\Zer P at_ (.slice (some ⟨b,o*3,none⟩) n c) H=some H'/\Fr b H H'/\H'.next=H.next/\Rw H' b .own 3 (css.take o++Z++css.drop (o+n)):=by
 obtain⟨z,hT⟩:=Zey hT';obtain⟨e,i,hu1,hi,hel,hs,hb⟩:=ZaH hT
 have hzl:z.cells.toList.length=3:=by
  unfold ZaY at hel;rw[hu1]at hel;dsimp only at hel;rw[hi]at hel;dsimp only at hel;split at hel
  ·split at hel
   ·rename_i hh;cases hel;rw[← hs];simpa using hh.1
   ·cases hel
  ·cases hel
 have hel0:at_[0]?.bind (ZaY P)=some (e,i,z):=by rw[a0];exact hel
 have hZ:Zac z n=(Ym n z.cells.toList).flatMap id:=by unfold Zac;rw[List.flatMap_id]
 have hZl:(Ym n z.cells.toList).length=n:=Y6;obtain⟨H',p1,p2,p3,p4⟩:=h.put hw (.inl ⟨rfl,rfl⟩) (o:=o) (us:=Ym n z.cells.toList) (λx hx=>by rw[(List.mem_replicate.1 hx).2];exact hzl) (by rw[hZl];exact hroom);by_cases h0:n=0
 ·subst h0;refine⟨H,[],rfl,?_,(Ext.refl hw).toFr b,rfl,by simpa using h⟩;unfold Zer;rw[hel0];simp
 ·refine⟨H',Ym n z.cells.toList,hZl,?_,p2,p3,by rw[hZl]at p4;exact p4⟩;unfold Zer;rw[hel0];dsimp only;rw[if_neg h0,hZ,p1]
attribute [local irreducible] Zs Zu aWp
theorem Zne(wf:WF H)(hs:InS enc H s xs fs)(g:0≤i/\i≤j/\j≤(xs.length:Int)/\(xs.length:Int)≤1000000000) :
  ACalls Tryz.prog 168 #[s,.int .i64 i,.int .i64 j] H λv H'=>∃fp',FrS fs H H'/\Ow enc 3 H' v (xs.take i.toNat++xs.drop j.toNat) fp'/\Inn fs H fp':=by
 obtain⟨g0,g1,g2,g3⟩:=g;refine Zft mixed Tryz.func168 rfl (YA rfl) ?_;refine sq_ λk1=>g_' (q_ (.slice none 0 0) (Za (k1 _ _ (sq_ λk2=>g_' (q_ s (q_ (.int .i64 i) (q_ (.int .i64 j) (q_ s ?_))))))));refine Zb6 (.int .i64 xs.length) (x:=Zb7 Tryz.prog 73 s H) Xk (hs.ow.sq.lenb Xk) ?_
 obtain⟨b0,n0,c0,cb0,hs3,hc0⟩:∃b0 n0 c0 cb0,(((s=.slice none 0 0∨s=ZbN)/\c0=0)∨(s=.slice (some ⟨b0,0,none⟩) n0 c0/\H.get b0=some (.row .own cb0)))/\xs.length≤c0:=by
  rcases hs.is with ⟨h,rfl⟩|⟨b,c,J,h,_,hr,hJ⟩
  ·exact⟨0,0,0,[],.inl ⟨h,rfl⟩,Yj _⟩
  ·exact⟨b,xs.length,c,_,.inr ⟨h,hr.get⟩,Xo⟩
 refine s_s3 (b:=b0) (n:=n0) (c:=c0) (cb:=cb0) (sz:=3) (s:=s) (k1:=.i64) (k2:=.i64) (k3:=.i64) (i:=i) (j:=j) (m:=xs.length) rfl Xk Xk Xk hs3 Xk Xk Xk g0 g1 g2 Xo λv3=>?_;refine Za (k2 _ _ (sq_ λk4=>sq_ λk3=>g_' (q_ (.int .i64 i) (q_ (.int .i64 j) (q_ (.bool (decide (i=j))) (Za (k3 _ _ ?_)))))));refine Zia (i=j) Xk rfl (λh=>?_) (λhi=>?_)
 ·refine sq_ λk9=>g_' (q_ s (q_ s (Za (k9 _ _ ?_))));refine Zg ?_;dsimp only[ZdI];refine ZaW (vs:=[s]) (Zew Xk (rfl)) ?_;refine⟨fs,.refl wf,?_,Inn.self⟩;rw[h,YT];exact hs.ow
 rcases hs.is with ⟨_,rfl⟩|⟨b,c,J,rfl,rfl,hr,hJ⟩
 ·simp at g2;omega
 have hmap:(xs.map enc).length=xs.length:=YB ..;have hcl:(xs.map enc++J).length=c:=by rw[Yy,hmap];exact hJ
 have hone:∀x∈xs,Zy (enc x)=true:=by
  rcases hs.ow.is with ⟨_,rfl⟩|⟨φ,_,o⟩
  ·intro x hx;cases hx
  ·exact o.one
 have hlen3:∀x∈xs,(enc x).length=3:=λx hx=>hr.len _ (YC _ (List.mem_map_of_mem hx));have hul:((xs.drop j.toNat).map enc).length=xs.length-j.toNat:=Xs
 have hu3:∀x∈(xs.drop j.toNat).map enc,x.length=3:=λx hx=>by
  obtain⟨u,hu,rfl⟩:=List.mem_map.1 hx;exact hlen3 u (Y1 hu)
 have hu1:∀x∈(xs.drop j.toNat).map enc,Zy x=true:=λx hx=>by
  obtain⟨u,hu,rfl⟩:=List.mem_map.1 hx;exact hone u (Y1 hu)
 have hal:((xs.take i.toNat).map enc).length=i.toNat:=by simp;omega
 have hdl:(((xs.drop i.toNat).take (j.toNat-i.toNat)).map enc).length=j.toNat-i.toNat:=by simp;omega
 have hsplit:xs.map enc=(xs.take i.toNat).map enc++(((xs.drop i.toNat).take (j.toNat-i.toNat)).map enc++(xs.drop j.toNat).map enc):=by
  have e1:xs.drop j.toNat=(xs.drop i.toNat).drop (j.toNat-i.toNat):=by rw[List.drop_drop];congr 1;omega
  rw[e1,← Y2,← Y2,YT,YT]
 have hus:((xs.map enc++J).drop j.toNat).take (xs.length-j.toNat)=(xs.drop j.toNat).map enc:=by
  rw[List.drop_append_of_le_length Xo,← List.map_drop,List.take_append_of_le_length Xo,← hul,List.take_length]
 have hone':∀x∈xs.take i.toNat++xs.drop j.toNat,Zy (enc x)=true:=λx hx=>by
  rcases List.mem_append.1 hx with hx|hx
  ·exact hone x (YN hx)
  ·exact hone x (Y1 hx)
 have hnl:(xs.take i.toNat++xs.drop j.toNat).length=i.toNat+(xs.length-j.toNat):=by simp;omega
 refine Zf (k4 _ _ (sq_ λk5=>g_' (q_ (.slice (some ⟨b,0,none⟩) xs.length c) ?_)));refine Zb6 (.int .i64 xs.length) (x:=Zb7 Tryz.prog 73 (.slice (some ⟨b,0,none⟩) xs.length c) H) Xk (hs.ow.sq.lenb Xk) ?_;refine q_ (.int .i64 xs.length) (Za (k5 _ _ ?_))
 -- what stays is put behind the beginning
 obtain⟨o2,c2,hsl,hcell⟩:∃o2 c2,ZT Tryz.prog 73 (.slice (some ⟨b,0,none⟩) xs.length c) (some (.int .i64 j)) none none H=some (.slice (some ⟨b,o2,none⟩) (xs.length - j.toNat) c2)/\H.cells b o2 (((xs.drop j.toNat).map enc).length*3)=some (((xs.drop j.toNat).map enc).flatMap id):=by
  by_cases hjc:j<(c:Int)
  ·refine⟨_,_,hr.slo Xk Xo g2 Xo hjc,?_⟩;rw[hul];have:=hr.cells (o:=j.toNat) (n:=xs.length-j.toNat) (by rw[hcl];omega);rw[hus]at this;exact this
  ·obtain⟨m,z,hT⟩:=ZaU (P:=Tryz.prog) (t:=73) (n:=3) Xk;obtain⟨e,inf,hu,hi',_⟩:=ZaH hT;refine⟨0,c-j.toNat,?_,?_⟩
   ·unfold ZT;simp only[hu,hi',Z4,show 0≤j by omega,if_true,hr.get];rw[if_pos Xo,if_neg (by simp[AObj.isLoose];omega)]
   ·rw[show (xs.drop j.toNat).map enc=[] from Yx Xo];have:=hr.cells (o:=0) (n:=0) Xo;simpa using this
 refine sq_ λk6=>?_;refine ZE [0,1,2,3,4,5,6,7] Xk ?_;refine Zc8 (.slice (some ⟨b,0,none⟩) xs.length c) Xk ?_;refine Zc8 (.int .i64 i) Xk ?_;refine Zde (.slice (some ⟨b,0,none⟩) i.toNat c) (x:=ZT Tryz.prog 73 (.slice (some ⟨b,0,none⟩) xs.length c) none (some (.int .i64 i)) none H) Xk (hr.shi Xk g0 Xo) ?_;refine Zc8 (.slice (some ⟨b,0,none⟩) xs.length c) Xk ?_;refine Zc8 (.int .i64 j) Xk ?_;refine Zde (.slice (some ⟨b,o2,none⟩) (xs.length-j.toNat) c2) (x:=ZT Tryz.prog 73 (.slice (some ⟨b,0,none⟩) xs.length c) (some (.int .i64 j)) none none H) Xk hsl ?_;obtain⟨H2,ha2,f2,n2,r2⟩:=hr.app (P:=Tryz.prog) (at_:=#[73,73]) (t0:=73) (t1:=73) (m:=24) (n:=i.toNat) (c:=c) (b2:=b) (o2:=o2) (n2:=xs.length - j.toNat) (c2:=c2) (us:=(xs.drop j.toNat).map enc) wf rfl rfl Xk Xk hcell hul hu1 hu3 (by rw[hul];omega) hcl;refine Zfu _ (x:=Zam Tryz.prog #[73,73] (.slice (some ⟨b,0,none⟩) i.toNat c) (.slice (some ⟨b,o2,none⟩) (xs.length-j.toNat) c2) H) Xk ha2 trivial ?_;generalize hnn:i.toNat+((xs.drop j.toNat).map enc).length=nn at r2;refine Zc8 (.slice (some ⟨b,0,none⟩) nn c) Xk ?_;refine ZD ?_;refine k6 _ _ ?_;have hnn':nn=i.toNat+(xs.length-j.toNat):=by rw[← hnn,hul]
 refine sq_ λk7=>g_' (q_ (.slice (some ⟨b,0,none⟩) nn c) (q_ (.slice (some ⟨b,0,none⟩) nn c) ?_))
 refine Zb6 (.int .i64 nn) (x:=Zb7 Tryz.prog 73 (.slice (some ⟨b,0,none⟩) nn c) H2) Xk (by
  obtain⟨e,hu⟩:=ZdU (P:=Tryz.prog) (t:=73) Xk;unfold Zb7;simp only[hu]) ?_
 refine q_ (.int .i64 xs.length) ?_
 refine Zb6 (.slice (some ⟨b,nn*3,none⟩) (xs.length-nn) (c-nn)) (x:=ZT Tryz.prog 73 (.slice (some ⟨b,0,none⟩) nn c) (some (.int .i64 nn)) (some (.int .i64 xs.length)) none H2) Xk (by
  have:=r2.sboth (P:=Tryz.prog) (t:=73) (k1:=.i64) (k2:=.i64) (i:=nn) (j:=xs.length) (n:=nn) (c:=c) Xk Xo Xo Xo Xo;simpa using this) ?_
 have hr2l:((xs.map enc++J).take i.toNat++(xs.drop j.toNat).map enc++(xs.map enc++J).drop nn).length=c:=by
  simp only[Yy,YG,List.length_drop,hul,hmap];omega
 obtain⟨H3,Z,hZ,ha3,f3,n3,r3⟩:=r2.clear (P:=Tryz.prog) (at_:=#[73]) (t0:=73) (m:=24) (o:=nn) (n:=xs.length - nn) (c:=c - nn) f2.wf rfl Xk (by rw[hr2l];omega);refine Zb5 (.tuple #[]) (x:=(Zer Tryz.prog #[73] (.slice (some ⟨b,nn*3,none⟩) (xs.length-nn) (c-nn)) H2).map λH'=>(.tuple #[],H')) Xk (by rw[ha3];rfl) ?_;refine Za (k7 _ _ (sq_ λk8=>g_' (q_ (.slice (some ⟨b,0,none⟩) nn c) (q_ (.slice (some ⟨b,0,none⟩) nn c) (Za (k8 _ _ ?_))))));refine Zg ?_;dsimp only[ZdI];refine ZaW (vs:=[.slice (some ⟨b,0,none⟩) nn c]) (Zew Xk (rfl)) ?_;have hfin:=Zn4 (z:=Z) (J:=J) hal hdl hul Xo;rw[hnn',show i.toNat+(xs.length-j.toNat)+(xs.length-(i.toNat+(xs.length-j.toNat)))=i.toNat+(xs.length-j.toNat)+(j.toNat-i.toNat) by omega,hsplit,hfin]at r3;refine⟨[b],?_,r3.ow (.inl ⟨rfl,rfl⟩) (J:=Z++J) (by rw[Y2]) hone' r3.lt (by rw[hnl,hnn']) ?_,Inn.self⟩
 ·exact (f2.frS (W:=[b]) (List.mem_singleton.2 rfl)).step wf (f3.frS (W:=[b]) (List.mem_singleton.2 rfl)) Inn.self
 ·simp only[Yy,hal,hul,hZ];omega
theorem Zno(wf:WF H)(h:Ow enc 3 H s xs fp)(g:0≤i/\i≤j/\j≤(xs.length:Int)/\(xs.length:Int)≤1000000000) :
  ACalls Tryz.prog 168 #[s,.int .i64 i,.int .i64 j] H λv H'=>∃fp',FrS fp H H'/\Ow enc 3 H' v (xs.take i.toNat++xs.drop j.toNat) fp'/\Inn fp H fp':=
 Zkn (rest:=[.int .i64 i,.int .i64 j]) wf h λs' H' fs wf' hf hs hi=>Zne wf' hs g
end
end Go.Vd


namespace Go.Vd
variable[Pins]
variable{P:Program}{H H':AH}{E:Type}
def ZhG(enc:E->List Value)(k:IntKind)(p:Int×E):Value×Value:=(.int k p.1,.agg (enc p.2).toArray)
def lkS:List (Int×E)->Int->Option E
 | [],_=>none
 | p::l,k=>if k=p.1 then some p.2 else lkS l k
structure Ms(ki:IntKind)(enc:E->List Value)(H:AH)(b:Nat)(f:Int->Option E):Prop where
 lt:b<H.next
 is:∃m clock,H.get b=some (.map (m.map (ZhG enc ki)) clock)/\(m.map (·.1)).Nodup/\∀k,lkS m k=f k
variable{ki:IntKind}{enc:E->List Value}{b:Nat}{f:Int->Option E}{z:E}{W:Fp}
theorem Ms.ext(h:Ms ki enc H b f)(k:Ext H H'):Ms ki enc H' b f:=by
 obtain⟨m,c,h1,h2⟩:=h.is;exact⟨YJ h.lt k.next,m,c,(k.same b h.lt).trans h1,h2⟩
theorem Ms.frS(h:Ms ki enc H b f)(k:FrS W H H')(hd:Dj W [b]):Ms ki enc H' b f:=by
 obtain⟨h1,m,clock,h2,h3⟩:=h;exact⟨YJ h1 k.next,m,clock,(k.same b h1 (by unfold ZI;rw[h2];exact λhm=>hd _ hm (List.mem_singleton.2 rfl))).trans h2,h3⟩
theorem Ms.ltF(h:Ms ki enc H b f):Lt H [b]:=λt ht=>by rw[List.mem_singleton.1 ht];exact h.lt
def Zkt(P:Program)(t:TypeId):Option (TypeDesc×Value):=
 match P.underlying t with
 | some (.map kt et)=>match P.underlying kt,(P.info? et).bind (·.zero) with
  | some d,some y=>some (d,y)
  | _,_=>none
 | _=>none
theorem Zh4{t:TypeId}{zv:Value}(h:Zkt P t=some (.int ki,zv)):∃kt et,P.underlying t=some (.map kt et)/\P.underlying kt=some (.int ki)/\(P.info? et).bind (·.zero)=some zv:=by
 unfold Zkt at h;split at h
 ·rename_i kt et hu
  split at h
  ·rename_i d y hd hy
   cases h
   exact⟨kt,et,hu,hd,hy⟩
  ·cases h
 ·cases h
theorem Zhi(m:List (Int×E))(k:Int)(i:Nat):∃r,ZeG (.int ki) (.int ki k) (m.map (ZhG enc ki)) i=some r/\(match r with
  | none=>lkS m k=none
  | some (j,v)=>∃n x,j=i+n/\m[n]? = some (k,x)/\v=.agg (enc x).toArray/\lkS m k=some x):=by
 induction m generalizing i with
 | nil=>exact⟨none,rfl,rfl⟩
 | cons p l ih =>
  simp only[List.map_cons,ZeG,ZhG,Instr.sameNow,if_true];by_cases hk:k=p.1
  ·refine⟨some (i,.agg (enc p.2).toArray),?_,0,p.2,rfl,?_,rfl,?_⟩
   ·rw[show (k == p.1)=true from by simp[hk]]
   ·simp[hk]
   ·simp[lkS,hk]
  ·rw[show (k == p.1)=false from by simp[hk]];dsimp only;obtain⟨r,h1,h2⟩:=ih (i+1);refine⟨r,h1,?_⟩;cases r with
   | none=>simp only[lkS,if_neg hk];exact h2
   | some q =>
    obtain⟨j,v⟩:=q;obtain⟨n,x,g1,g2,g3,g4⟩:=h2;exact⟨n+1,x,Xo,by simpa using g2,g3,by simp only[lkS,if_neg hk];exact g4⟩
theorem Ms.look(h:Ms ki enc H b f)(z:E){t:TypeId}{zv v:Value}(hz:zv=.agg (enc z).toArray)(hp:plain zv=true)(ht:Zkt P t=some (.int ki,zv))(k:Int)(hv:v=.agg (enc ((f k).getD z)).toArray):ZdO P t (.map (some b)) (.int ki k) false H=some v:=by
 subst hz hv;obtain⟨kt,et,h1,h2,h3⟩:=Zh4 ht;obtain⟨m,c,g1,g2,g3⟩:=h.is;obtain⟨r,r1,r2⟩:=Zhi (ki:=ki) (enc:=enc) m k 0;unfold ZdO;rw[h1];simp only[h2,h3,ZiC h2,g1,hp];rw[if_pos (by rfl)];simp only[r1];rw[← g3];cases r with
 | none=>rw[r2];rfl
 | some q =>
  obtain⟨j,v⟩:=q;obtain⟨n,x,_,_,e3,e4⟩:=r2;rw[e4,e3];rfl
theorem Ms.look2(h:Ms ki enc H b f)(z:E){t:TypeId}{zv v:Value}(hz:zv=.agg (enc z).toArray)(hp:plain zv=true)(ht:Zkt P t=some (.int ki,zv))(k:Int)(hv:v=.tuple #[.agg (enc ((f k).getD z)).toArray,.bool (f k).isSome]):ZdO P t (.map (some b)) (.int ki k) true H=some v:=by
 subst hz hv;obtain⟨kt,et,h1,h2,h3⟩:=Zh4 ht;obtain⟨m,c,g1,g2,g3⟩:=h.is;obtain⟨r,r1,r2⟩:=Zhi (ki:=ki) (enc:=enc) m k 0;unfold ZdO;rw[h1];simp only[h2,h3,ZiC h2,g1,hp];rw[if_pos (by rfl)];simp only[r1];rw[← g3];cases r with
 | none=>rw[r2];rfl
 | some q =>
  obtain⟨j,v⟩:=q;obtain⟨n,x,_,_,e3,e4⟩:=r2;rw[e4,e3];rfl
theorem ZoG{m:List (Int×E)}{n:Nat}{k:Int}{x v:E}(hn:m[n]? = some (k,x))(hd:(m.map (·.1)).Nodup)(y:Int):lkS (m.set n (k,v)) y=if y=k then some v else lkS m y:=by
 induction m generalizing n with
 | nil=>simp at hn
 | cons p l ih =>
  cases n with
  | zero =>
   simp at hn;subst hn;simp only[List.set_cons_zero,lkS];by_cases hy:y=k <;> simp[hy]
  | succ n =>
   simp only[List.map_cons,List.nodup_cons]at hd;simp only[Y7]at hn;simp only[List.set_cons_succ,lkS];have hmem:k∈l.map (·.1):=List.mem_map.2 ⟨(k,x),YK hn,rfl⟩;by_cases hy:y=p.1
   ·rw[if_pos hy,if_neg (λe=>hd.1 (by rw[← hy,e];exact hmem)),if_pos hy]
   ·rw[if_neg hy,if_neg hy];exact ih hn hd.2
theorem ZoQ{m:List (Int×E)}{k:Int}{v:E}(hk:lkS m k=none)(y:Int):lkS (m++[(k,v)]) y=if y=k then some v else lkS m y:=by
 induction m with
 | nil=>simp[lkS]
 | cons p l ih =>
  simp only[lkS]at hk;split at hk
  ·cases hk
  ·rename_i hkp
   simp only[List.cons_append,lkS,ih hk];by_cases hy:y=p.1
   ·rw[if_pos hy,if_neg (λe=>hkp (by rw[← e,hy])),if_pos hy]
   ·rw[if_neg hy,if_neg hy]
theorem Znt{m:List (Int×E)}{k:Int}:lkS m k=none↔k∉m.map (·.1):=by
 induction m with
 | nil=>simp[lkS]
 | cons p l ih =>
  simp only[lkS,List.map_cons,List.mem_cons,not_or];by_cases hk:k=p.1
  ·simp[hk]
  ·simp[hk,ih]
theorem Ms.put(hw:WF H)(h:Ms ki enc H b f){t:TypeId}{zv val:Value}(ht:Zkt P t=some (.int ki,zv))(k:Int)(v:E)(hv:val=.agg (enc v).toArray) :
  ∃H',ZeH P t (.map (some b)) (.int ki k) val H=some H'/\Fr b H H'/\Ms ki enc H' b (λx=>if x=k then some v else f x):=by
 subst hv;obtain⟨kt,et,h1,h2,h3⟩:=Zh4 ht;obtain⟨m,c,g1,g2,g3⟩:=h.is;obtain⟨r,r1,r2⟩:=Zhi (ki:=ki) (enc:=enc) m k 0
 have hred:∀X,(match ZeG (.int ki) (.int ki k) (m.map (ZhG enc ki)) 0 with
    | some (some (i,_))=>some (H.upd b (.map ((m.map (ZhG enc ki)).set i (.int ki k,.agg (enc v).toArray)) c))
    | some none=>some (H.upd b (.map (m.map (ZhG enc ki)++[(.int ki k,.agg (enc v).toArray)]) (c+1)))
    | none=>none)=some X->ZeH P t (.map (some b)) (.int ki k) (.agg (enc v).toArray) H=some X:=by
  intro X hX;unfold ZeH;rw[h1];simp only[h2,g1,ZiC h2];rw[if_pos (by rfl)];exact hX
 rw[r1]at hred;cases r with
 | none =>
  refine⟨_,hred _ rfl,ZlV hw h.lt g1,h.lt,m++[(k,v)],c+1,by simp[AH.upd,ZhG],?_,λy=>by rw[ZoQ r2,g3]⟩;rw[Y2,List.nodup_append];refine⟨g2,Xs,λx hx y hy=>?_⟩;simp at hy;subst hy;rintro rfl;exact Znt.1 r2 hx
 | some q =>
  obtain⟨j,u⟩:=q;obtain⟨n,x,e1,e2,e3,e4⟩:=r2;have:j=n:=Xo;subst this;refine⟨_,hred _ rfl,ZlV hw h.lt g1,h.lt,m.set j (k,v),c,by simp[AH.upd,ZhG,List.map_set],?_,λy=>by rw[ZoG e2 g2,g3]⟩;rw[List.map_set]
  have:(m.map (·.1)).set j k=m.map (·.1):=by
   apply List.ext_getElem?;intro i;rw[List.getElem?_set];split
   ·rename_i hij;subst hij;simp[e2];have:=(List.getElem?_eq_some_iff.1 e2).1;omega
   ·rfl
  show (List.set (m.map (·.1)) j k).Nodup;rw[this];exact g2
theorem ZjN(hw:WF H):Ext H (H.push (.map [] 0))/\Ms ki enc (H.push (.map [] 0)) H.next (λ_=>none):=
 ⟨Zdj hw _ (λ_ _ _ e=>by cases e),YI _,[],0,AH.push_get _ _,Xs,λ_=>rfl⟩
section seq
variable{ops:Array Oper}{K:AAct->AH->Prop}{α:AAct}{o:Oper}{rest:List Oper}
theorem s_ms(ki:IntKind)(enc:E->List Value)(hw:WF H)(h:ZdD P ops o α=some (.map [] 0,λb=>.map (some b)))
  (k:∀b H',Ext H H'->Inn [] H [b]->Ms ki enc H' b (λ_=>none)->Zs P ops K rest (α.put o.dst (.map (some b))) H'):Zs P ops K (o::rest) α H:=
 s_n _ _ (Za1 h).1 (Za1 h).2.1 (Za1 h).2.2 (k H.next _ (ZjN (ki:=ki) (enc:=enc) hw).1 (.one (.inr rfl)) (ZjN hw).2)
end seq
def Zkf(P:Program)(ρ:Operand->Value):Op->Option (FuncId×TypeId×Addr×Array Value)
 | .call { callee:=.invoke r name,args,argTypes:=_ }=>match ρ r with
  | .iface t (.pointer (some a))=>match Zg3 P t name with
   | some (g,e)=>if Zev P g then some (g,e,a,args.map ρ) else none
   | none=>none
  | _=>none
 | _=>none
def Zmj(P:Program)(ops:Array Oper)(o:Oper)(α:AAct):Option (FuncId×TypeId×Addr×Array Value):=
 if Region.wanted o (ZZ ops α)=true then match cls o.op with
  | .call=>match ZeC P (ZY α) o.op with
   | none=>Zkf P (ZY α) o.op
   | some _=>none
  | _=>none
 else none
theorem ZoA{ρ:Operand->Value}{op:Op}{g:FuncId}{e:TypeId}{a:Addr}{as_:Array Value}{v:Value}(h:Zkf P ρ op=some (g,e,a,as_))(hl:ZbK P e (.pointer (some a)) H=some v):Zgh P ρ H op=some (g,#[v]++as_):=by
 unfold Zkf at h;split at h
 ·split at h
  ·split at h
   ·split at h
    ·cases h
     rename_i hm hc
     unfold Zgh;simp only[*,if_true]
    ·cases h
   ·cases h
  ·cases h
 ·cases h
theorem Zmx{ops:Array Oper}{o:Oper}{α:AAct}{x:FuncId×TypeId×Addr×Array Value}(h:Zmj P ops o α=some x):Region.wanted o (ZZ ops α)=true/\cls o.op=.call/\ZeC P (ZY α) o.op=none/\Zkf P (ZY α) o.op=some x:=by
 unfold Zmj at h;split at h
 ·rename_i hg
  split at h
  ·rename_i hc
   split at h
   ·rename_i hn;exact⟨hg,hc,hn,h⟩
   ·cases h
  ·cases h
 ·cases h
section seq
variable{ops:Array Oper}{K:AAct->AH->Prop}{α:AAct}{o:Oper}{rest:List Oper}
theorem ZhQ(f:FuncId)(e:TypeId)(a:Addr)(as_:Array Value)(v:Value)(args:Array Value)(hargs:#[v]++as_=args){K':Value->AH->Prop}(h:Zmj P ops o α=some (f,e,a,as_))(hl:ZbK P e (.pointer (some a)) H=some v)(hf:ACalls P f args H K')
  (k:∀v H',K' v H'->Zs P ops K rest (α.put o.dst v) H'):Zs P ops K (o::rest) α H:=by
 subst hargs;obtain⟨h1,h2,h3,h4⟩:=Zmx h;simp only[Zs,h1,if_true];exact .inl (by simp only[Zcq,h2,h3,ZoA h4 hl];exact hf.mono k)
end seq
section draw
variable{ops:Array Oper}{K:AAct->AH->Prop}{α:AAct}{tbl:List (List Nat)}{i:Nat}{rest:List Nat}{fl:List (Nat×AAct×Value)}
end draw
end Go.Vd
