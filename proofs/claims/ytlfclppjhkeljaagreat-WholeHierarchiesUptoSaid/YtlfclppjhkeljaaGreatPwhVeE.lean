/- Texts. -/
import Derived.Test.YtlfclppjhkeljaaGreatPwhVeB
import Derived.ProofKit
import Derived.OpenShut
import Derived.SizedLaws
set_option linter.all false
open List renaming eq_nil_of_length_eq_zero→Yx,mem_of_getElem?→YK,getElem?_eq_getElem→Yn,getElem?_append_left→YF,getElem?_map→Yfa,length_append→Yy,getElem?_append_right→YV,length_take→YG,take_append_drop→YT
open Nat renaming lt_succ_self→YI,zero_add→Y8,le_trans→YL,mul_le_mul_right→Yz
open Option renaming map_some→Yda
namespace Go.Vd
theorem ZhU{w:World}{b o:Nat}{s:Option Nat}{v:Value}(h:w.cell? ⟨b,o,s⟩=some v):s=none/\∃c ty fr,w.heap[b]? = some (.cells c ty fr)/\c[o]? = some v:=by
 unfold World.cell? at h;dsimp only at h;split at h
 ·rename_i c ty fr hc
  cases s with
  | some _=>simp at h
  | none=>exact⟨rfl,c,ty,fr,hc,by simpa using h⟩
 ·cases h
theorem Znj(a:Addr)(m n:Nat):(a.add m).add n=a.add (m+n):=by
 unfold Addr.add;by_cases h:m=0 <;> by_cases k:n=0 <;> simp[h,k,Nat.add_assoc]
def Zoh(μ:Mu)(H:AH):Prop:=∀b p,μ b=some p->∃cs,H.get b=some (.row .ro cs)
structure Ent(μ:Mu)(H:AH)(W:World):Prop where
 rel:Rel μ H W
 ro:Zoh μ H
 wf:WF H
def AH.nil:AH:=⟨λ_=>none,0⟩
theorem Ent.nil(W:World)(hp:∀v,ZhF=some v->∃c ty fr,W.heap[0]? = some (.cells c ty fr)/\c[0]? = some v):Ent (λ_=>none) AH.nil W:=
 ⟨⟨λ_ _ e=>(by cases e),λ_ _ e=>(by cases e),λ_ _ _ _ _ _ e=>(by cases e),λ_ _=>rfl,⟨λv hv=>⟨hp v hv,λ_ _ e=>(by cases e)⟩,λ_ _ h=>(by cases h),λ_ _ h=>(by cases h)⟩⟩,λ_ _ e=>(by cases e),⟨λ_ _=>rfl,λb=>by simp[ZI,AH.nil]⟩⟩
theorem Ent.add{μ:Mu}{H:AH}{W:World}(h:Ent μ H W){p:Pl}{cs:List Value}(hlt:p.blk<W.heap.size)(hr:RowRel (μ.set H.next p) W p .ro cs) :
  Ent (μ.set H.next p) (H.push (.row .ro cs)) W/\Le μ (μ.set H.next p)/\Ext H (H.push (.row .ro cs)):=by
 have hn:μ H.next=none:=h.rel.next_none;have hle:=Mu.set_le hn p;have hext:=Zdj h.wf (.row .ro cs) (λφ sz cs e=>by cases e)
 have ro':Zoh (μ.set H.next p) (H.push (.row .ro cs)):=by
  intro b q hb;unfold Mu.set at hb;by_cases e:b=H.next
  ·subst e;exact⟨cs,AH.push_get _ _⟩
  ·rw[if_neg e]at hb;obtain⟨cs',h1⟩:=h.ro b q hb;exact⟨cs',by rw[AH.push_old _ _ _ (h.rel.lt b q hb).1];exact h1⟩
 refine⟨⟨⟨λb q hb=>?_,λb q hb=>?_,λb b' q q' o o' hb hb' _ _ ho ho'=>?_,λb hb=>?_,⟨λv hv=>⟨(h.rel.pin.1 v hv).1,λb q hb _=>ro' b q hb⟩,λ_ _ h=>(by cases h),λ_ _ h=>(by cases h)⟩⟩,ro',hext.wf⟩,hle,hext⟩
 ·unfold Mu.set at hb;by_cases e:b=H.next
  ·subst e;rw[if_pos rfl]at hb;cases hb;exact⟨YI _,hlt⟩
  ·rw[if_neg e]at hb;exact⟨Nat.lt_succ_of_lt (h.rel.lt b q hb).1,(h.rel.lt b q hb).2⟩
 ·by_cases e:b=H.next
  ·subst e;have:q=p:=by unfold Mu.set at hb;rw[if_pos rfl]at hb;exact (Option.some.inj hb).symm
   subst this;exact⟨_,AH.push_get _ _,hr⟩
  ·unfold Mu.set at hb;rw[if_neg e]at hb;obtain⟨o,g1,g2⟩:=h.rel.ok b q hb;exact⟨o,by rw[AH.push_old _ _ _ (h.rel.lt b q hb).1];exact g1,g2.congr hle rfl⟩
 ·obtain⟨c1,e1⟩:=ro' b q hb;obtain⟨c2,e2⟩:=ro' b' q' hb';rw[ho]at e1;rw[ho']at e2;cases e1;cases e2
  trivial
 ·exact hext.wf.fresh b hb
def SlR{E:Type}(W:World)(enc:E->List Value)(ok:E->Prop)(sz bytes:Nat)(v:Value)(xs:List E):Prop:=
 (v=.slice none 0 0/\xs=[])∨∃a cap ys,v=.slice (some a) xs.length cap/\xs.length≤cap/\(xs++ys).length=cap/\cap*bytes≤reachBytes/\(∀x∈xs++ys,ok x) /\
  ∀(i:Nat) x,(xs++ys)[i]? = some x->∀j,j<sz->∃u,(enc x)[j]? = some u/\W.cell? (a.add (i*sz+j))=some u
theorem SlR.ent{E:Type}{enc:E->List Value}{ok:E->Prop}{sz bytes:Nat}{v:Value}{xs:List E}{μ:Mu}{H:AH}{W:World}(h:SlR W enc ok sz bytes v xs)(hE:Ent μ H W)(hp:0<sz)
  (hl:∀x,(enc x).length=sz) (h1:∀x,Zy (enc x)=true) (hpl:∀x,∀u∈enc x,plain u=true) :
  ∃μ' H' v' fp,Ent μ' H' W/\Ext H H'/\Le μ μ'/\VRel μ' v' v/\Sq enc sz H' v' xs fp:=by
 rcases h with ⟨rfl,rfl⟩|⟨a,cap,ys,rfl,hle,hlen,_,_,hcell⟩
 ·exact⟨μ,H,_,_,hE,.refl hE.wf,.refl μ,.sliceNil,Sq.nil hp⟩
 ·by_cases h0:cap=0
  ·subst h0;have hx:xs=[]:=Yx Xo;subst hx;exact⟨μ,H,_,_,hE,.refl hE.wf,.refl μ,.void a,Sq.void hp⟩
  ·obtain⟨b,o,s⟩:=a;have hfl:((xs++ys).flatMap enc).length=cap*sz:=by rw[ZaB (sz:=sz) λx _=>hl x,hlen]
   obtain⟨x0,hx0⟩:∃x,(xs++ys)[0]? = some x:=⟨(xs++ys)[0]'Xo,Xs⟩;obtain⟨u0,e0,c0⟩:=hcell 0 x0 hx0 0 hp
   have hs:s=none:=by
    rw[show 0*sz+0=0 from Xo,show Addr.add ⟨b,o,s⟩ 0=⟨b,o,s⟩ from by simp[Addr.add]]at c0;exact (ZhU c0).1
   subst hs;simp only[ZeZ]at hcell c0;obtain⟨_,c,ty,fr,hc,_⟩:=ZhU c0
   have hlt:b<W.heap.size:=by
    have:=(Array.getElem?_eq_some_iff.1 hc).1;exact this
   have hget:∀(q:Nat) u,((xs++ys).flatMap enc)[q]? = some u->c[o+q]? = some u/\plain u=true:=by
    intro q u hq;have hq':q<cap*sz:=by rw[← hfl];exact (List.getElem?_eq_some_iff.1 hq).1
    have hi:q / sz<(xs++ys).length:=by rw[hlen];exact Nat.div_lt_of_lt_mul (by rw[Nat.mul_comm];exact hq')
    have hx:(xs++ys)[q / sz]? = some (xs++ys)[q / sz]:=Xs
    have hr:=Nat.mod_lt q hp;have he:q / sz*sz+q % sz=q:=Nat.div_add_mod' q sz;obtain⟨u',e1,e2⟩:=hcell _ _ hx _ hr;have e3:=Zbz (sz:=sz) (λx _=>hl x) hx hr;rw[he]at e3 e2;rw[e3,e1]at hq;cases hq
    obtain⟨_,c',ty',fr',hc',e4⟩:=ZhU e2;rw[hc]at hc';cases hc';exact⟨e4,hpl _ _ (YK e1)⟩
   have hrow:RowRel (μ.set H.next ⟨b,o,0,1⟩) W ⟨b,o,0,1⟩ .ro ((xs++ys).flatMap enc):=by
    refine⟨⟨c,ty,fr,hc,?_,λh=>absurd rfl h,λi u hi=>?_⟩,rfl,λu hu=>?_,c,ty,fr,hc,λi hi=>absurd hi (by show ¬i<0*1;omega)⟩
    ·show o+((xs++ys).flatMap enc).length+0*1≤c.size;by_cases hz:((xs++ys).flatMap enc).length=0
     ·have:=Nat.mul_pos (Nat.pos_of_ne_zero h0) hp;omega
     ·have hq:(((xs++ys).flatMap enc).length-1)<((xs++ys).flatMap enc).length:=Xo;have:=(hget (((xs++ys).flatMap enc).length-1) _ (Yn hq)).1;have:=(Array.getElem?_eq_some_iff.1 this).1;omega
    ·exact⟨u,(hget i u hi).1,ZaT _ (hget i u hi).2⟩
    ·obtain⟨x,_,hx2⟩:=List.mem_flatMap.1 hu;exact List.all_eq_true.1 (h1 x) u hx2
   obtain⟨g1,g2,g3⟩:=hE.add hlt hrow;refine⟨_,_,.slice (some ⟨H.next,0,none⟩) xs.length cap,[H.next],g1,g3,g2,.slice H.next 0 xs.length cap ⟨b,o,0,1⟩ (Mu.set_self _ _ _),λt ht=>by rw[List.mem_singleton.1 ht];exact YI _,hp,.inr ⟨⟨hp,λx _=>hl x,.inr ⟨H.next,0,cap,.ro,_,rfl,YI _,AH.push_get _ _,hle,by rw[hfl];omega,λi x hx j hj=>?_⟩⟩,λb' o' n' c' e=>?_⟩⟩
   ·rw[Y8];have hx':(xs++ys)[i]? = some x:=by rw[YF (List.getElem?_eq_some_iff.1 hx).1];exact hx
    exact Zbz (sz:=sz) (λx _=>hl x) hx' hj
   ·cases e
    refine⟨YI _,?_⟩;unfold ZI;rw[AH.push_get];exact List.mem_singleton.2 rfl
section
variable{Hd:Type}{enc:TypeId×Value->Hd}{P:Program}{W:World}
def Rd(enc:TypeId×Value->Hd)(P:Program)(W:World)(t:TypeId)(cs:List Value):Prop:=
 ∃fuel x,DataW.trod enc P W 0 (λ_=>true) true fuel t cs=some x/\∀n∈x.1.weights P t,n≤reachBytes
theorem Rd.of{t:TypeId}{v:Value}{d:DataW Hd}{p:List MemPlace}(h:DataW.Trod enc P W 0 (λ_=>true) true t v d p)(hw:∀n∈d.weights P t,n≤reachBytes):Rd enc P W t v.cells.toList:=by
 obtain⟨fuel,hf⟩:=h;exact⟨fuel,_,hf,hw⟩
theorem Rd.int{t:TypeId}{cs:List Value}{k:IntKind}(h:Rd enc P W t cs)(ht:P.underlying t=some (.int k)):∃n,cs=[.int k n]/\(Lit.int k n).wf=true:=by
 obtain⟨fuel,x,hf,_⟩:=h;obtain⟨n,h1,_,h3⟩:=DataW.trod_int ht hf;exact⟨n,h1,h3⟩
theorem Rd.struct{t:TypeId}{cs:List Value}{fs:Array Field}(h:Rd enc P W t cs)(ht:P.underlying t=some (.struct fs)) :
  cs.length=P.cellsOf t/\∀(i:Nat) (f:Field),fs[i]? = some f->Rd enc P W f.type ((cs.drop f.offset).take (P.cellsOf f.type)):=by
 obtain⟨fuel,x,hf,hw⟩:=h;obtain⟨xs,n,_,rfl,hl,hlen,hx⟩:=DataW.trod_struct ht hf;refine⟨hl,λi f hi=>?_⟩;have h1:=hx i f hi;have hlt:i<xs.length:=by rw[hlen];exact (Array.getElem?_eq_some_iff.1 hi).1
 rw[Yn hlt]at h1;refine⟨n,_,h1,λm hm=>hw m ?_⟩
 have he:DataW.weights P t (.agg (xs.map (·.1)))=DataW.weightsEach P (fs.toList.map (·.type)) (xs.map (·.1)):=by
  simp only[DataW.weights,ht]
 rw[he];refine DataW.weights_mem_each (j:=i) (t:=f.type) (d:=(xs[i]).1) ?_ ?_ m hm
 ·simp only[Yfa,Array.getElem?_toList,hi,Yda]
 ·simp[hlt]
theorem cells_get{base:Nat}{a:Addr}{n:Nat}{cs:List Value}(h:W.cells? base a n=some cs):cs.length=n/\∀j,j<n->W.cell? (a.add j)=cs[j]?:=by
 unfold World.cells? at h;split at h
 ·refine⟨by simpa using mapM_some_length h,λj hj=>?_⟩;have:=mapM_some_get h j j (by simp[hj]);exact this
 ·cases h
theorem Rd.slice{E:Type}{en:E->List Value}{ok:E->Prop}{sz:Nat}{t e:TypeId}{cs:List Value}(h:Rd enc P W t cs)(ht:P.underlying t=some (.slice e))(hc:P.cellsOf e=sz)(hlen:∀x,(en x).length=sz)
  (hE:∀cs,Rd enc P W e cs->∃x,cs=en x/\ok x):∃v xs,cs=[v]/\SlR W en ok sz (P.bytesOf e) v xs:=by
 obtain⟨fuel,x,hf,hw⟩:=h;rcases DataW.trod_slice ht hf with ⟨rfl,rfl⟩|⟨a,len,cap,elems,rest,n,_,rfl,rfl,_,hl,hm,hel,h1,h2,_⟩
 ·exact⟨_,[],rfl,.inl ⟨rfl,rfl⟩⟩
 ·obtain⟨h2a,h2b⟩:=h2 rfl
  have hwt:(elems.length+rest.length)*P.bytesOf e≤reachBytes:=by
   have:=hw ((elems.length+rest.length)*P.bytesOf e) (by simp[DataW.weights,ht]);exact this
  have hww:∀y∈elems++rest,∀m∈y.1.weights P e,m≤reachBytes:=by
   intro y hy m hm';refine hw m ?_;simp only[DataW.weights,ht,List.mem_cons,List.mem_append]
   have all:∀(l:List (DataW Hd×List MemPlace)),y∈l->m∈DataW.weightsAll P e (l.map (·.1)):=by
    intro l;induction l with
    | nil=>intro h;cases h
    | cons z l ih =>
     intro h;simp only[List.map_cons,DataW.weightsAll,List.mem_append];rcases List.mem_cons.1 h with rfl|h
     ·exact .inl hm'
     ·exact .inr (ih h)
   rcases List.mem_append.1 hy with hy|hy
   ·exact .inr (.inl (all _ hy))
   ·exact .inr (.inr (all _ hy))
  have each:∀i y,(elems++rest)[i]? = some y->∃x,ok x/\∀j,j<sz->∃u,(en x)[j]? = some u/\W.cell? (a.add (i*sz+j))=some u:=by
   intro i y hy
   have hb:(W.cells? 0 (a.add (i*P.cellsOf e)) (P.cellsOf e)).bind (DataW.trod enc P W 0 (λ_=>true) true n e)=some y:=by
    by_cases hi:i<len
    ·rw[h1 i hi,← hy,YF Xo]
    ·have hlt:=(List.getElem?_eq_some_iff.1 hy).1;rw[Yy]at hlt;have:=h2b (i-len) Xo;rw[show len+(i-len)=i from Xo]at this;rw[this,← hy,YV Xo,hel]
   obtain⟨cs',hc1,hc2⟩:=Option.bind_eq_some_iff.1 hb;obtain⟨x,rfl,hok⟩:=hE cs' ⟨n,y,hc2,hww y (YK hy)⟩;obtain⟨_,g2⟩:=cells_get hc1;refine⟨x,hok,λj hj=>?_⟩;have hj':j<(en x).length:=by rw[hlen];exact hj
   refine⟨(en x)[j],by simp[hj'],?_⟩;have:=g2 j (by rw[hc];exact hj);rw[hc,Znj]at this;rw[this];simp[hj']
  -- the elements,one by one
  have list:∀(l:List (DataW Hd×List MemPlace)) (k:Nat),(∀i y,l[i]? = some y->∃x,ok x/\∀j,j<sz->∃u,(en x)[j]? = some u/\W.cell? (a.add ((k+i)*sz+j))=some u) ->
    ∃xs:List E,xs.length=l.length/\(∀x∈xs,ok x)/\∀(i:Nat) x,xs[i]? = some x->∀j,j<sz->∃u,(en x)[j]? = some u/\W.cell? (a.add ((k+i)*sz+j))=some u:=by
   intro l;induction l with
   | nil=>intro k _;exact⟨[],rfl,Xs,Xs⟩
   | cons y l ih =>
    intro k hk;obtain⟨x,o1,o2⟩:=hk 0 y rfl
    obtain⟨xs,p1,p2,p3⟩:=ih (k+1) (λi z hz=>by
     have:=hk (i+1) z (by simpa using hz);rwa[show k+(i+1)=k+1+i from Xo]at this)
    refine⟨x::xs,by simp[p1],λz hz=>(List.mem_cons.1 hz).elim (λe=>e▸o1) (p2 z),λi z hz=>?_⟩;cases i with
    | zero=>simp at hz;subst hz;exact o2
    | succ i =>
     have:=p3 i z (by simpa using hz);rwa[show k+1+i=k+(i+1) from Xo]at this
  obtain⟨xs,p1,p2,p3⟩:=list (elems++rest) 0 (λi y hy=>by simpa using each i y hy);have hcap:xs.length=cap:=by rw[p1,Yy];omega
  refine⟨_,xs.take len,rfl,.inr ⟨a,cap,xs.drop len,?_,?_,?_,?_,?_,?_⟩⟩
  ·rw[YG,Nat.min_eq_left Xo]
  ·rw[YG];omega
  ·rw[YT];exact hcap
  ·rw[show cap=elems.length+rest.length from Xo];exact hwt
  ·rw[YT];exact p2
  ·rw[YT];simpa using p3
end
theorem SlR.len{E:Type}{W:World}{enc:E->List Value}{ok:E->Prop}{sz bytes:Nat}{v:Value}{xs:List E}(h:SlR W enc ok sz bytes v xs):xs.length*bytes≤reachBytes:=by
 rcases h with ⟨_,rfl⟩|⟨a,cap,ys,_,h1,_,h2,_⟩
 ·simp
 ·exact YL (Yz _ h1) h2
end Go.Vd
