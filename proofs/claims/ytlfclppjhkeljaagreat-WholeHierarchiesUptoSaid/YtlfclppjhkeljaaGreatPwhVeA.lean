/- Texts. -/
import Derived.Test.YtlfclppjhkeljaaGreatPwhVdZ2
set_option linter.all false
open List renaming mem_append_left→YC,mem_append_right→YS,length_nil→Yt,eq_nil_of_length_eq_zero→Yx
open Nat renaming le_trans→YL,lt_of_lt_of_le→YJ,le_refl→Yj,zero_add→Y8,lt_succ_self→YI
namespace Go.Vd
variable[Pins]
abbrev Fp:=List Nat
def Dj(a b:Fp):Prop:=∀t∈a,t∉b
def Lt(H:AH)(a:Fp):Prop:=∀t∈a,t<H.next
def Inn(W:Fp)(H:AH)(a:Fp):Prop:=∀t∈a,t∈W∨H.next≤t
theorem Dj.symm{a b:Fp}(h:Dj a b):Dj b a:=λt hb ha=>h t ha hb
theorem Dj.nil_l{a:Fp}:Dj [] a:=λ_ h=>by cases h
theorem Dj.nil_r{a:Fp}:Dj a []:=λ_ _ h=>by cases h
theorem Lt.nil{H:AH}:Lt H []:=λ_ h=>by cases h
theorem Inn.nil{W:Fp}{H:AH}:Inn W H []:=λ_ h=>by cases h
theorem Inn.self{H:AH}{a:Fp}:Inn a H a:=λ_ h=>.inl h
theorem Inn.left{H:AH}{a b:Fp}:Inn (a++b) H a:=λ_ h=>.inl (YC _ h)
theorem Inn.right{H:AH}{W b:Fp}{a:Fp}(h:Inn W H b):Inn (a++W) H b:=λt ht=>(h t ht).elim (λh=>.inl (YS _ h)) .inr
theorem Inn.trans{H H':AH}{W a b:Fp}(h:Inn W H a)(hn:H.next≤H'.next)(k:Inn a H' b):Inn W H b:=λt ht=>(k t ht).elim (h t) (λh=>.inr (YL hn h))
theorem Inn.dj{H:AH}{a b c:Fp}(h:Inn a H b)(hd:Dj a c)(hl:Lt H c):Dj b c:=λt hb hc=>(h t hb).elim (λha=>hd t ha hc) (λhn=>absurd (hl t hc) (Nat.not_lt.2 hn))
theorem Inn.djn{H:AH}{b c:Fp}(h:Inn [] H b)(hl:Lt H c):Dj b c:=h.dj Dj.nil_l hl
structure FrS(W:Fp)(H H':AH):Prop where
 wf:WF H'
 next:H.next≤H'.next
 same:∀b,b<H.next->ZI H b∉W->H'.get b=H.get b
theorem Lt.fr{W a:Fp}{H H':AH}(h:Lt H a)(k:FrS W H H'):Lt H' a:=λt ht=>YJ (h t ht) k.next
theorem Lt.le{a:Fp}{H H':AH}(h:Lt H a)(k:H.next≤H'.next):Lt H' a:=λt ht=>YJ (h t ht) k
theorem FrS.refl{H:AH}{W:Fp}(h:WF H):FrS W H H:=⟨h,Yj _,λ_ _ _=>rfl⟩
theorem Ext.frS{H H':AH}(h:Ext H H')(W:Fp):FrS W H H':=⟨h.wf,h.next,λb hb _=>h.same b hb⟩
theorem Fr.frS{φ:Nat}{H H':AH}{W:Fp}(h:Fr φ H H')(hm:φ∈W):FrS W H H':=⟨h.wf,h.next,λb hb ht=>h.same b hb (λe=>ht (by rw[e];exact hm))⟩
theorem FrS.step{W S:Fp}{A B C:AH}(hw:WF A)(h:FrS W A B)(k:FrS S B C)(hi:Inn W A S):FrS W A C:=by
 refine⟨k.wf,YL h.next k.next,λb hb ht=>?_⟩;have e:=h.same b hb ht;have ht2:ZI B b=ZI A b:=by unfold ZI;rw[e]
 refine (k.same b (YJ hb h.next) λhm=>?_).trans e;rw[ht2]at hm;rcases hi _ hm with h1|h1
 ·exact ht h1
 ·have:=hw.tok b;omega
theorem FrS.extR{W:Fp}{A B C:AH}(h:FrS W A B)(k:Ext B C):FrS W A C:=⟨k.wf,YL h.next k.next,λb hb ht=>(k.same b (YJ hb h.next)).trans (h.same b hb ht)⟩
theorem FrS.mono{W W':Fp}{A B:AH}(h:FrS W A B)(k:∀t∈W,t∈W'):FrS W' A B:=⟨h.wf,h.next,λb hb ht=>h.same b hb λhm=>ht (k _ hm)⟩
section
variable{P:Program}{H H':AH}{E:Type}{enc:E->List Value}{sz:Nat}{s:Value}{xs ys:List E}{W fp fp':Fp}
def ZbN:Value:=.slice (some ⟨0,0,some 0⟩) 0 0
structure Sq{E:Type}(enc:E->List Value)(sz:Nat)(H:AH)(s:Value)(xs:List E)(fp:Fp):Prop where
 lt:Lt H fp
 pos:0<sz
 is:(s=ZbN/\xs=[])∨(Sl enc sz H s xs/\∀b o n c,s=.slice (some ⟨b,o,none⟩) n c->b<H.next/\ZI H b∈fp)
structure Ow{E:Type}(enc:E->List Value)(sz:Nat)(H:AH)(s:Value)(xs:List E)(fp:Fp):Prop where
 lt:Lt H fp
 pos:0<sz
 is:((s=.slice none 0 0∨s=ZbN)/\xs=[])∨∃φ,φ∈fp/\Own enc sz H s xs φ
theorem Ow.sq(h:Ow enc sz H s xs fp):Sq enc sz H s xs fp:=by
 refine⟨h.lt,h.pos,?_⟩;rcases h.is with ⟨rfl|rfl,rfl⟩|⟨φ,h1,h2⟩
 ·exact .inr ⟨⟨h.pos,Xs,.inl ⟨rfl,rfl⟩⟩,λb o n c e=>by cases e⟩
 ·exact .inl ⟨rfl,rfl⟩
 ·exact .inr ⟨h2.sl,λb o n c e=>⟨(h2.slF.tok b o n c e).1,by rw[(h2.slF.tok b o n c e).2];exact h1⟩⟩
theorem Sq.nil(hp:0<sz):Sq enc sz H (.slice none 0 0) [] []:=⟨.nil,hp,.inr ⟨⟨hp,Xs,.inl ⟨rfl,rfl⟩⟩,λb o n c e=>by cases e⟩⟩
theorem Ow.nil(hp:0<sz):Ow enc sz H (.slice none 0 0) [] []:=⟨.nil,hp,.inl ⟨.inl rfl,rfl⟩⟩
theorem Ow.void(hp:0<sz):Ow enc sz H ZbN [] []:=⟨.nil,hp,.inl ⟨.inr rfl,rfl⟩⟩
theorem Sq.void(hp:0<sz):Sq enc sz H ZbN [] []:=⟨.nil,hp,.inl ⟨rfl,rfl⟩⟩
theorem Sq.fr(h:Sq enc sz H s xs fp)(k:FrS W H H')(hd:Dj W fp):Sq enc sz H' s xs fp:=by
 refine⟨h.lt.fr k,h.pos,?_⟩;rcases h.is with h1|⟨h1,h2⟩
 ·exact .inl h1
 have same:∀b o n c,s=.slice (some ⟨b,o,none⟩) n c->H'.get b=H.get b:=λb o n c e=>by
  obtain⟨a1,a2⟩:=h2 b o n c e;exact k.same b a1 (λhm=>hd _ hm a2)
 refine .inr ⟨⟨h1.pos,h1.len,?_⟩,λb o n c e=>?_⟩
 ·rcases h1.is with hs|⟨b,o,c,kd,cs,g1,g2,g3,g4⟩
  ·exact .inl hs
  ·exact .inr ⟨b,o,c,kd,cs,g1,YJ g2 k.next,(same _ _ _ _ g1).trans g3,g4⟩
 ·obtain⟨a1,a2⟩:=h2 b o n c e;refine⟨YJ a1 k.next,?_⟩;unfold ZI;rw[same _ _ _ _ e];exact a2
theorem Sq.ext(h:Sq enc sz H s xs fp)(k:Ext H H'):Sq enc sz H' s xs fp:=h.fr (k.frS []) Dj.nil_l
theorem Ow.fr(h:Ow enc sz H s xs fp)(k:FrS W H H')(hd:Dj W fp):Ow enc sz H' s xs fp:=by
 refine⟨h.lt.fr k,h.pos,?_⟩;rcases h.is with h1|⟨φ,h1,h2⟩
 ·exact .inl h1
 ·refine .inr ⟨φ,h1,h2.pos,h2.len,h2.one,YJ h2.lt k.next,?_⟩;rcases h2.is with hs|⟨b,c,kd,cs,g1,g2,g3,g4,g5⟩
  ·exact .inl hs
  ·refine .inr ⟨b,c,kd,cs,g1,YJ g2 k.next,(k.same b g2 λhm=>?_).trans g3,g4,g5⟩
   have:ZI H b=φ:=by
    unfold ZI;rw[g3];rcases g4 with ⟨rfl,rfl⟩|rfl <;> rfl
   rw[this]at hm;exact hd _ hm h1
theorem Ow.ext(h:Ow enc sz H s xs fp)(k:Ext H H'):Ow enc sz H' s xs fp:=h.fr (k.frS []) Dj.nil_l
theorem Row.frS{b:Nat}{cs:List Value}(h:Row H b cs)(k:FrS W H H')(hd:Dj W [b]):Row H' b cs:=
 ⟨YJ h.lt k.next,(k.same b h.lt (by rw[h.tok];exact λhm=>hd _ hm (List.mem_singleton.2 rfl))).trans h.row⟩
theorem Row.ltF{b:Nat}{cs:List Value}(h:Row H b cs):Lt H [b]:=λt ht=>by rw[List.mem_singleton.1 ht];exact h.lt
theorem Sq.form(h:Sq enc sz H s xs fp):∃a n c,s=.slice a n c:=by
 rcases h.is with ⟨rfl,_⟩|⟨h1,_⟩
 ·exact⟨_,_,_,rfl⟩
 ·exact h1.form
theorem Sq.one1(h:Sq enc sz H s xs fp):s.oneCell'=true:=by
 obtain⟨a,n,c,rfl⟩:=h.form;rfl
theorem Ow.form(h:Ow enc sz H s xs fp):∃a n c,s=.slice a n c:=h.sq.form
theorem Ow.one1(h:Ow enc sz H s xs fp):s.oneCell'=true:=h.sq.one1
theorem Sq.lenb{t:TypeId}(h:Sq enc sz H s xs fp)(hu:Zd1 P t=true):Zb7 P t s H=some (.int .i64 xs.length):=by
 rcases h.is with ⟨rfl,rfl⟩|⟨h1,_⟩
 ·obtain⟨e,he⟩:=ZdU hu;simp only[Zb7,he,ZbN,Yt]
 ·exact h1.lenb hu
theorem Sq.slOf(h:Sq enc sz H s xs fp){i:Int}(h1:i<(xs.length:Int))(h0:0≤i):Sl enc sz H s xs:=by
 rcases h.is with ⟨_,rfl⟩|⟨h1,_⟩
 ·simp at h1;omega
 ·exact h1
theorem Sq.idxb{t:TypeId}{k:IntKind}{i:Int}(h:Sq enc sz H s xs fp)(ht:Zbh P t=some sz)(h0:0≤i)(h1:i<(xs.length:Int)):ZO P t s (.int k i)=some (elp s sz i.toNat 0):=
 (h.slOf h1 h0).idxb ht h0 h1
theorem Sq.ld[Inhabited E]{t:TypeId}{i:Int}{off:Nat}{v:Value}(h:Sq enc sz H s xs fp)(h0:0≤i)(h1:i<(xs.length:Int))(hv:ZeJ P t (enc (gt xs i)) off=some v) :
  ZbK P t (elp s sz i.toNat off) H=some v:=(h.slOf h1 h0).ld h0 h1 hv
theorem Sq.fldq{t:TypeId}{i:Int}{off f d:Nat}(h:Sq enc sz H s xs fp)(h0:0≤i)(h1:i<(xs.length:Int))(hf:Zkg P t f=some d):Zz P t (elp s sz i.toNat off) f=some (elp s sz i.toNat (off+d)):=
 (h.slOf h1 h0).fldq h0 h1 hf
theorem Sq.cut(h:Sq enc sz H s xs fp){t:TypeId}(ht:Zbh P t=some sz){lo hi:Option Value}{l r:Nat}(e1:Z4 0 lo=some l)(e2:Z4 xs.length hi=some r)(hl:l≤r)(hr:r≤xs.length) :
  ∃s',ZT P t s lo hi none H=some s'/\Sq enc sz H s' ((xs.take r).drop l) fp:=by
 rcases h.is with ⟨rfl,rfl⟩|⟨h1,h2⟩
 ·obtain⟨m,z,hT⟩:=ZaU ht;obtain⟨e,inf,hu,hinf,_,hs,_⟩:=ZaH hT;simp at hr;subst hr;have hl0:l=0:=Xo;subst hl0;refine⟨ZbN,?_,h.lt,h.pos,.inl ⟨rfl,Xs⟩⟩;unfold ZT ZbN;simp only[hu,hinf,e1,show Z4 0 hi=some 0 from by simpa using e2,Yj,and_self,if_true]
 ·obtain⟨s',g1,g2⟩:=h1.cutb ht e1 e2 hl hr;refine⟨s',g1,h.lt,h.pos,.inr ⟨g2,λb o n c e=>?_⟩⟩;obtain⟨a,n0,c0,rfl⟩:=h1.form;obtain⟨a',n',c',e3,e4⟩:=Zms g1;rw[e3]at e;cases e
  obtain⟨o',rfl⟩:=e4 b o rfl;exact h2 b o' n0 c0 rfl
theorem Ow.head(h:Ow enc sz H s xs fp){t:TypeId}(ht:Zbh P t=some sz){hi:Option Value}{r:Nat}(e2:Z4 xs.length hi=some r)(hr:r≤xs.length) :
  ∃s',ZT P t s none hi none H=some s'/\Ow enc sz H s' (xs.take r) fp:=by
 rcases h.is with ⟨hs0,rfl⟩|⟨φ,h1,h2⟩
 ·obtain⟨m,z,hT⟩:=ZaU ht;obtain⟨e,inf,hu,hinf,_,hs,_⟩:=ZaH hT;simp at hr;subst hr;rcases hs0 with rfl|rfl
  ·refine⟨.slice none 0 0,?_,h.lt,h.pos,.inl ⟨.inl rfl,Xs⟩⟩;unfold ZT;simp only[hu,hinf,show Z4 0 none=some 0 from rfl,show Z4 0 hi=some 0 from by simpa using e2,Yj,and_self,if_true]
  ·refine⟨ZbN,?_,h.lt,h.pos,.inl ⟨.inr rfl,Xs⟩⟩;unfold ZT ZbN;simp only[hu,hinf,show Z4 0 none=some 0 from rfl,show Z4 0 hi=some 0 from by simpa using e2,Yj,and_self,if_true]
 ·obtain⟨s',g1,g2⟩:=h2.head ht e2 hr;exact⟨s',g1,h.lt,h.pos,.inr ⟨φ,h1,g2⟩⟩
theorem Inn.one{H:AH}{fp:Fp}{ψ:Nat}(h:ψ∈fp∨ψ=H.next):Inn fp H [ψ]:=λt ht=>by
 rw[List.mem_singleton.1 ht];exact h.elim .inl λe=>.inr (Nat.le_of_eq e.symm)
theorem Sq.src(h:Sq enc sz H s ys fp):(s=ZbN/\ys=[])∨Sl enc sz H s ys:=h.is.imp id And.left
theorem Ow.append{t:Value}{fq:Fp}(m:Nat){at_:Array TypeId}{t0 t1:TypeId}(hw:WF H)(h:Ow enc sz H s xs fp)(hy:Sq enc sz H t ys fq)(h1:∀y∈ys,Zy (enc y)=true)
  (a0:at_[0]? = some t0) (a1:at_[1]? = some t1) (hT':ZfL P t0=some (sz,m)) (hT1':Zd1 P t1=true) (hm:m≠0) (hcap:((xs.length+ys.length)+(xs.length+ys.length) / 4+512)*m≤2 ^ 48) :
  ∃s' H' fp',Zam P at_ s t H=some (s',H')/\FrS fp H H'/\Ow enc sz H' s' (xs++ys) fp'/\Inn fp H fp':=by
 -- a void source is as good as nil
 have key:∀(t':Value),Sl enc sz H t' ys->Zam P at_ s t' H=Zam P at_ s t H->∃s' H' fp',Zam P at_ s t H=some (s',H')/\FrS fp H H'/\Ow enc sz H' s' (xs++ys) fp'/\Inn fp H fp':=by
  intro t' hy' he;rcases h.is with ⟨hs0,rfl⟩|⟨φ,hφ,ho⟩
  ·-- nil: any token serves;a new one
   have hwb:=(ZnC hw).wf;obtain⟨z,hz⟩:=Zey hT';obtain⟨e,i,hu,hi,hel,hs,hb⟩:=ZaH hz;obtain⟨e1,he1⟩:=ZdU hT1';have hu1:at_[1]?.bind P.underlying=some (.slice e1):=by rw[a1];exact he1
   have hu0:at_[0]?.bind (ZaY P)=some (e,i,z):=by rw[a0];exact hel
   have keep:H.append sz m s 0 []=some (s,H):=by
    unfold AH.append;have:=h.pos;rw[if_neg (by simp;omega)];rcases hs0 with rfl|rfl <;> simp[ZbN]
   have none0:∃s' H' fp',some (s,H)=some (s',H')/\FrS fp H H'/\Ow enc sz H' s' ([]++[]) fp'/\Inn fp H fp':=
    ⟨s,H,[],rfl,.refl hw,⟨.nil,h.pos,.inl ⟨hs0,rfl⟩⟩,.nil⟩
   rcases hy'.is with ⟨rfl,rfl⟩|⟨b,o,c,kd,cs,rfl,g2,g3,g4,g5,g6⟩
   ·rw[← he];unfold Zam;rw[hu0,hu1];dsimp only;rw[hs,hb,keep];exact none0
   ·obtain⟨-,hc⟩:=hy'.cells;by_cases hy0:ys.length=0
    ·have:ys=[]:=Yx hy0;subst this;rw[← he];unfold Zam;rw[hu0,hu1];dsimp only;rw[hs,hc];dsimp only;rw[if_pos (by rfl),hb];simp only[Yt,List.flatMap_nil];rw[keep];exact none0
    ·have hvl:(ys.flatMap enc).length=ys.length*sz:=ZaB hy'.len;refine⟨.slice (some ⟨H.next,0,none⟩) ys.length ys.length,H.push (.row (.loose H.next sz) (ys.flatMap enc)),[H.next],?_,(Zdj hw _ (λψ z cs e=>by cases e;exact Yj _)).frS _,⟨λt ht=>?_,h.pos,.inr ⟨H.next,List.mem_singleton.2 rfl,?_⟩⟩,.one (.inr rfl)⟩
     ·rw[← he];unfold Zam;rw[hu0,hu1];dsimp only;rw[hs,hc];dsimp only;rw[if_pos (ZgD h1),hb];unfold AH.append;have:=h.pos;rw[if_neg Xo];simp only[Yt,Y8]at hcap ⊢;rcases hs0 with rfl|rfl
      ·dsimp only;rw[if_neg Xo,Y8,if_neg Xo];simp
      ·unfold ZbN;dsimp only;rw[if_neg Xo,Y8,if_neg Xo];simp
     ·rw[List.mem_singleton.1 ht];exact YI _
     ·exact⟨h.pos,by simpa using hy'.len,by simpa using h1,YI _,.inr ⟨H.next,ys.length,_,_,Xs,YI _,AH.push_get _ _,.inr rfl,Xs,hvl.symm,λi x hx j hj=>Zbz hy'.len (by simpa using hx) hj⟩⟩
  ·obtain⟨s',H',ψ,e1,e2,e3,e4⟩:=Zlo (P:=P) m hw ho hy' h1 a0 a1 hT' hT1' hm hcap;refine⟨s',H',[ψ],by rw[← he];exact e1,e2.frS hφ,⟨λt ht=>?_,h.pos,.inr ⟨ψ,List.mem_singleton.2 rfl,e3⟩⟩,.one (e4.imp (λe=>by rw[e];exact hφ) id)⟩;rw[List.mem_singleton.1 ht];exact e3.lt
 rcases hy.src with ⟨rfl,rfl⟩|hy'
 ·refine key (.slice none 0 0) ⟨hy.pos,Xs,.inl ⟨rfl,rfl⟩⟩ ?_;unfold Zam ZbN;rfl
 ·exact key t hy' rfl
theorem Ow.put(hw:WF H)(h:Ow enc sz H s xs fp){i off:Nat}{x y:E}{vs:List Value}(hx:xs[i]? = some x)(hl:off+vs.length≤sz)(hy:enc y=Zaa (enc x) off vs)(h1:Zy vs=true) :
  ∃b o H',elp s sz i off=.pointer (some ⟨b,o,none⟩)/\H.puts b o vs=some H'/\FrS fp H H'/\H'.next=H.next/\Ow enc sz H' s (xs.set i y) fp:=by
 rcases h.is with ⟨_,rfl⟩|⟨φ,hφ,ho⟩
 ·simp at hx
 ·obtain⟨b,o,H',e1,e2,e3,e4,e5⟩:=ho.put hw hx hl hy h1;exact⟨b,o,H',e1,e2,e3.frS hφ,e4,⟨h.lt.le (Nat.le_of_eq e4.symm),h.pos,.inr ⟨φ,hφ,e5⟩⟩⟩
theorem Ow.new(hw:WF H)(hp:0<sz)(hl:∀x∈xs,(enc x).length=sz)(h1:∀x∈xs,Zy (enc x)=true) :
  Ext H (H.push (.row .own (xs.flatMap enc)))/\Ow enc sz (H.push (.row .own (xs.flatMap enc))) (.slice (some ⟨H.next,0,none⟩) xs.length xs.length) xs [H.next]/\Inn [] H [H.next]:=by
 obtain⟨a,b⟩:=Own.new hw hp hl h1;exact⟨a,⟨λt ht=>by rw[List.mem_singleton.1 ht];exact YI _,hp,.inr ⟨_,List.mem_singleton.2 rfl,b⟩⟩,.one (.inr rfl)⟩
end
end Go.Vd
