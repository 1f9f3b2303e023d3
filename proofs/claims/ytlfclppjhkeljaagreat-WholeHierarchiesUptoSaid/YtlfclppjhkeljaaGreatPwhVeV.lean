/- Texts. -/
import Derived.Test.YtlfclppjhkeljaaGreatPwhVeB
set_option linter.all false
open List renaming mem_of_mem_drop→Y1,getElem?_drop→Yja,replicate→Ym,take_of_length_le→YE,eq_of_mem_replicate→YU,length_replicate→Y6,mem_of_mem_take→YN,getElem?_append→Yba,length_take→YG,getElem?_take→YY
open Nat renaming le_refl→Yj,zero_add→Y8,mul_le_mul_right→Yz
open Option renaming map_some→Yda
namespace Go.Vd
variable[Pins]
section
variable{P:Program}{H H':AH}{E:Type}{enc:E->List Value}{sz:Nat}{s s':Value}{xs:List E}{fp:Fp}{l:Nat}
def View(s:Value)(sz l:Nat)(s':Value):Prop:=
 (l=0/\((s=.slice none 0 0/\s'=.slice none 0 0)∨(s=ZbN/\s'=ZbN))) ∨
 ∃b n c o c',s=.slice (some ⟨b,0,none⟩) n c/\s'=.slice (some ⟨b,o,none⟩) (n-l) c'/\l≤n/\((o=l*sz/\c'=c-l)∨(n-l=0/\o=0/\c'=0))
theorem View.form(h:View s sz l s'):∃a n c,s'=.slice a n c:=by
 rcases h with ⟨_,⟨_,rfl⟩|⟨_,rfl⟩⟩|⟨b,n,c,o,c',_,rfl,_⟩
 ·exact⟨_,_,_,rfl⟩
 ·exact⟨_,_,_,rfl⟩
 ·exact⟨_,_,_,rfl⟩
theorem Ow.view(h:Ow enc sz H s xs fp){t:TypeId}(ht:Zbh P t=some sz){lo:Option Value}(e1:Z4 0 lo=some l)(hl:l≤xs.length) :
  ∃s',ZT P t s lo none none H=some s'/\View s sz l s':=by
 obtain⟨m,z,hT⟩:=ZaU ht;obtain⟨e,inf,hu,hinf,_,hs,_⟩:=ZaH hT;rcases h.is with ⟨hs0,rfl⟩|⟨φ,hφ,hown⟩
 ·have hl0:l=0:=by simpa using hl
  subst hl0;rcases hs0 with rfl|rfl
  ·refine⟨.slice none 0 0,?_,.inl ⟨rfl,.inl ⟨rfl,rfl⟩⟩⟩;unfold ZT;simp only[hu,hinf,e1,show Z4 0 none=some 0 from rfl,Yj,and_self,if_true]
  ·refine⟨ZbN,?_,.inl ⟨rfl,.inr ⟨rfl,rfl⟩⟩⟩;unfold ZT ZbN;simp only[hu,hinf,e1,show Z4 0 none=some 0 from rfl,Yj,and_self,if_true]
 ·rcases hown.is with ⟨rfl,rfl⟩|⟨b,c,k,cs,rfl,g2,g3,g4,g5,g6,g7⟩
  ·have hl0:l=0:=by simpa using hl
   subst hl0;refine⟨.slice none 0 0,?_,.inl ⟨rfl,.inl ⟨rfl,rfl⟩⟩⟩;unfold ZT;simp only[hu,hinf,e1,show Z4 0 none=some 0 from rfl,Yj,and_self,if_true]
  ·unfold ZT;simp only[hu,hinf,e1,show Z4 xs.length none=some xs.length from rfl,g3];rw[if_pos ⟨hl,g5⟩];by_cases hc:(AObj.row k cs).isLoose=true∨l<c
   ·rw[if_pos hc];exact⟨_,rfl,.inr ⟨b,_,c,_,_,rfl,by rw[Y8,hs],hl,.inl ⟨rfl,rfl⟩⟩⟩
   ·rw[if_neg hc]
    have h1:c≤l:=by
     rcases Nat.lt_or_ge l c with h|h
     ·exact absurd (.inr h) hc
     ·exact h
    exact⟨_,rfl,.inr ⟨b,_,c,0,_,rfl,by rw[show c-l=0 from Xo],hl,.inr ⟨Xo,rfl,rfl⟩⟩⟩
theorem View.sq(v:View s sz l s')(h:Ow enc sz H s xs fp):Sq enc sz H s' (xs.drop l) fp/\l≤xs.length:=by
 rcases v with ⟨rfl,h1⟩|⟨b,n,c,o,c',rfl,rfl,hl,hoc⟩
 ·have hsq:=h.sq;rcases h1 with ⟨rfl,rfl⟩|⟨rfl,rfl⟩
  ·exact⟨by simpa using hsq,Nat.zero_le _⟩
  ·exact⟨by simpa using hsq,Nat.zero_le _⟩
 ·rcases h.is with ⟨h1|h1,_⟩|⟨φ,hφ,hown⟩
  ·cases h1
  ·cases h1
  rcases hown.is with ⟨h1,_⟩|⟨b',cp,k,cs,h1,g2,g3,g4,g5,g6,g7⟩
  ·cases h1
  cases h1
  have hd:(xs.drop l).length=xs.length-l:=List.length_drop;refine⟨⟨h.lt,h.pos,.inr ⟨⟨h.pos,λx hx=>hown.len x (Y1 hx),.inr ⟨b,o,c',k,cs,by rw[hd],g2,g3,?_,?_,?_⟩⟩,λb1 o1 n1 c1 e1=>?_⟩⟩,hl⟩
  ·rcases hoc with ⟨_,rfl⟩|⟨h0,_,rfl⟩ <;> omega
  ·rcases hoc with ⟨rfl,rfl⟩|⟨h0,rfl,rfl⟩
   ·have hm:(c-l)*sz=c*sz-l*sz:=Nat.sub_mul _ _ _;have hm2:l*sz≤c*sz:=Yz _ Xo;omega
   ·simp
  ·intro i x hx j hj;rw[Yja]at hx;rcases hoc with ⟨rfl,rfl⟩|⟨h0,rfl,rfl⟩
   ·have:=g7 (l+i) x hx j hj;rw[Nat.add_mul]at this;exact this
   ·have:=(List.getElem?_eq_some_iff.1 hx).1;omega
  ·cases e1
   refine⟨g2,?_⟩;unfold ZI;rw[g3];rcases g4 with ⟨rfl,rfl⟩|rfl <;> exact hφ
theorem View.clear(v:View s sz l s'){m:Nat}{at_:Array TypeId}{t0:TypeId}(x0:E)(hw:WF H)(h:Ow enc sz H s xs fp)(hpos:(0:Int)<(xs.length:Int))(a0:at_[0]? = some t0)(hT:mkT P t0=some (sz,m,enc x0)) :
  ∃H',Zer P at_ s' H=some H'/\FrS fp H H'/\Ow enc sz H' s (xs.take l++Ym (xs.length-l) x0) fp:=by
 unfold mkT at hT;cases he:ZaY P t0 with
 | none=>rw[he]at hT;cases hT
 | some q =>
 obtain⟨e,i,z⟩:=q;rw[he]at hT;simp only[Yda,Option.some.injEq,Prod.mk.injEq]at hT;obtain⟨b1,b2,b3⟩:=hT;obtain⟨g1,g2,g3,g4,g5,g6⟩:=ZcI he;have hlen:(enc x0).length=sz:=by rw[← b3,Array.length_toList,g4,b1]
 have hone:Zy (enc x0)=true:=by rw[← b3];exact g6
 have hu0:at_[0]?.bind (ZaY P)=some (e,i,z):=by rw[a0];exact he
 rcases v with ⟨rfl,h1⟩|⟨b,n,c,o,c',rfl,rfl,hl,hoc⟩
 ·have hx:xs=[]:=by
   rcases h.is with ⟨_,hx⟩|⟨φ,_,hown⟩
   ·exact hx
   ·rcases hown.is with ⟨_,hx⟩|⟨b',c',k,cs,e1,_⟩
    ·exact hx
    ·rcases h1 with ⟨rfl,_⟩|⟨rfl,_⟩ <;> cases e1
  subst hx;simp at hpos
 ·rcases h.is with ⟨h1|h1,_⟩|⟨φ,hφ,hown⟩
  ·cases h1
  ·cases h1
  rcases hown.is with ⟨h1,_⟩|⟨b',cp,k,cs,h1,q2,q3,q4,q5,q6,q7⟩
  ·cases h1
  cases h1
  by_cases h0:xs.length-l=0
  ·refine⟨H,?_,.refl hw,?_⟩
   ·unfold Zer;rw[hu0];dsimp only;rw[if_pos h0]
   ·rw[h0,List.replicate_zero,List.append_nil,YE Xo];exact h
  ·rcases hoc with ⟨rfl,rfl⟩|⟨h1,_⟩
   rotate_left
   ·exact absurd h1 h0
   have hz:Zac z (xs.length-l)=(Ym (xs.length-l) x0).flatMap enc:=by rw[ZkW,← b3];rfl
   have hzl:((Ym (xs.length-l) x0).flatMap enc).length=(xs.length-l)*sz:=by
    rw[ZaB (sz:=sz) (λx hx=>by rw[YU hx];exact hlen),Y6]
   have hm:(xs.length-l)*sz=xs.length*sz-l*sz:=Nat.sub_mul _ _ _;have hm2:l*sz≤xs.length*sz:=Yz _ hl;have hm3:xs.length*sz≤c*sz:=Yz _ q5;obtain⟨H',p1,p2,p3,p4⟩:=Zf6 (o:=l*sz) (vs:=(Ym (xs.length - l) x0).flatMap enc) (φ:=φ) (sz:=sz) hw q2 q3 q4 Xo;refine⟨H',?_,p2.frS hφ,h.lt.le (Nat.le_of_eq p3.symm),h.pos,.inr ⟨φ,hφ,?_⟩⟩
   ·unfold Zer;rw[hu0];dsimp only;rw[if_neg h0,hz,p1]
   ·have hll:(xs.take l++Ym (xs.length-l) x0).length=xs.length:=by simp;omega
    refine⟨h.pos,λx hx=>(List.mem_append.1 hx).elim (λh=>hown.len x (YN h)) (λh=>by rw[YU h];exact hlen),λx hx=>(List.mem_append.1 hx).elim (λh=>hown.one x (YN h)) (λh=>by rw[YU h];exact hone),by rw[p3];exact hown.lt,.inr ⟨b,c,k,_,by rw[hll],by rw[p3];exact q2,p4,q4,by rw[hll];exact q5,by rw[ZcH Xo];exact q6,?_⟩⟩;intro j x hx q hq;have hj:=(List.getElem?_eq_some_iff.1 hx).1;rw[hll]at hj;have hm4:(j+1)*sz≤xs.length*sz:=Yz _ hj;have hm5:(j+1)*sz=j*sz+sz:=Nat.succ_mul _ _;rw[Yba]at hx;have hl1:(xs.take l).length=l:=by rw[YG];omega
    rw[hl1]at hx;rw[Zfh Xo,hzl];by_cases hjl:j<l
    ·have hm6:(j+1)*sz≤l*sz:=Yz _ hjl;rw[if_pos hjl]at hx;rw[YY]at hx;rw[if_pos hjl]at hx;rw[if_pos Xo];exact q7 j x hx q hq
    ·have hm6:l*sz≤j*sz:=Yz _ Xo;have hm7:(j-l)*sz=j*sz-l*sz:=Nat.sub_mul _ _ _;rw[if_neg hjl]at hx;rw[if_neg Xo,if_pos Xo];rw[show j*sz+q-l*sz=(j-l)*sz+q from Xo];exact Zbz (λx hx=>by rw[YU hx];exact hlen) hx hq
structure SlAt(P:Program)(t:TypeId)(s:Value)(lo hi:Option Value)(H:AH)(s':Value)(fp:Fp):Prop where
 eq:ZT P t s lo hi none H=some s'
 tok:∀b o n c,s=.slice (some ⟨b,o,none⟩) n c->b<H.next/\ZI H b∈fp
end
end Go.Vd
