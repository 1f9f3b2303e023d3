/- Texts. -/
import Derived.Test.YtlfclppjhkeljaaGreatPwhVdZ
set_option linter.all false
open List renaming mem_of_mem_take→YN,getElem?_take→YY
open Nat renaming le_refl→Yj
namespace Go.Vd
variable[Pins]
variable{P:Program}{H H':AH}{E:Type}{enc:E->List Value}{sz:Nat}{s:Value}{xs:List E}{φ:Nat}
theorem Zms{t:TypeId}{a:Option Addr}{n c:Nat}{lo hi:Option Value}{s':Value}(h:ZT P t (.slice a n c) lo hi none H=some s'):∃a' n' c',s'=.slice a' n' c'/\(∀b o,a'=some ⟨b,o,none⟩->∃o',a=some ⟨b,o',none⟩):=by
 unfold ZT at h;split at h
 ·rename_i e a0 n0 c0 hu hs hm
  cases hs
  split at h
  ·split at h
   ·split at h
    ·split at h
     ·cases h;exact⟨_,_,_,rfl,λb o e=>by cases e⟩
     ·cases h
    ·rename_i b o
     split at h
     ·split at h
      ·cases h;exact⟨_,_,_,rfl,λb' o' e=>by cases e;exact⟨_,rfl⟩⟩
      ·split at h
       ·cases h;exact⟨_,_,_,rfl,λb' o' e=>by cases e;exact⟨_,rfl⟩⟩
       ·cases h
     ·cases h
    ·rename_i ad hne
     split at h
     ·cases h;exact⟨_,_,_,rfl,λb' o' e=>by cases e;exact absurd rfl (hne b' o')⟩
     ·cases h
   ·cases h
  ·cases h
 ·rename_i hm;cases hm
 ·cases h
theorem Own.head(h:Own enc sz H s xs φ){t:TypeId}(ht:Zbh P t=some sz){hi:Option Value}{r:Nat}(e2:Z4 xs.length hi=some r)(hr:r≤xs.length) :
  ∃s',ZT P t s none hi none H=some s'/\Own enc sz H s' (xs.take r) φ:=by
 obtain⟨m,z,hT⟩:=ZaU ht;obtain⟨e,inf,hu,hinf,_,hs,_⟩:=ZaH hT;have hlen:∀x∈xs.take r,(enc x).length=sz:=λx hx=>h.len x (YN hx);have hone:∀x∈xs.take r,Zy (enc x)=true:=λx hx=>h.one x (YN hx);rcases h.is with ⟨rfl,rfl⟩|⟨b,c,k,cs,rfl,h2,h3,h4,h5,h6,h7⟩
 ·simp at hr;subst hr;refine⟨.slice none 0 0,?_,h.pos,Xs,Xs,h.lt,.inl ⟨rfl,rfl⟩⟩;unfold ZT;have e2':Z4 0 hi=some 0:=by simpa using e2
  simp only[hu,hinf,show Z4 0 none=some 0 from rfl,e2',Yj,and_self,if_true]
 ·have hl:(xs.take r).length=r:=by simp;omega
  refine⟨.slice (some ⟨b,0,none⟩) r c,?_,h.pos,hlen,hone,h.lt,.inr ⟨b,c,k,cs,by rw[hl],h2,h3,h4,by rw[hl];omega,h6,λi x hx j hj=>?_⟩⟩
  ·unfold ZT;simp only[hu,hinf,show Z4 0 none=some 0 from rfl,e2,h3];rw[if_pos ⟨Nat.zero_le _,Xo⟩];split
   ·simp
   ·simp
  ·rw[YY]at hx;split at hx
   ·exact h7 i x hx j hj
   ·cases hx
end Go.Vd
