/- Texts. -/
import Derived.Test.YtlfclppjhkeljaaGreatPwhVdX
set_option linter.all false
open Nat renaming le_refl→Yj
namespace Go.Vd
variable[Pins]
variable{P:Program}{H H':AH}
def encE(k e:IntKind)(p:Int×Int):Value×Value:=(.int k p.1,.int e p.2)
def lk:Yf->Int->Option Int
 | [],_=>none
 | p::l,k=>if k=p.1 then some p.2 else lk l k
structure Mp(ki ei:IntKind)(H:AH)(b:Nat)(f:Int->Option Int):Prop where
 lt:b<H.next
 is:∃m clock,H.get b=some (.map (m.map (encE ki ei)) clock)/\(m.map (·.1)).Nodup/\∀k,lk m k=f k
variable{ki ei:IntKind}{b:Nat}{f:Int->Option Int}
theorem ZiC{kt:TypeId}{k:IntKind}(h:P.underlying kt=some (.int k)):ZgA P kt=true:=by unfold ZgA;rw[h]
theorem ZlV(hw:WF H)(hlt:b<H.next){es es':List (Value×Value)}{c c':Nat}(hg:H.get b=some (.map es c)):Fr b H (H.upd b (.map es' c')):=by
 refine⟨⟨λx hx=>?_,λx=>?_⟩,Yj _,λx hx ht=>?_⟩
 ·have hx':H.next≤x:=hx;have:x≠b:=λe=>Xo;simp only[AH.upd,if_neg this];exact hw.fresh x hx'
 ·by_cases hx:x=b
  ·subst hx;simp[ZI,AH.upd]
  ·have:ZI (H.upd b (.map es' c')) x=ZI H x:=by unfold ZI AH.upd;dsimp only;rw[if_neg hx]
   rw[this];exact hw.tok x
 ·have:x≠b:=λe=>ht (by rw[e];simp[ZI,hg]);simp only[AH.upd,if_neg this]
section seq
variable{ops:Array Oper}{K:AAct->AH->Prop}{α:AAct}{o:Oper}{rest:List Oper}
end seq
structure SlF{E:Type}(enc:E->List Value)(sz:Nat)(H:AH)(s:Value)(xs:List E)(φ:Nat):Prop where
 sl:Sl enc sz H s xs
 tok:∀b o n c,s=.slice (some ⟨b,o,none⟩) n c->b<H.next/\ZI H b=φ
section
variable{E:Type}{enc:E->List Value}{sz:Nat}{s:Value}{xs:List E}{φ ψ:Nat}
theorem Own.slF(h:Own enc sz H s xs φ):SlF enc sz H s xs φ:=by
 refine⟨h.sl,λb o n c e=>?_⟩;rcases h.is with ⟨e1,_⟩|⟨b',c',k,cs,e1,h2,h3,h4,_⟩
 ·rw[e1]at e;cases e
 ·rw[e1]at e;cases e;refine⟨h2,?_⟩;unfold ZI;rw[h3];rcases h4 with ⟨rfl,rfl⟩|rfl <;> rfl
end
end Go.Vd
