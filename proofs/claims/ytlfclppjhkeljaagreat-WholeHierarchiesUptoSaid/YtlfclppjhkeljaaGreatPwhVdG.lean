/- Texts. -/
import Derived.Test.YtlfclppjhkeljaaGreatPwhVdF
set_option linter.all false
open Array renaming getD_eq_getD_getElem?→YD,getElem?_eq_getElem→YH
open Bool renaming false_eq_true→Y5,and_eq_true→YW
open Int renaming le_refl→YO
open Nat renaming le_trans→YL,le_refl→Yj
open Option renaming map_some→Yda
namespace Go.Vd
variable[Pins]
variable{P:Program}{μ:Mu}{H:AH}{w:World}
theorem ZjP{t:TypeId}{d:TypeDesc}(h:P.underlying t=some d)(w:World):(isAgg t).run P w=.ok (ZgZ d) w:=by
 simp only[isAgg,Sem.run_bind,ZL h,Result.andThen_ok];cases d <;> rfl
theorem ZkQ{b o:Nat}{p:Pl}{v:Value}(h:Rel μ H w)(hb:μ b=some p)(hv:H.cell b o=some v)(m:Mode) :
  ∃v',(load ⟨p.blk,p.off+o,none⟩ m).run P w=.ok v' w/\VRel μ v v':=by
 obtain⟨v',a,r,_⟩:=h.cell hb hv;exact⟨v',by rw[run_load,a],r⟩
theorem Zgu{t:TypeId}{v v' r:Value}(h:Rel μ H w)(hv:VRel μ v v')(ha:ZbK P t v H=some r) :
  ∃r',(Instr.loadAt t v').run P w=.ok r' w/\VRel μ r r':=by
 unfold ZbK at ha;split at ha
 ·rename_i b o
  cases hv with
  | ptr _ _ p hb =>
   split at ha
   ·rename_i d i hd hi
    simp only[Instr.loadAt,Instr.sureAddr,Sem.run_bind,Sem.run_pure,Result.andThen_ok,loadVar,ZjP hd];by_cases hag:ZgZ d=true
    ·rw[if_pos hag]at ha;cases hc:H.cells b o i.size with
     | none=>rw[hc]at ha;cases ha
     | some l =>
      rw[hc]at ha;cases ha;obtain⟨l',e1,e2,e3,_⟩:=h.cells hb hc P;refine⟨.agg l'.toArray,?_,?_⟩
      ·simp only[hag,if_true,Sem.run_bind,ZaQ hi,Result.andThen_ok,e1 w rfl,Sem.run_pure]
      ·have:ARel μ l.toArray l'.toArray:=ARel.toList.2 e2;exact .agg _ _ this.1 this.2
    ·rw[if_neg hag]at ha;obtain⟨r',e1,e2⟩:=ZkQ (P:=P) h hb ha .plain;exact⟨r',by simp only[hag,Y5,if_false];exact e1,e2⟩
   ·cases ha
 ·cases ha
theorem Zph{t:TypeId}{x y:Operand}{a b:Value}{r:Bool}(hg:(eqGuard .eql t x y a b).run P w=.ok () w)(hb:binOp .eql t a b=(do pure (.bool (← Op.equal t a b))))(he:(Op.equal t a b).run P w=.ok r w) :
  (do eqGuard .eql t x y a b;binOp .eql t a b:Sem Value).run P w=.ok (.bool r) w:=by
 rw[hb];simp only[Sem.run_bind,hg,Result.andThen_ok,he,Sem.run_pure]
theorem ZoY{t:TypeId}{x y:Operand}{a b:Value}{r:Bool}(hg:(eqGuard .neq t x y a b).run P w=.ok () w)(hb:binOp .neq t a b=(do pure (.bool (!(← Op.equal t a b)))))(he:(Op.equal t a b).run P w=.ok r w) :
  (do eqGuard .neq t x y a b;binOp .neq t a b:Sem Value).run P w=.ok (.bool (!r)) w:=by
 rw[hb];simp only[Sem.run_bind,hg,Result.andThen_ok,he,Sem.run_pure]
theorem Zh6{t:TypeId}{d:TypeDesc}{a b:Value}(hu:P.underlying t=some d)
  (hc:(∃ms u x,d=.interface ms/\a=.iface u x/\b=.nilIface)∨(∃ms u x,d=.interface ms/\a=.nilIface/\b=.iface u x) ∨
   (∃e x,d=.pointer e/\a=.pointer (some x)/\b=.pointer none)∨(∃e x,d=.pointer e/\a=.pointer none/\b=.pointer (some x)) ∨
   (∃e x n c,d=.slice e/\a=.slice (some x) n c/\b=.slice none 0 0)):(Op.equal t a b).run P w=.ok false w:=by
 show (Op.equalIn (9999+1) t a b).run P w=_
 rcases hc with ⟨ms,u,x,rfl,rfl,rfl⟩|⟨ms,u,x,rfl,rfl,rfl⟩|⟨e,x,rfl,rfl,rfl⟩|⟨e,x,rfl,rfl,rfl⟩|⟨e,x,n,c,rfl,rfl,rfl⟩ <;>
  (rw[Op.equalIn.eq_def];simp only[Sem.run_bind,ZL hu,Result.andThen_ok,Sem.run_pure];try rfl)
theorem Zl3{op:BinOp}{t:TypeId}{x y:Operand}{a b a' b' r:Value}(ha:VRel μ a a')(hb:VRel μ b b')(hr:Za2 P op t x y a b=some r) :
  ∃r',(do eqGuard op t x y a' b';binOp op t a' b':Sem Value).run P w=.ok r' w/\VRel μ r r':=by
 unfold Za2 at hr;by_cases hp:(plain a && plain b)=true
 ·rw[if_pos hp]at hr;simp only[YW]at hp;rw[Zgc hp.1 ha,Zgc hp.2 hb];split at hr
  ·rename_i r0 hpr
   by_cases hr0:plain r0=true
   ·rw[if_pos hr0]at hr;cases hr;exact⟨r,Zi9 hpr w,ZaT μ hr0⟩
   ·rw[if_neg hr0]at hr;cases hr
  ·cases hr
 ·rw[if_neg hp]at hr;split at hr
  all_goals first
   | (cases hr;done)
   | (rename_i hu;cases hr;cases ha <;> cases hb <;>
      exact⟨_,Zph rfl rfl (Zh6 hu Xs),.bool _⟩)
   | (rename_i hu;cases hr;cases ha <;> cases hb <;>
      exact⟨_,ZoY rfl rfl (Zh6 hu Xs),.bool _⟩)
theorem ZmT{op:UnOp}{a a' r:Value}(ha:VRel μ a a')(hr:aUn P op a=some r):∃r',(Op.unary op a').run P w=.ok r' w/\VRel μ r r':=by
 unfold aUn at hr;by_cases hp:plain a=true
 ·rw[if_pos hp]at hr;rw[Zgc hp ha];split at hr
  ·rename_i r0 hpr
   by_cases hr0:plain r0=true
   ·rw[if_pos hr0]at hr;cases hr;exact⟨r,Zi9 hpr w,ZaT μ hr0⟩
   ·rw[if_neg hr0]at hr;cases hr
  ·cases hr
 ·rw[if_neg hp]at hr;cases hr
theorem Zlc{s d:TypeId}{a a' r:Value}(ha:VRel μ a a')(hr:Zmh P s d a=some r):∃r',(convert s d a').run P w=.ok r' w/\VRel μ r r':=by
 unfold Zmh at hr;split at hr
 ·rename_i k0 k kx n h1 h2
  cases hr;cases ha
  exact⟨_,by simp[convert,ZL h1,ZL h2,Conv.intToInt],.int _ _⟩
 ·cases hr
theorem Zlf{t:TypeId}{cs cs':Array Value}{off:Nat}{r:Value}(hc:ARel μ cs cs')(hr:Zma P t cs off=some r):∃r',(part t cs' off).run P w=.ok r' w/\VRel μ r r':=by
 unfold Zma at hr;split at hr
 ·rename_i d i hd hi
  simp only[part,Sem.run_bind,ZjP hd,Result.andThen_ok];by_cases hag:ZgZ d=true
  ·rw[if_pos hag]at hr;cases hr;refine⟨.agg (cs'.extract off (off+i.size)),by simp[hag,ZaQ hi],.agg _ _ (by simp[hc.1]) λj=>?_⟩;have:=hc.2 (off+j);simp only[YD,Array.getElem?_extract]at this ⊢;rw[hc.1];split
   ·exact this
   ·exact .nilIface
  ·rw[if_neg hag]at hr;have hlt:off<cs.size:=(Array.getElem?_eq_some_iff.1 hr).1;have hlt':off<cs'.size:=by rw[← hc.1];exact hlt
   refine⟨cs'[off],?_,?_⟩
   ·simp only[hag,Y5,if_false,YH hlt',Sem.run_pure]
   ·have:=hc.2 off;rw[YD,YD,hr,YH hlt']at this;exact this
 ·cases hr
theorem VRel.aggA{cs:Array Value}{v':Value}(h:VRel μ (.agg cs) v'):∃cs',v'=.agg cs'/\ARel μ cs cs':=by
 cases h with
 | agg _ a' e i=>exact⟨a',rfl,e,i⟩
theorem ZkV{t:TypeId}{v v' r:Value}{f:Nat}(hv:VRel μ v v')(hr:ZkI P t v f=some r):∃r',(Instr.field t v' f).run P w=.ok r' w/\VRel μ r r':=by
 unfold ZkI at hr;split at hr
 ·rename_i fs cs hu
  obtain⟨cs',rfl,hc⟩:=hv.aggA;split at hr
  ·rename_i fd hf
   obtain⟨r',e1,e2⟩:=Zlf (w:=w) hc hr;exact⟨r',by simp only[Instr.field,Sem.run_bind,ZL hu,Result.andThen_ok,hf,asAgg,Sem.run_pure,e1],e2⟩
  ·cases hr
 ·cases hr
theorem ZiK{t:TypeId}{v v' r:Value}{f:Nat}(hv:VRel μ v v')(hr:Zz P t v f=some r):∃r',(Instr.fieldAt t v' f).run P w=.ok r' w/\VRel μ r r':=by
 unfold Zz at hr;split at hr
 ·rename_i fs b o hu
  cases hv with
  | ptr _ _ p hb =>
   split at hr
   ·rename_i fd hf
    split at hr
    ·rename_i i hi
     by_cases h0:i.size=0
     ·rw[if_pos h0]at hr;cases hr
     rw[if_neg h0]at hr;cases hr;refine⟨.pointer (some ⟨p.blk,p.off+(o+fd.offset),none⟩),?_,.ptr b _ p hb⟩;simp only[Instr.fieldAt,Sem.run_bind,ZL hu,Result.andThen_ok,hf,Instr.sureAddr,Sem.run_pure,fieldPlace,ZaQ hi,h0,if_false,ZeZ,Nat.add_assoc]
    ·cases hr
   ·cases hr
 ·cases hr
theorem ZiE{t:TypeId}{v v' ix ix' r:Value}(hv:VRel μ v v')(hx:VRel μ ix ix')(hr:ZO P t v ix=some r):∃r',(Instr.indexAt t v' ix').run P w=.ok r' w/\VRel μ r r':=by
 unfold ZO at hr;split at hr
 ·rename_i e b o len cap k i hu
  cases hx
  split at hr
  ·rename_i inf hi
   by_cases hin:0≤i/\i<(len:Int)
   ·rw[if_pos hin]at hr;cases hr;cases hv with
    | slice _ _ _ _ p hb =>
     refine⟨.pointer (some ⟨p.blk,p.off+(o+i.toNat*inf.size),none⟩),?_,.ptr b _ p hb⟩;simp only[Instr.indexAt,Sem.run_bind,asIntOf,Sem.run_pure,Result.andThen_ok,ZL hu];simp only[if_pos hin,Sem.run_bind,ZaQ hi,Result.andThen_ok,Sem.run_pure,ZeZ,Nat.add_assoc]
    | sliceEnd=>simp at hin;omega
   ·rw[if_neg hin]at hr;cases hr
  ·cases hr
 ·cases hr
theorem Zkl{t:TypeId}{v v' ix ix' r:Value}(hv:VRel μ v v')(hx:VRel μ ix ix')(hr:ZkK P t v ix=some r):∃r',(Instr.index t v' ix').run P w=.ok r' w/\VRel μ r r':=by
 unfold ZkK at hr;split at hr
 ·rename_i s k i hu
  cases hx;cases hv
  split at hr
  ·rename_i b hb
   cases hr
   refine⟨_,?_,.int _ _⟩;simp only[Instr.index,Sem.run_bind,asIntOf,Sem.run_pure,Result.andThen_ok,ZL hu,hb]
  ·cases hr
 ·cases hr
def ZiA(μ:Mu):Option Value->Option Value->Prop
 | none,none=>True
 | some a,some b=>VRel μ a b
 | _,_=>False
theorem Zja{dflt n:Nat}{x x':Option Value}(hx:ZiA μ x x')(ha:Z4 dflt x=some n) :
  (x=none/\x'=none/\n=dflt)∨(∃k i,x'=some (.int k i)/\0≤i/\n=i.toNat/\∃y,x=some y):=by
 cases x with
 | none =>
  cases x' with
  | none=>simp[Z4]at ha;exact .inl ⟨rfl,rfl,ha.symm⟩
  | some _=>exact hx.elim
 | some v =>
  cases x' with
  | none=>exact hx.elim
  | some v' =>
   unfold Z4 at ha;split at ha
   ·rename_i h;cases h
   ·rename_i k i h
    cases h
    by_cases hi:0≤i
    ·rw[if_pos hi]at ha;cases ha;cases (show VRel μ (.int k i) v' from hx)
     exact .inr ⟨k,i,rfl,hi,rfl,_,rfl⟩
    ·rw[if_neg hi]at ha;cases ha
   ·cases ha
theorem Za7(k:IntKind)(i:Int)(y:Nat)(code:BoundsCode)(h0:0≤i)(h:i.toNat≤y):(Instr.sliceBound (.int k i) y code).run P w=.ok i.toNat w:=by
 simp only[Instr.sliceBound,asIntOf,Sem.run_bind,Sem.run_pure,Result.andThen_ok];rw[if_pos ⟨h0,Xo⟩];rfl
theorem ZiY{len cap' l h:Nat}{lo lo' hi hi':Option Value}(h1:ZiA μ lo lo')(h2:ZiA μ hi hi')(e1:Z4 0 lo=some l)(e2:Z4 len hi=some h)(hl:l≤h)(hh:h≤cap') :
  (Instr.sliceBounds true len cap' lo' hi' none).run P w=.ok (l,h,cap') w:=by
 have f1:=Zja h1 e1;have f2:=Zja h2 e2;simp only[Instr.sliceBounds];rcases f2 with ⟨q,rfl,rfl⟩|⟨k,i,rfl,i0,rfl,y,q⟩
 ·rcases f1 with ⟨_,rfl,rfl⟩|⟨k,i,rfl,i0,rfl,_⟩
  ·simp
  ·simp[Za7 k i h _ i0 hl]
 ·have hh':i.toNat≤cap':=hh;rcases f1 with ⟨_,rfl,rfl⟩|⟨k2,i2,rfl,i02,rfl,_⟩
  ·simp[Za7 k i cap' _ i0 hh']
  ·simp[Za7 k i cap' _ i0 hh',Za7 k2 i2 _ _ i02 hl]
theorem Zkp{t:TypeId}{v v' r:Value}{lo lo' hi hi' mx mx':Option Value}(h:Rel μ H w)(hv:VRel μ v v')(h1:ZiA μ lo lo')(h2:ZiA μ hi hi')(h3:ZiA μ mx mx')
  (hr:ZT P t v lo hi mx H=some r):∃r',(Instr.sliceAt t v' lo' hi' mx').run P w=.ok r' w/\VRel μ r r':=by
 unfold ZT at hr;split at hr
 ·rename_i e a len cap hu
  cases mx' with
  | some _=>exact h3.elim
  | none =>
   split at hr
   ·rename_i inf l hh hinf hl hhh
    by_cases hc:l≤hh/\hh≤cap
    ·rw[if_pos hc]at hr
     have sl:∀(a':Option Addr) (cap':Nat),cap≤cap'->(Instr.sliceAt t (.slice a' len cap') lo' hi' none).run P w =
       .ok (.slice (if cap'=l then a' else a'.map (·.add (l*inf.size))) (hh-l) (cap'-l)) w:=by
      intro a' cap' hle;simp only[Instr.sliceAt,Sem.run_bind,ZL hu,Result.andThen_ok,Instr.slice,ZiY h1 h2 hl hhh hc.1 (YL hc.2 hle),ZaQ hinf,Sem.run_pure]
     cases a with
     | none =>
      dsimp only at hr;by_cases hz:cap=0/\l=0/\hh=0
      ·rw[if_pos hz]at hr;cases hr;cases hv
       refine⟨_,sl none 0 (Yj _),?_⟩;rw[hz.2.1,hz.2.2,if_pos rfl];exact .sliceNil
      ·rw[if_neg hz]at hr;cases hr
     | some ad =>
      obtain⟨b,o,sp⟩:=ad;cases sp with
      | some s0 =>
       dsimp only at hr;by_cases hz:cap=0
       ·rw[if_pos hz]at hr;cases hr;cases hv with
        | void a' =>
         have hs:=sl (some a') 0 (Yj _);have l0:l=0:=Xo;have h0:hh=0:=Xo;subst l0;subst h0;rw[if_pos rfl]at hs;exact⟨_,hs,.void a'⟩
       ·rw[if_neg hz]at hr;cases hr
      | none =>
       dsimp only at hr;cases hg:H.get b with
       | none=>rw[hg]at hr;cases hr
       | some ob =>
        rw[hg]at hr;dsimp only at hr
        have tight:∀p,μ b=some p->ob.isLoose=false->(∃k cs,ob=.row k cs)->p.exs=0:=by
         intro p hb hl hk;obtain⟨o',g1,g2⟩:=h.ok b p hb;rw[hg]at g1;cases g1;obtain⟨k,cs,rfl⟩:=hk;have:=g2.tight;cases k with
         | ro=>exact this
         | own=>exact this
         | loose _ _=>simp[AObj.isLoose]at hl
        cases hv with
        | slice _ _ _ _ p hb =>
         have hs:=sl (some ⟨p.blk,p.off+o,none⟩) _ (Nat.le_add_right cap p.exs);simp only[Yda,ZeZ,Nat.add_assoc]at hs
         have moved:cap+p.exs≠l->VRel μ (.slice (some ⟨b,o+l*inf.size,none⟩) (hh-l) (cap-l))
           (.slice (if cap+p.exs=l then some ⟨p.blk,p.off+o,none⟩ else some ⟨p.blk,p.off+(o+l*inf.size),none⟩) (hh-l) (cap+p.exs-l)):=by
          intro he;rw[if_neg he,show cap+p.exs-l=cap-l+p.exs from Xo];exact .slice b _ _ _ p hb
         by_cases hm:ob.isLoose=true∨l<cap
         ·rw[if_pos hm]at hr;cases hr;refine⟨_,hs,?_⟩;by_cases he:cap+p.exs=l
          ·rw[if_pos he,show hh-l=0 from Xo,show cap-l=0 from Xo,show cap+p.exs-l=0 from Xo];exact .sliceEnd b _ _ p hb
          ·exact moved he
         ·rw[if_neg hm]at hr;by_cases hrow:∃k cs,ob=.row k cs
          ·have h0:=tight p hb (by cases hq:ob.isLoose <;> simp_all) hrow;obtain⟨k,cs,rfl⟩:=hrow;cases hr
           refine⟨_,hs,?_⟩;rw[if_pos Xo,show hh-l=0 from Xo,show cap-l=0 from Xo,show cap+p.exs-l=0 from Xo];exact .sliceEnd b _ _ p hb
          ·have:False:=by
            obtain⟨o',g1,g2⟩:=h.ok b p hb;rw[hg]at g1;cases g1;cases ob with
            | row k cs=>exact hrow ⟨k,cs,rfl⟩
            | map _ _=>cases hr
            | dead=>cases hr
           exact this.elim
        | sliceEnd _ _ o' p hb =>
         have hs:=sl (some ⟨p.blk,o',none⟩) 0 (Yj _);have l0:l=0:=Xo;have h0:hh=0:=Xo;subst l0;subst h0;rw[if_pos rfl]at hs;refine⟨_,hs,?_⟩;split at hr
         ·cases hr;exact .sliceEnd b _ _ p hb
         ·first
          | (cases hr;exact .sliceEnd b _ _ p hb)
          | (split at hr <;> cases hr <;> exact .sliceEnd b _ _ p hb)
    ·rw[if_neg hc]at hr;cases hr
   ·cases hr
 ·rename_i e a n0 c0 k m hu
  split at hr
  ·rename_i inf k2 h0 hinf
   split at hr
   ·rename_i hc
    obtain⟨rfl,rfl⟩:=hc;cases lo' with
    | some _=>exact h1.elim
    | none =>
     cases hi' with
     | none=>exact h2.elim
     | some hv2 =>
      cases mx' with
      | none=>exact h3.elim
      | some mv2 =>
       cases (h2:VRel μ _ _)
       cases (h3:VRel μ _ _)
       have sl:∀(a':Option Addr) (len cap':Nat),(Instr.sliceAt t (.slice a' len cap') none (some (.int k2 0)) (some (.int k 0))).run P w=.ok (.slice a' 0 0) w:=by
        intro a' len cap';simp only[Instr.sliceAt,Sem.run_bind,ZL hu,Result.andThen_ok,Instr.slice,Instr.sliceBounds,Za7 k 0 _ _ (YO 0) (Nat.zero_le _),Za7 k2 0 _ _ (YO 0) (Nat.zero_le _),ZaQ hinf,Sem.run_pure];simp
       cases a with
       | none=>cases hr;cases hv;exact⟨_,sl _ _ _,.sliceNil⟩
       | some ad =>
        dsimp only at hr;cases hr
        cases hv with
        | slice _ _ _ _ p hb=>exact⟨_,sl _ _ _,.void _⟩
        | sliceEnd _ _ o' p hb=>exact⟨_,sl _ _ _,.void _⟩
        | void a'=>exact⟨_,sl _ _ _,.void _⟩
   ·cases hr
  ·cases hr
 ·cases hr
end Go.Vd
