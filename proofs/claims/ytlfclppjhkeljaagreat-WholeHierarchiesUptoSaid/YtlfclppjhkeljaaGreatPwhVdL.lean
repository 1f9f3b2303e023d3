/- Texts. -/
import Derived.Test.YtlfclppjhkeljaaGreatPwhVdK
import Derived.Orders
import Derived.RangeFuncNested
import Derived.TacticsIn
set_option linter.all false
open Array renaming getD_eq_getD_getElem?→YD
open Bool renaming and_eq_true→YW
open Nat renaming lt_succ_self→YI
open Option renaming bind_some→Yk,getD_some→Yha
namespace Go.Vd
variable[Pins]
variable{P:Program}{μ:Mu}{H:AH}{w:World}
theorem ZmL{o:Oper}{a:Act}{ρ:Operand->Value}{K:Value->AH->Prop}{next:Act->World->Prop}{Q:Exit->Act->World->Prop}
  (hρ:∀x∈o.op.operands,VRel μ (ρ x) (a.eval x)) (hr:Rel μ H w) (hK:Zcq P o.op ρ H K)
  (hn:∀v v' H' μ' w',K v H'->VRel μ' v v'->Rel μ' H' w'->Keep μ μ' H H' w w'->next (a.put o.dst v') w'):o.wp P a w next Q:=by
 unfold Zcq at hK;unfold Oper.wp;split at hK
 ·split at hK
  ·rename_i v hq
   obtain⟨r',e1,e2⟩:=Zgz hr hρ hq;rw[e1];exact hn v r' H μ w hK e2 hr (.refl _ _ _)
  ·exact hK.elim
 ·split at hK
  ·rename_i ob f hq
   obtain⟨o',ho⟩:=Zh0 hρ hq;obtain⟨v',e1,e2⟩:=ho w;rw[e1];have hb:=Mu.set_self μ H.next ⟨w.heap.size,0,0,1⟩;obtain⟨r1,r2⟩:=e2 _ H.next (Mu.set_le hr.next_none _) hb;exact hn _ v' _ _ _ hK r1 ((hr.push ob).realize (YI _) hr.next_none (AH.push_get _ _) _ 0 1 r2) (Zhb hr _ _ _ _)
  ·exact hK.elim
 ·split at hK
  ·rename_i v H' hq
   obtain⟨n,r',w',μ',e1,e2,e3,e4,e5⟩:=ZjQ hr hρ hq;rw[e1];rcases e2 with rfl|⟨rfl,rfl⟩
   ·exact hn v r' H' μ' w' hK e3 e4 e5
   ·exact hn v undef H' μ' w' hK e3 e4 e5
  ·exact hK.elim
 ·split at hK
  ·rename_i f args hq
   obtain⟨args',e1,e2⟩:=ZhS (w:=w) hρ hq;rw[e1];refine (hK μ w args' hr e2).mono ?_;rintro e w' ⟨v,v',H',μ',rfl,k1,k2,k3,k4⟩;exact hn v v' H' μ' w' k1 k2 k3 k4
  ·split at hK
   ·rename_i f args hq
    obtain⟨args',e1,e2⟩:=Zhp (w:=w) hr hρ hq;rw[e1];refine (hK μ w args' hr e2).mono ?_;rintro e w' ⟨v,v',H',μ',rfl,k1,k2,k3,k4⟩;exact hn v v' H' μ' w' k1 k2 k3 k4
   ·exact hK.elim
theorem ZiL{op:Op}{ρ:Operand->Value}{K K':Value->AH->Prop}(h:Zcq P op ρ H K)(hk:∀v H',K v H'->K' v H'):Zcq P op ρ H K':=by
 unfold Zcq at *;split at h
 ·split at h
  ·exact hk _ _ h
  ·exact h.elim
 ·split at h
  ·exact hk _ _ h
  ·exact h.elim
 ·split at h
  ·exact hk _ _ h
  ·exact h.elim
 ·split at h
  ·exact h.mono hk
  ·split at h
   ·exact h.mono hk
   ·exact h.elim
theorem Zlj{op:Op}{ρ:Operand->Value}{K K':Value->AH->Prop}(h:Zjc P op ρ H K)(hk:∀v H',K v H'->K' v H'):Zjc P op ρ H K':=by
 rcases h with h|⟨l,args,h1,h2⟩|h
 ·exact .inl (ZiL h hk)
 ·exact .inr (.inl ⟨l,args,h1,h2.mono hk⟩)
 ·exact .inr (.inr λro μ w o a next Q ho hρ hr hn=>h ro μ w o a next Q ho hρ hr λv v' H' μ' w' k1=>hn v v' H' μ' w' (hk _ _ k1))
def ZZ(ops:Array Oper)(α:AAct)(j:Nat):Option Bool:=
 match (ops[j]?).bind (·.dst) with
 | some t=>match α t with
  | .bool b=>some b
  | _=>none
 | none=>none
theorem Znb{ops:Array Oper}{α:AAct}{a:Act}{j:Nat}(h:∀t,(ops[j]?).bind (·.dst)=some t->VRel μ (α t) (a.tmps.getD t undef)):yielded ops a.tmps j=ZZ ops α j:=by
 unfold yielded ZZ;cases hd:(ops[j]?).bind (·.dst) with
 | none=>rfl
 | some t =>
  have ht:=h t hd;rw[YD]at ht;simp only[Yk];cases hx:a.tmps[t]? with
  | none =>
   rw[hx]at ht;generalize α t=y at *;cases ht <;> rfl
  | some x =>
   rw[hx]at ht;simp only[Yha]at ht;generalize α t=y at *;cases ht <;> rfl
theorem Zjh{ops:Array Oper}{α:AAct}{a:Act}{o:Oper}(h:∀j b t,o.guard=some (j,b)->(ops[j]?).bind (·.dst)=some t->VRel μ (α t) (a.tmps.getD t undef)) :
  Region.wanted o (yielded ops a.tmps)=Region.wanted o (ZZ ops α):=by
 unfold Region.wanted;cases hg:o.guard with
 | none=>rfl
 | some jb =>
  obtain⟨j,b⟩:=jb;simp only;rw[Znb (μ:=μ) λt ht=>h j b t hg ht]
def Zgd(N:Nat)(o:Oper):Bool:=
 (match o.dst with|some d=>decide (d<N)|none=>true) && o.op.operands.toList.all Zd9
def ZfA(N:Nat)(ops:List Oper):Bool:=ops.all (Zgd N)
theorem Zjb{N:Nat}{o:Oper}(h:Zgd N o=true):∀t,o.dst=some t->t<N:=by
 intro t ht;simp only[Zgd,ht,YW,decide_eq_true_eq]at h;exact h.1
theorem Zim{N:Nat}{o:Oper}(h:Zgd N o=true):∀x∈o.op.operands,Zd9 x=true:=by
 intro x hx;simp only[Zgd,YW]at h;exact List.all_eq_true.1 h.2 x (by simpa using hx)
def Zs(P:Program)(ops:Array Oper)(K:AAct->AH->Prop):List Oper->AAct->AH->Prop
 | [],α,H=>K α H
 | o::rest,α,H =>
  if Region.wanted o (ZZ ops α)=true then Zjc P o.op (ZY α) H λv H'=>Zs P ops K rest (α.put o.dst v) H'
  else Zs P ops K rest (α.put o.dst undef) H
def LiftD(ds:List Deferred)(μ0:Mu)(H0:AH)(w0:World)(N:Nat)(Q:Exit->AAct->AH->Prop):Exit->Act->World->Prop:=λe a w =>
 ∃α H μ,Q e α H/\ActRel μ α a/\a.defers=ds/\a.tmps.size=N/\Rel μ H w/\Keep μ0 μ H0 H w0 w
abbrev FrO(ro:Option Nat):Fence:={ Fence.wide with round:=ro }
theorem ZmN{op:Op}{ρ:Operand->Value}{K:Value->AH->Prop}(h:Zcq P op ρ H K∨∃l args,ZgF ρ op=some (l,args)/\AYields P l args H K):∀c,op≠.defer c:=by
 rintro c rfl;rcases h with h|⟨l,args,h,_⟩
 ·simp[Zcq,cls,ZaG]at h
 ·simp[ZgF]at h
theorem Zll{ro:Option Nat}{o:Oper}{a:Act}{ρ:Operand->Value}{K:Value->AH->Prop}{next:Act->World->Prop}{Q:Exit->Act->World->Prop}
  (hρ:∀x∈o.op.operands,VRel μ (ρ x) (a.eval x)) (hr:Rel μ H w) (hK:Zjc P o.op ρ H K)
  (hn:∀v v' H' μ' w',K v H'->VRel μ' v v'->Rel μ' H' w'->Keep μ μ' H H' w w'->next (a.put o.dst v') w'):o.wpIn (FrO ro) 0 P a w next Q:=by
 rcases or_assoc.2 hK with hK|hK
 rotate_left
 ·exact hK ro μ w o a next Q rfl hρ hr hn
 have hnd:=ZmN hK;refine⟨λ_ _=>trivial,?_⟩;rw[show (FrO ro).round=ro from rfl,Oper.semAt_eq ro _ o hnd];rcases hK with hK|⟨l,args,hy,hY⟩
 ·unfold Zcq at hK;split at hK
  ·split at hK
   ·rename_i v hq
    obtain⟨r',e1,e2⟩:=Zgz hr hρ hq;rw[e1];exact hn v r' H μ w hK e2 hr (.refl _ _ _)
   ·exact hK.elim
  ·split at hK
   ·rename_i ob f hq
    obtain⟨o',ho⟩:=Zh0 hρ hq;obtain⟨v',e1,e2⟩:=ho w;rw[e1];have hb:=Mu.set_self μ H.next ⟨w.heap.size,0,0,1⟩;obtain⟨r1,r2⟩:=e2 _ H.next (Mu.set_le hr.next_none _) hb;exact hn _ v' _ _ _ hK r1 ((hr.push ob).realize (YI _) hr.next_none (AH.push_get _ _) _ 0 1 r2) (Zhb hr _ _ _ _)
   ·exact hK.elim
  ·split at hK
   ·rename_i v H' hq
    obtain⟨n,r',w',μ',e1,e2,e3,e4,e5⟩:=ZjQ hr hρ hq;rw[e1];rcases e2 with rfl|⟨rfl,rfl⟩
    ·exact hn v r' H' μ' w' hK e3 e4 e5
    ·exact hn v undef H' μ' w' hK e3 e4 e5
   ·exact hK.elim
  ·split at hK
   ·rename_i f args hq
    obtain⟨args',e1,e2⟩:=ZhS (w:=w) hρ hq;rw[e1];have hc:CallsIn Fence.wide 0 P f args' w _:=callsIn_wide.2 (hK μ w args' hr e2);have hc':CallsIn (FrO ro) (0-1) P f args' w _:=hc;refine⟨λh=>(by cases h),hc'.mono ?_⟩;rintro e w' ⟨v,v',H',μ',rfl,k1,k2,k3,k4⟩;exact hn v v' H' μ' w' k1 k2 k3 k4
   ·split at hK
    ·rename_i f args hq
     obtain⟨args',e1,e2⟩:=Zhp (w:=w) hr hρ hq;rw[e1];have hc:CallsIn Fence.wide 0 P f args' w _:=callsIn_wide.2 (hK μ w args' hr e2);have hc':CallsIn (FrO ro) (0-1) P f args' w _:=hc;refine⟨λh=>(by cases h),hc'.mono ?_⟩;rintro e w' ⟨v,v',H',μ',rfl,k1,k2,k3,k4⟩;exact hn v v' H' μ' w' k1 k2 k3 k4
    ·exact hK.elim
 ·obtain⟨args',e1,e2⟩:=Zld (P:=P) (w:=w) hρ hy;obtain⟨fn,tm,x,y,h1,h2⟩:=hY μ w args' hr e2;rw[e1,h1];have hc':RoundIn (FrO ro) (0-1) P l fn tm x y w _:=h2;refine⟨λh=>(by cases h),hc'.mono ?_⟩;rintro e w' ⟨v,v',H',μ',rfl,k1,k2,k3,k4⟩;exact hn v v' H' μ' w' k1 k2 k3 k4
theorem Zis{ro:Option Nat}{ds:List Deferred}{N:Nat}{ops:Array Oper}{Q:Exit->AAct->AH->Prop}{μ0:Mu}{H0:AH}{w0:World} :
  ∀(l:List Oper) (α:AAct) (a:Act) (μ:Mu) (H:AH) (w:World),ZfA N l=true->Zs P ops (Q .normal) l α H->ActRel μ α a->a.defers=ds->a.tmps.size=N->Rel μ H w->Keep μ0 μ H0 H w0 w ->
   wpListIn (FrO ro) 0 P ops (LiftD ds μ0 H0 w0 N Q) l a w:=by
 intro l;induction l with
 | nil=>intro α a μ H w _ h ha hd hs hr hk;exact⟨α,H,μ,h,ha,hd,hs,hr,hk⟩
 | cons o rest ih =>
  intro α a μ H w hok h ha hd hs hr hk;simp only[ZfA,List.all_cons,YW]at hok;have hw:=Zjh (μ:=μ) (ops:=ops) (α:=α) (a:=a) (o:=o) λ_ _ t _ _=>ha t;have hdst:∀t,o.dst=some t->t<a.tmps.size:=by rw[hs];exact Zjb hok.1
  simp only[Zs]at h;simp only[wpListIn];rw[hw];by_cases hwt:Region.wanted o (ZZ ops α)=true
  ·rw[if_pos hwt]at h ⊢;refine Zll (λx hx=>ha.eval (Zim hok.1 x hx)) hr h ?_;intro v v' H' μ' w' hv hvr hr' hk';exact ih _ _ _ _ _ hok.2 hv ((ha.mono hk'.le).put hvr hdst) (by rw[Act.put_def];exact hd) (by rw[Act.put_size];exact hs) hr' (hk.trans hk')
  ·rw[if_neg hwt]at h ⊢;exact⟨λ_ _=>trivial,ih _ _ _ _ _ hok.2 h (ha.put (μ:=μ) .unit hdst) (by rw[Act.put_def];exact hd) (by rw[Act.put_size];exact hs) hr hk⟩
end Go.Vd
