/- Texts. -/
import Derived.Test.YtlfclppjhkeljaaGreatPwhVdO
set_option linter.all false
open Bool renaming false_eq_true→Y5,and_eq_true→YW
namespace Go.Vd
variable[Pins]
variable{P:Program}{N:Nat}{ops:Array Oper}{K:AAct->AH->Prop}{Q:Exit->AAct->AH->Prop}{α:AAct}{H:AH}
theorem Zm4{x y:Code}(h:∀K:AAct->AH->Prop,(∀α H,aWp P N y Q α H->K α H)->aWp P N x (ZdI K Q) α H):aWp P N (.seq x y) Q α H:=h _ λ_ _ h=>h
theorem Zf(h:Q .normal α H):aWp P N .skip Q α H:=h
theorem Zg(h:Q .ret α H):aWp P N .ret Q α H:=h
theorem ZF{id:Nat}(h:Q (.exit id) α H):aWp P N (.exit id) Q α H:=h
theorem Zj{id:Nat}{c:Code}(h:aWp P N c (Zfj id Q) α H):aWp P N (.block id c) Q α H:=h
theorem Zon{id:Nat}{l:List Oper}(hok:ZfA N l=true)(h:Zs P l.toArray (Q .normal) l α H):aWp P N (.region id l.toArray false) Q α H:=⟨hok,h⟩
theorem ZE{id:Nat}{l:List Oper}(ord:List Nat)(hok:ZhD N l.toArray ord=true)(h:Zu P l.toArray (Zcr l) (Q .normal) ord [] α H):aWp P N (.region id l.toArray true) Q α H:=⟨ord,hok,h⟩
theorem ZoB{g:Operand}{ps:Array Tmp}{assign body:Code}(gf:FuncId)(lb:Array Value)(hok:Zd9 g=true)(hps:(ps.toList.all λp=>decide (p<N))=true)(hg:ZY α g=.func (.func gf) #[] lb)(hce:Zev P gf=true)
  (h:∀(p1:Pins) (l:Nat),(∀(args:Array Value) (H1:AH) (K:Value->AH->Prop),args.size=ps.size ->
     (∀p2:Pins,@rWp p2 P N assign (@rWp p2 P N body λ_ H'=>K (.bool true) H') (Zh8 α (ps.toList.zip args.toList)) H1)->@AYields p1 P l args H1 K) ->
    @ACalls p1 P gf (#[.func (.yield l) #[] #[]]++lb) H λ_ H'=>Q .normal α H'):aWp P N (.rangeFunc g ps assign body) Q α H:=⟨hok,hps,gf,lb,hg,hce,h⟩
theorem Zod{K:AAct->AH->Prop}{id:Nat}{l:List Oper}(hok:ZfA N l=true)(h:Zs P l.toArray K l α H):rWp P N (.region id l.toArray false) K α H:=⟨hok,h⟩
theorem Zoy{K:AAct->AH->Prop}{id:Nat}{c:Code}(h:rWp P N c K α H):rWp P N (.block id c) K α H:=h
theorem Zkr{c:Operand}{x y:Code}(b:Bool)(hb:ZY α c=.bool b)(hok:Zd9 c=true)(ht:b=true->aWp P N x Q α H)(hf:b=false->aWp P N y Q α H):aWp P N (.cond c x y) Q α H:=⟨hok,b,hb,ht,hf⟩
theorem Zia{c:Operand}{x y:Code}(p:Prop)[Decidable p](hb:ZY α c=.bool (decide p))(hok:Zd9 c=true)(ht:p->aWp P N x Q α H)(hf:¬p->aWp P N y Q α H):aWp P N (.cond c x y) Q α H:=
 ⟨hok,decide p,hb,λh=>ht (of_decide_eq_true h),λh=>hf (of_decide_eq_false h)⟩
theorem Zkz(c:Code):∀{Q Q':Exit->AAct->AH->Prop} {α:AAct} {H:AH},aWp P N c Q α H->(∀e α H,Q e α H->Q' e α H)->aWp P N c Q' α H:=by
 have thn:∀{K K':AAct->AH->Prop} {Q Q':Exit->AAct->AH->Prop},(∀α H,K α H->K' α H)->(∀e α H,Q e α H->Q' e α H)->∀e α H,ZdI K Q e α H->ZdI K' Q' e α H:=by
  intro K K' Q Q' hk hq e α H h;cases e <;> first|exact hk _ _ h|exact hq _ _ _ h
 induction c with
 | skip=>intro Q Q' α H h hq;exact hq _ _ _ h
 | label l=>intro Q Q' α H h hq;exact hq _ _ _ h
 | exit id=>intro Q Q' α H h hq;exact hq _ _ _ h
 | ret=>intro Q Q' α H h hq;exact hq _ _ _ h
 | seq x y ix iy=>intro Q Q' α H h hq;exact ix h (thn (λ_ _ h=>iy h hq) hq)
 | cond c x y ix iy =>
  intro Q Q' α H h hq;obtain⟨h1,b,h2,h3,h4⟩:=h;exact⟨h1,b,h2,λhb=>ix (h3 hb) hq,λhb=>iy (h4 hb) hq⟩
 | block id c ic =>
  intro Q Q' α H h hq;refine ic h λe α H h=>?_;cases e with
  | exit id' =>
   simp only[Zfj]at h ⊢;split at h
   ·rename_i hid;rw[if_pos hid];exact hq _ _ _ h
   ·rename_i hid;rw[if_neg hid];exact hq _ _ _ h
  | _=>exact hq _ _ _ h
 | loop c ic =>
  intro Q Q' α H h hq R hR;exact h R λα H hs=>hR α H (ic hs (thn (λ_ _ h=>h) hq))
 | region id ops d =>
  intro Q Q' α H h hq;cases d with
  | false =>
   refine⟨h.1,?_⟩
   have:∀(l:List Oper) (α:AAct) (H:AH),Zs P ops (Q .normal) l α H->Zs P ops (Q' .normal) l α H:=by
    intro l;induction l with
    | nil=>intro α H h;exact hq _ _ _ h
    | cons o l ih =>
     intro α H h;simp only[Zs]at h ⊢;split at h
     ·rename_i hw;rw[if_pos hw];exact Zlj h λv H' h=>ih _ _ h
     ·rename_i hw;rw[if_neg hw];exact ih _ _ h
   exact this _ _ _ h.2
  | true =>
   obtain⟨ord,h1,h2⟩:=h;refine⟨ord,h1,?_⟩
   have:∀(l:List Nat) (fl:List (Nat×AAct×Value)) (α:AAct) (H:AH),Zu P ops (Zcr ops.toList) (Q .normal) l fl α H->Zu P ops (Zcr ops.toList) (Q' .normal) l fl α H:=by
    intro l;induction l with
    | nil=>intro fl α H h;exact hq _ _ _ h
    | cons i l ih =>
     intro fl α H h;simp only[Zu]at h ⊢;split at h
     ·exact h
     ·split at h
      ·rename_i hw;rw[if_pos hw];exact ZiL h λv H' h=>⟨h.1,ih _ _ _ h.2⟩
      ·rename_i hw;rw[if_neg hw];exact ih _ _ _ h
   exact this _ _ _ _ h2
 | rangeFunc g ps assign body _ _ =>
  intro Q Q' α H h hq;obtain⟨h1,h2,gf,lb,h3,h4,h5⟩:=h;exact⟨h1,h2,gf,lb,h3,h4,λp1 l hy=>@ACalls.mono p1 _ _ _ _ _ _ (h5 p1 l hy) λ_ H' h=>hq _ _ _ h⟩
 | _=>intro Q Q' α H h _;exact h
def ZbJ(P:Program)(ops:Array Oper)(o:Oper)(α:AAct)(H:AH):Option Value:=
 if Region.wanted o (ZZ ops α)=true then match cls o.op with
  | .quiet=>ZaG P (ZY α) H o.op
  | _=>none
 else none
theorem Ze6{ops:Array Oper}{o:Oper}{α:AAct}{H:AH}{v:Value}(h:ZbJ P ops o α H=some v):Region.wanted o (ZZ ops α)=true/\cls o.op=.quiet/\ZaG P (ZY α) H o.op=some v:=by
 unfold ZbJ at h;split at h
 ·rename_i hg
  split at h
  ·rename_i hc;exact⟨hg,hc,h⟩
  ·cases h
 ·cases h
section seq
variable{o:Oper}{rest:List Oper}
theorem Za(h:K α H):Zs P ops K [] α H:=h
theorem s_q(v:Value)(hg:Region.wanted o (ZZ ops α)=true)(hc:cls o.op=.quiet)(h:ZaG P (ZY α) H o.op=some v)(k:Zs P ops K rest (α.put o.dst v) H):Zs P ops K (o::rest) α H:=by
 simp only[Zs,hg,if_true];exact .inl (by simp only[Zcq,hc,h];exact k)
theorem ZhH(v:Value)(h:ZbJ P ops o α H=some v)(k:Zs P ops K rest (α.put o.dst v) H):Zs P ops K (o::rest) α H:=
 s_q v (Ze6 h).1 (Ze6 h).2.1 (Ze6 h).2.2 k
theorem s_n(ob:AObj)(f:Nat->Value)(hg:Region.wanted o (ZZ ops α)=true)(hc:cls o.op=.new)(h:Zg2 P (ZY α) o.op=some (ob,f))(k:Zs P ops K rest (α.put o.dst (f H.next)) (H.push ob)):Zs P ops K (o::rest) α H:=by
 simp only[Zs,hg,if_true];exact .inl (by simp only[Zcq,hc,h];exact k)
theorem s_e(v:Value)(H':AH)(hg:Region.wanted o (ZZ ops α)=true)(hc:cls o.op=.eff)(h:ZiH P (ZY α) H o.op=some (v,H'))(k:Zs P ops K rest (α.put o.dst v) H'):Zs P ops K (o::rest) α H:=by
 simp only[Zs,hg,if_true];exact .inl (by simp only[Zcq,hc,h];exact k)
theorem s_c(f:FuncId)(args:Array Value){K':Value->AH->Prop}(hg:Region.wanted o (ZZ ops α)=true)(hc:cls o.op=.call)(h:ZeC P (ZY α) o.op=some (f,args))(hf:ACalls P f args H K')
  (k:∀v H',K' v H'->Zs P ops K rest (α.put o.dst v) H'):Zs P ops K (o::rest) α H:=by
 simp only[Zs,hg,if_true];exact .inl (by simp only[Zcq,hc,h];exact hf.mono k)
theorem s_y(l:Nat)(args:Array Value){K':Value->AH->Prop}(hg:Region.wanted o (ZZ ops α)=true)(h:ZgF (ZY α) o.op=some (l,args))(hf:AYields P l args H K')
  (k:∀v H',K' v H'->Zs P ops K rest (α.put o.dst v) H'):Zs P ops K (o::rest) α H:=by
 simp only[Zs,hg,if_true];exact .inr (.inl ⟨l,args,h,hf.mono k⟩)
theorem s_no(hg:Region.wanted o (ZZ ops α)=false)(k:Zs P ops K rest (α.put o.dst undef) H):Zs P ops K (o::rest) α H:=by
 simp only[Zs,hg,Y5,if_false];exact k
end seq
section draw
variable{tbl:List (List Nat)}{i:Nat}{rest:List Nat}{fl:List (Nat×AAct×Value)}
theorem ZD(h:K α H):Zu P ops tbl K [] fl α H:=h
theorem d_q(o:Oper)(v:Value)(ho:ops[i]? = some o)(hg:Region.wanted o (ZZ ops α)=true)(hc:cls o.op=.quiet)(h:ZaG P (ZY α) H o.op=some v)
  (hfl:(Zeo P o.op || !ZgU ops tbl i rest)=true) (k:Zu P ops tbl K rest fl (α.put o.dst v) H):Zu P ops tbl K (i::rest) fl α H:=by
 simp only[Zu,ho,hg,if_true,Zcq,hc,h];refine⟨λhe=>?_,?_⟩
 ·simp[ZdX,hc]at he
 ·rw[if_neg];exact k;rintro⟨_,h2,h3⟩;rw[h2,h3]at hfl;cases hfl
theorem d_qf(o:Oper)(v:Value)(ho:ops[i]? = some o)(hg:Region.wanted o (ZZ ops α)=true)(hc:cls o.op=.quiet)(h:ZaG P (ZY α) H o.op=some v)
  (hfl:(!Zeo P o.op && ZgU ops tbl i rest)=true) (k:Zu P ops tbl K rest ((i,α,v)::fl) (α.put o.dst v) H):Zu P ops tbl K (i::rest) fl α H:=by
 simp only[Zu,ho,hg,if_true,Zcq,hc,h];refine⟨λhe=>?_,?_⟩
 ·simp[ZdX,hc]at he
 ·simp only[YW,Bool.not_eq_true']at hfl;rw[if_pos ⟨trivial,hfl.1,hfl.2⟩];exact k
theorem d_n(o:Oper)(ob:AObj)(f:Nat->Value)(ho:ops[i]? = some o)(hg:Region.wanted o (ZZ ops α)=true)(hc:cls o.op=.new)(h:Zg2 P (ZY α) o.op=some (ob,f))
  (k:Zu P ops tbl K rest fl (α.put o.dst (f H.next)) (H.push ob)):Zu P ops tbl K (i::rest) fl α H:=by
 simp only[Zu,ho,hg,if_true,Zcq,hc,h];refine⟨λhe=>?_,?_⟩
 ·simp[ZdX,hc]at he
 ·rw[if_neg Xs];exact k
theorem d_e(o:Oper)(v:Value)(H':AH)(ho:ops[i]? = some o)(hg:Region.wanted o (ZZ ops α)=true)(hc:cls o.op=.eff)(h:ZiH P (ZY α) H o.op=some (v,H'))(hst:ZcO P ops tbl i H' fl)
  (k:Zu P ops tbl K rest fl (α.put o.dst v) H'):Zu P ops tbl K (i::rest) fl α H:=by
 simp only[Zu,ho,hg,if_true,Zcq,hc,h];exact⟨λ_=>hst,by rw[if_neg Xs];exact k⟩
theorem d_c(o:Oper)(f:FuncId)(args:Array Value){K':Value->AH->Prop}(ho:ops[i]? = some o)(hg:Region.wanted o (ZZ ops α)=true)(hc:cls o.op=.call)(h:ZeC P (ZY α) o.op=some (f,args))(hf:ACalls P f args H K')
  (k:∀v H',K' v H'->ZcO P ops tbl i H' fl/\Zu P ops tbl K rest fl (α.put o.dst v) H'):Zu P ops tbl K (i::rest) fl α H:=by
 simp only[Zu,ho,hg,if_true,Zcq,hc,h];exact hf.mono λv H' hk=>⟨λ_=>(k v H' hk).1,by rw[if_neg Xs];exact (k v H' hk).2⟩
theorem d_no(o:Oper)(ho:ops[i]? = some o)(hg:Region.wanted o (ZZ ops α)=false)(k:Zu P ops tbl K rest fl (α.put o.dst undef) H):Zu P ops tbl K (i::rest) fl α H:=by
 simp only[Zu,ho,hg,Y5,if_false];exact k
end draw
end Go.Vd
