/- Texts. -/
import Derived.Test.YtlfclppjhkeljaaGreatPwhVpA
set_option linter.all false
open List renaming mem_cons_self→Yw,mem_cons_of_mem→Ys,replicate→Ym,eq_of_mem_replicate→YU,length_replicate→Y6
open Nat renaming le_trans→YL,lt_succ_self→YI
open Option renaming map_some→Yda
open Sum renaming elim→YR,inr→Yr
namespace Go.Vd
variable[Pins]
theorem ntr{a b c:Nat}(h:a≤b)(k:b≤c):a≤c:=YL h k
theorem Dj.app{a b c:Fp}(h:Dj a c)(k:Dj b c):Dj (a++b) c:=λt ht=>(List.mem_append.1 ht).elim (h t) (k t)
theorem Inn.app{W a b:Fp}{H:AH}(h:Inn W H a)(k:Inn W H b):Inn W H (a++b):=λt ht=>(List.mem_append.1 ht).elim (h t) (k t)
theorem Lt.app{a b:Fp}{H:AH}(h:Lt H a)(k:Lt H b):Lt H (a++b):=λt ht=>(List.mem_append.1 ht).elim (h t) (k t)
theorem Inn.fresh{W b:Fp}{H H':AH}(h:Inn [] H' b)(hn:H.next≤H'.next):Inn W H b:=λt ht=>.inr ((h t ht).elim (λh=>by cases h) (λk=>YL hn k))
theorem Inn.refl'{H:AH}{a:Fp}:Inn a H a:=λ_ h=>.inl h
section
variable{P:Program}{H H':AH}{E:Type}{enc:E->List Value}{sz:Nat}{s:Value}{xs ys:List E}{W fp fq:Fp}
def ErvF(tn tf:TypeId)(H:AH):Value->Er->Fp->Prop
 | v,.nil,_=>v=.nilIface
 | v,.no n,_=>v=.iface tn (.int .i64 n)
 | v,.at k i e,fp=>∃b u,v=.iface tf (.pointer (some ⟨b,0,none⟩))/\b∈fp/\Row H b [.int .i64 k,.int .i64 i,u]/\ErvF tn tf H u e fp
structure Ev(tn tf:TypeId)(H:AH)(v:Value)(e:Er)(fp:Fp):Prop where
 lt:Lt H fp
 is:ErvF tn tf H v e fp
variable{tn tf:TypeId}
theorem Ev.nil:Ev tn tf H .nilIface .nil []:=⟨.nil,rfl⟩
theorem Ev.no{n:Int}:Ev tn tf H (.iface tn (.int .i64 n)) (.no n) []:=⟨.nil,rfl⟩
theorem ErvF.sub:∀{e:Er} {v:Value},ErvF tn tf H v e fp->(∀t∈fp,t∈fq)->ErvF tn tf H v e fq:=by
 intro e;induction e with
 | nil=>intro v h _;exact h
 | no n=>intro v h _;exact h
 | «at» x i e ih =>
  intro v h k;obtain⟨b,u,h1,h2,h3,h4⟩:=h;exact⟨b,u,h1,k _ h2,h3,ih h4 k⟩
theorem Ev.at{b:Nat}{k i:Int}{u:Value}{e:Er}{H0:AH}(hr:Row H b [.int .i64 k,.int .i64 i,u])(h:Ev tn tf H u e fp)(hb:Inn [] H0 [b]) :
  ∃fq,Ev tn tf H (.iface tf (.pointer (some ⟨b,0,none⟩))) (.at k i e) fq/\Inn fp H0 fq:=by
 refine⟨b::fp,⟨λt ht=>?_,b,u,rfl,Yw ..,hr,h.is.sub λt ht=>Ys _ ht⟩,λt ht=>?_⟩
 ·rcases List.mem_cons.1 ht with rfl|ht
  ·exact hr.lt
  ·exact h.lt t ht
 ·rcases List.mem_cons.1 ht with rfl|ht
  ·exact .inr ((hb t (List.mem_singleton.2 rfl)).elim (λh=>by cases h) id)
  ·exact .inl ht
theorem ErvF.fr(k:FrS W H H')(hd:Dj W fp):∀{e:Er} {v:Value},ErvF tn tf H v e fp->ErvF tn tf H' v e fp:=by
 intro e;induction e with
 | nil=>intro v h;exact h
 | no n=>intro v h;exact h
 | «at» x i e ih =>
  intro v h;obtain⟨b,u,h1,h2,h3,h4⟩:=h;exact⟨b,u,h1,h2,h3.frS k (λt ht hm=>hd t ht (by rw[List.mem_singleton.1 hm];exact h2)),ih h4⟩
theorem Ev.fr{v:Value}{e:Er}(h:Ev tn tf H v e fp)(k:FrS W H H')(hd:Dj W fp):Ev tn tf H' v e fp:=⟨h.lt.fr k,h.is.fr k hd⟩
theorem Ev.ext{v:Value}{e:Er}(h:Ev tn tf H v e fp)(k:Ext H H'):Ev tn tf H' v e fp:=h.fr (k.frS []) Dj.nil_l
theorem Ev.cases{v:Value}{e:Er}(h:Ev tn tf H v e fp):(e=.nil/\v=.nilIface)∨(e≠.nil/\∃t x,v=.iface t x):=by
 obtain⟨_,h⟩:=h;cases e with
 | nil=>exact .inl ⟨rfl,h⟩
 | no n=>exact .inr ⟨Xs,_,_,h⟩
 | «at» k i e=>obtain⟨b,u,h1,_⟩:=h;exact .inr ⟨Xs,_,_,h1⟩
theorem Ev.one1{v:Value}{e:Er}(h:Ev tn tf H v e fp):v.oneCell'=true:=by
 rcases h.cases with ⟨_,rfl⟩|⟨_,t,x,rfl⟩ <;> rfl
theorem Zk6{x:Option AH}{v:Value}(h:x=some H'):(x.map λH'=>(v,H'))=some (v,H'):=by rw[h];rfl
theorem Row.store{t:TypeId}{b p:Nat}{cs:List Value}(hw:WF H)(h:Row H b cs)(x:Value)(vs:List Value)(hx:x.cells.toList=vs)(hs:(P.info? t).map (·.size)=some vs.length)(h1:Zy vs=true)(hl:p+vs.length≤cs.length)
  (cs':List Value) (hcs:Zaa cs p vs=cs'):∃H',ZcW P t (.pointer (some ⟨b,p,none⟩)) x H=some H'/\FrS [b] H H'/\Row H' b cs':=by
 obtain⟨H',g1,g2,g3,g4⟩:=Zmi (P:=P) hw h hx hs h1 hl;subst hcs;exact⟨H',g1,g2.frS (List.mem_singleton.2 rfl),g3⟩
theorem Ow.store[Inhabited E]{t:TypeId}{i:Int}{off:Nat}(hw:WF H)(h:Ow enc sz H s xs fp)(h0:0≤i)(h1:i<(xs.length:Int))(x:Value)(vs:List Value)(hx:x.cells.toList=vs)(hs:(P.info? t).map (·.size)=some vs.length)(ho:Zy vs=true)
  (y:E) (hl:off+vs.length≤sz) (hy:enc y=Zaa (enc (gt xs i)) off vs):∃H',ZcW P t (elp s sz i.toNat off) x H=some H'/\FrS fp H H'/\Ow enc sz H' s (xs.set i.toNat y) fp:=by
 obtain⟨b,o,H',e1,e2,e3,e4,e5⟩:=h.put hw (ZbG h0 h1) hl hy ho;refine⟨H',?_,e3,e5⟩;rw[e1];unfold ZcW;cases hi:P.info? t with
 | none=>rw[hi]at hs;cases hs
 | some inf =>
  rw[hi]at hs;simp only[Yda,Option.some.injEq]at hs;dsimp only;rw[hx,if_pos ⟨by rw[← Array.length_toList,hx,hs],ho⟩];exact e2
theorem Zhc{P:Program}{k:IntKind}(a b:Int):Zg8 P [.int k a,.int k b]=some (.int k (max a b)):=by
 have h:pr P (Builtin.max_ #[] 0 [Value.int k a,.int k b].toArray)=some (.int k (max a b)):=by
  by_cases h:a<b
  ·rw[Int.max_eq_right Xo];simp[Builtin.max_,Builtin.max2,h];rfl
  ·rw[Int.max_eq_left Xo];simp[Builtin.max_,Builtin.max2,h];rfl
 unfold Zg8;rw[if_pos (show ([Value.int k a,.int k b].all Zbq)=true from rfl),h];rfl
theorem Zhf{P:Program}{k:IntKind}(a b:Int):Zhe P [.int k a,.int k b]=some (.int k (min a b)):=by
 have h:pr P (Builtin.min_ #[] 0 [Value.int k a,.int k b].toArray)=some (.int k (min a b)):=by
  by_cases h:b<a
  ·rw[Int.min_eq_right Xo];simp[Builtin.min_,Builtin.min2,h];rfl
  ·rw[Int.min_eq_left Xo];simp[Builtin.min_,Builtin.min2,h];rfl
 unfold Zhe;rw[if_pos (show ([Value.int k a,.int k b].all Zbq)=true from rfl),h];rfl
theorem nb{b:Bool}(h:¬b=true):b=false:=by cases b <;> simp_all
def mkT(P:Program)(t:TypeId):Option (Nat×Nat×List Value):=(ZaY P t).map λx=>(x.2.1.size,x.2.1.bytes,x.2.2.cells.toList)
def aMk(P:Program)(t:TypeId)(l c:Int):Option (AObj×(Nat->Value)):=match P.underlying t with
 | some (.slice e)=>match P.info? e with
  | some i=>match i.zero with
   | some z =>
    if plain z && (z.cells.size == i.size) && decide (0≤l/\l≤c/\c≤9223372036854775807/\i.bytes*c≤2 ^ 48) && Zy z.cells.toList then
     some (.row .own (Zac z c.toNat),λb=>.slice (some ⟨b,0,none⟩) l.toNat c.toNat)
    else none
   | none=>none
  | none=>none
 | _=>none
theorem ZkW(x:E)(n:Nat):(Ym n x).flatMap enc=(Ym n (enc x)).flatten:=by
 rw[List.flatMap_def,List.map_replicate]
theorem Znh{t:TypeId}{m:Nat}{x0:E}{l c:Int}(hw:WF H)(hT:mkT P t=some (sz,m,enc x0))(hp:0<sz)(h0:0≤l)(h1:l≤c)(h2:c≤9223372036854775807)(hm:m*c≤2 ^ 48) :
  ∃ob f,aMk P t l c=some (ob,f)/\Ext H (H.push ob)/\Inn [] H [H.next]/\Ow enc sz (H.push ob) (f H.next) (Ym l.toNat x0) [H.next]:=by
 unfold mkT at hT;cases he:ZaY P t with
 | none=>rw[he]at hT;cases hT
 | some x =>
  obtain⟨e,i,z⟩:=x;rw[he]at hT;simp only[Yda,Option.some.injEq,Prod.mk.injEq]at hT;obtain⟨a1,a2,a3⟩:=hT;obtain⟨g1,g2,g3,g4,g5,g6⟩:=ZcI he;have hlen:(enc x0).length=sz:=by rw[← a3,Array.length_toList,g4,a1]
  refine⟨.row .own (Zac z c.toNat),λb=>.slice (some ⟨b,0,none⟩) l.toNat c.toNat,?_,Zdj hw _ (λ_ _ _ e=>by cases e),.one (.inr rfl),?_⟩
  ·unfold aMk;simp only[g1,g2,g3];rw[if_pos];simp[g5,g4,g6,h0,h1,h2,a2];first|exact hm|omega
  ·have hz:Zac z c.toNat=(Ym c.toNat x0).flatMap enc:=by rw[ZkW,← a3];rfl
   have hlc:l.toNat≤c.toNat:=Xo;refine⟨λt ht=>by rw[List.mem_singleton.1 ht];exact YI _,hp,.inr ⟨_,List.mem_singleton.2 rfl,hp,?_,?_,YI _,.inr ⟨H.next,c.toNat,.own,_,Xs,YI _,AH.push_get _ _,.inl ⟨rfl,rfl⟩,by simpa using hlc,?_,?_⟩⟩⟩
   ·intro x hx;rw[YU hx];exact hlen
   ·intro x hx;rw[YU hx,← a3];exact g6
   ·rw[hz,ZaB (sz:=sz) (λx hx=>by rw[YU hx];exact hlen),Y6]
   ·intro j x hx q hq;rw[hz];refine Zbz (sz:=sz) (λx hx=>by rw[YU hx];exact hlen) ?_ hq;rw[List.getElem?_replicate]at hx ⊢;split at hx
    ·rw[if_pos Xo];exact hx
    ·cases hx
end
section seq
variable{P:Program}{N:Nat}{ops:Array Oper}{K:AAct->AH->Prop}{Q:Exit->AAct->AH->Prop}{α:AAct}{H:AH}{o:Oper}{rest:List Oper}{E:Type}{enc:E->List Value}{sz:Nat}
theorem s_nk{ob:AObj}{f:Nat->Value}(h:ZdD P ops o α=some (ob,f))(k:Zs P ops K rest (α.put o.dst (f H.next)) (H.push ob)):Zs P ops K (o::rest) α H:=
 s_n ob f (Za1 h).1 (Za1 h).2.1 (Za1 h).2.2 k
theorem ZbM(hw:WF H)(xs:List E)(n:Nat)(hp:0<sz)(hl:∀x∈xs,(enc x).length=sz)(h1:∀x∈xs,Zy (enc x)=true)(hn:xs.length=n)
  (h:ZdD P ops o α=some (.row .own (xs.flatMap enc),λb=>.slice (some ⟨b,0,none⟩) n n))
  (k:∀s fp H',Ext H H'->Inn [] H fp->Ow enc sz H' s xs fp->Zs P ops K rest (α.put o.dst s) H'):Zs P ops K (o::rest) α H:=by
 refine s_nk h ?_;rw[← hn];obtain⟨a,b,c⟩:=Ow.new hw hp hl h1;exact k _ _ _ a c b
theorem Zfy{t:TypeId}{m:Nat}{l c:Int}(hw:WF H)(x0:E)(hT:mkT P t=some (sz,m,enc x0))(hp:0<sz)(h0:0≤l)(h1:l≤c)(h2:c≤9223372036854775807)(hm:m*c≤2 ^ 48)(h:ZdD P ops o α=aMk P t l c)
  (k:∀s fp H',Ext H H'->Inn [] H fp->Ow enc sz H' s (Ym l.toNat x0) fp->Zs P ops K rest (α.put o.dst s) H'):Zs P ops K (o::rest) α H:=by
 obtain⟨ob,f,e1,e2,e3,e4⟩:=Znh hw hT hp h0 h1 h2 hm;exact s_nk (h.trans e1) (k _ _ _ e2 e3 e4)
theorem Zmu(hw:WF H)(cs:List Value)(n:Nat)(h1:Zy cs=true)(h:ZdD P ops o α=if Zy cs=true then some (.row .own cs,λb=>.slice (some ⟨b,0,none⟩) n n) else none)
  (k:∀b H',Ext H H'->Inn [] H [b]->Row H' b cs->Zs P ops K rest (α.put o.dst (.slice (some ⟨b,0,none⟩) n n)) H'):Zs P ops K (o::rest) α H:=by
 rw[if_pos h1]at h;exact s_nk h (k _ _ (ZdB hw cs).1 (.one (.inr rfl)) (ZdB hw cs).2)
theorem Zbg(hw:WF H)(cs:List Value)(h1:Zy cs=true)(h:ZdD P ops o α=if Zy cs=true then some (.row .own cs,Zem) else none)
  (k:∀b H',Ext H H'->Inn [] H [b]->Row H' b cs->Zs P ops K rest (α.put o.dst (.pointer (some ⟨b,0,none⟩))) H'):Zs P ops K (o::rest) α H:=
 Zpt hw cs h1 h λb H' a e r=>k b H' a (.one (.inr e)) r
theorem s_rwk(hw:WF H)(cs:List Value)(h:ZdD P ops o α=some (.row .own cs,Zem))
  (k:∀b H',Ext H H'->Inn [] H [b]->Row H' b cs->Zs P ops K rest (α.put o.dst (.pointer (some ⟨b,0,none⟩))) H'):Zs P ops K (o::rest) α H:=
 ZpA hw cs h λb H' a e r=>k b H' a (.one (.inr e)) r
section draw
variable{tbl:List (List Nat)}{i:Nat}{rest:List Nat}{fl:List (Nat×AAct×Value)}
theorem d_nk{ob:AObj}{f:Nat->Value}(h:ZeK ops i (λo=>ZdD P ops o α)=some (ob,f))(k:Zu P ops tbl K rest fl (α.put (Zab ops i) (f H.next)) (H.push ob)):Zu P ops tbl K (i::rest) fl α H:=by
 obtain⟨o,ho,hq⟩:=Zeu h;have hs:=Za1 hq;refine d_n o _ _ ho hs.1 hs.2.1 hs.2.2 ?_;rw[← ZgV ho];exact k
theorem Zhj(hw:WF H)(xs:List E)(n:Nat)(hp:0<sz)(hl:∀x∈xs,(enc x).length=sz)(h1:∀x∈xs,Zy (enc x)=true)(hn:xs.length=n)
  (h:ZeK ops i (λo=>ZdD P ops o α)=some (.row .own (xs.flatMap enc),λb=>.slice (some ⟨b,0,none⟩) n n))
  (k:∀s fp H',Ext H H'->Inn [] H fp->Ow enc sz H' s xs fp->Zu P ops tbl K rest fl (α.put (Zab ops i) s) H'):Zu P ops tbl K (i::rest) fl α H:=by
 refine d_nk h ?_;rw[← hn];obtain⟨a,b,c⟩:=Ow.new hw hp hl h1;exact k _ _ _ a c b
theorem d_mks{t:TypeId}{m:Nat}{l c:Int}(hw:WF H)(x0:E)(hT:mkT P t=some (sz,m,enc x0))(hp:0<sz)(h0:0≤l)(h1:l≤c)(h2:c≤9223372036854775807)(hm:m*c≤2 ^ 48)(h:ZeK ops i (λo=>ZdD P ops o α)=aMk P t l c)
  (k:∀s fp H',Ext H H'->Inn [] H fp->Ow enc sz H' s (Ym l.toNat x0) fp->Zu P ops tbl K rest fl (α.put (Zab ops i) s) H'):Zu P ops tbl K (i::rest) fl α H:=by
 obtain⟨ob,f,e1,e2,e3,e4⟩:=Znh hw hT hp h0 h1 h2 hm;exact d_nk (h.trans e1) (k _ _ _ e2 e3 e4)
theorem d_lsl(hw:WF H)(cs:List Value)(n:Nat)(h1:Zy cs=true)(h:ZeK ops i (λo=>ZdD P ops o α)=if Zy cs=true then some (.row .own cs,λb=>.slice (some ⟨b,0,none⟩) n n) else none)
  (k:∀b H',Ext H H'->Inn [] H [b]->Row H' b cs->Zu P ops tbl K rest fl (α.put (Zab ops i) (.slice (some ⟨b,0,none⟩) n n)) H'):Zu P ops tbl K (i::rest) fl α H:=by
 rw[if_pos h1]at h;exact d_nk h (k _ _ (ZdB hw cs).1 (.one (.inr rfl)) (ZdB hw cs).2)
theorem d_rwl(hw:WF H)(cs:List Value)(h1:Zy cs=true)(h:ZeK ops i (λo=>ZdD P ops o α)=if Zy cs=true then some (.row .own cs,Zem) else none)
  (k:∀b H',Ext H H'->Inn [] H [b]->Row H' b cs->Zu P ops tbl K rest fl (α.put (Zab ops i) (.pointer (some ⟨b,0,none⟩))) H'):Zu P ops tbl K (i::rest) fl α H:=
 Zpu hw cs h1 h λb H' a e r=>k b H' a (.one (.inr e)) r
theorem Zgt(hw:WF H)(cs:List Value)(h:ZeK ops i (λo=>ZdD P ops o α)=some (.row .own cs,Zem))
  (k:∀b H',Ext H H'->Inn [] H [b]->Row H' b cs->Zu P ops tbl K rest fl (α.put (Zab ops i) (.pointer (some ⟨b,0,none⟩))) H'):Zu P ops tbl K (i::rest) fl α H:=
 ZpJ hw cs h λb H' a e r=>k b H' a (.one (.inr e)) r
end draw
theorem ZeW{c:Code}(h:aWp P N c (ZdI (λα H=>aWp P N (.loop c) Q α H) Q) α H):aWp P N (.loop c) Q α H:=by
 intro R hR;refine hR α H (Zkz c h λe α' H' h'=>?_);cases e with
 | normal=>exact h' R hR
 | _=>exact h'
theorem ZA{c:Code}(M:AAct->AH->Prop)(h1:∀K:AAct->AH->Prop,(∀α H,M α H->K α H)->aWp P N c (ZdI K Q) α H)(h2:∀α H,M α H->Q .normal α H):aWp P N c Q α H:=by
 refine Zkz c (h1 (Q .normal) h2) λe α H h=>?_;cases e <;> exact h
theorem Zef{c:Operand}{x y:Code}(p:Prop)[Decidable p](hb:ZY α c=.bool (!decide p))(hok:Zd9 c=true)(ht:¬p->aWp P N x Q α H)(hf:p->aWp P N y Q α H):aWp P N (.cond c x y) Q α H:=
 ⟨hok,!decide p,hb,λh=>ht (by simpa using h),λh=>hf (by simpa using h)⟩
end seq
theorem Zl{l:List (Nat×Value)}{α:AAct}(h:Has α l):∃β,α=Zh7 l β:=⟨α,(ZkN h).symm⟩
theorem Zw{α β:Type}{f:α->Option β}{v r:β}(h:YR f some (Yr v:α⊕β)=some r):v=r:=Option.some.inj h
theorem Sq.nilOr{E:Type}{enc:E->List Value}{sz:Nat}{H:AH}{s:Value}{xs:List E}{fp:Fp}(h:Sq enc sz H s xs fp):(s=.slice none 0 0/\xs=[])∨∃a n c,s=.slice (some a) n c:=by
 rcases h.is with ⟨rfl,_⟩|⟨h1,_⟩
 ·exact .inr ⟨_,_,_,rfl⟩
 ·rcases h1.is with h2|⟨b,o,c,k,cs,rfl,_⟩
  ·exact .inl h2
  ·exact .inr ⟨_,_,_,rfl⟩
end Go.Vd
