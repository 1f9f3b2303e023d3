/- Texts. -/
import Derived.Test.YtlfclppjhkeljaaGreatPwhVdM
set_option linter.all false
open Array renaming getD_eq_getD_getElem?→YD,getElem?_setIfInBounds→Y9,getElem?_eq_getElem→YH
open List renaming mem_cons_self→Yw,mem_cons_of_mem→Ys,filter_append→Y0,mem_append_left→YC,mem_append_right→YS,filter_cons→YX
open Nat renaming le_refl→Yj,lt_of_lt_of_le→YJ,lt_succ_self→YI
open Option renaming bind_some→Yk,getD_some→Yha
namespace Go.Vd
variable[Pins]
structure Rec where
 i:Nat
 α:AAct
 r:Value
 nx:Nat
def Zag(ops:Array Oper)(α0:AAct):List Rec->AAct
 | []=>α0
 | x::l=>(Zag ops α0 l).put ((ops[x.i]?).bind (·.dst)) x.r
def Zf0(ops:Array Oper)(i t:Nat):Prop:=(ops[i]?).bind (·.dst)=some t
theorem ZdV{α:AAct}{d:Option Tmp}{v:Value}{t:Nat}(h:d≠some t):α.put d v t=α t:=by
 cases d with
 | none=>rfl
 | some d =>
  have:t≠d:=λe=>h (by rw[e]);simp[AAct.put,this]
theorem Zfm{α:AAct}{d:Option Tmp}{v:Value}{t:Nat}(h:d=some t):α.put d v t=v:=by
 subst h;simp[AAct.put]
theorem ZiV{ops:Array Oper}{α0:AAct}{t:Nat}{A B:List Rec}(h:∀y∈A,¬Zf0 ops y.i t):Zag ops α0 (A++B) t=Zag ops α0 B t:=by
 induction A with
 | nil=>rfl
 | cons x A ih =>
  rw[List.cons_append];simp only[Zag];rw[ZdV (h x (Yw ..)),ih λy hy=>h y (Ys _ hy)]
theorem Zk5{ops:Array Oper}{α0:AAct}{t:Nat}{p:Rec->Bool}{l:List Rec}(h:∀y∈l,Zf0 ops y.i t->p y=true):Zag ops α0 (l.filter p) t=Zag ops α0 l t:=by
 induction l with
 | nil=>rfl
 | cons x l ih =>
  have ih':=ih λy hy=>h y (Ys _ hy);by_cases hp:p x=true
  ·rw[List.filter_cons_of_pos hp];simp only[Zag];by_cases hw:Zf0 ops x.i t
   ·rw[Zfm hw,Zfm hw]
   ·rw[ZdV hw,ZdV hw,ih']
  ·rw[List.filter_cons_of_neg hp];have hw:¬Zf0 ops x.i t:=λhw=>hp (h x (Yw ..) hw);simp only[Zag];rw[ZdV hw,ih']
inductive Pr(P:Program)(ops:Array Oper)(μ:Mu)(H:AH)(x:Rec):Prop
 | skip (o:Oper):ops[x.i]? = some o->Region.wanted o (ZZ ops x.α)=false->x.r=undef->Pr P ops μ H x
 | quiet (o:Oper):ops[x.i]? = some o->Region.wanted o (ZZ ops x.α)=true->cls o.op=.quiet->ZaG P (ZY x.α) H o.op=some x.r->Pr P ops μ H x
 | new (o:Oper) (ob:AObj) (f:Nat->Value):ops[x.i]? = some o->Region.wanted o (ZZ ops x.α)=true->cls o.op=.new->Zg2 P (ZY x.α) o.op=some (ob,f)->x.r=f x.nx ->
   x.nx<H.next->μ x.nx=none->(H.get x.nx=some ob∨H.get x.nx=some .dead)->Pr P ops μ H x
def Zjf(ops:Array Oper)(x:Rec):Prop:=∃o,ops[x.i]? = some o/\Region.wanted o (ZZ ops x.α)=true/\cls o.op=.new
structure Cfg(ds:List Deferred)(P:Program)(N:Nat)(ops:Array Oper)(ord:List Nat)(K:AAct->AH->Prop)(μ0:Mu)(H0:AH)(w0:World)(α0:AAct)(L:Nat->Bool)
  (dl:List Rec) (rest:List Nat) (fl:List (Nat×AAct×Value)) (H:AH) (μ:Mu) (a:Act) (w:World):Prop where
 ord:ord=(dl.map (·.i)).reverse++rest
 cons:∀A x B,dl=A++x::B->x.α=Zag ops α0 B
 wp:Zu P ops (Zcr ops.toList) K rest fl (Zag ops α0 dl) H
 inDl:∀j,L j=true->∃x∈dl,x.i=j
 eff:∀x∈dl,∀o,ops[x.i]? = some o->ZdX o=true->L x.i=true
 closed:∀i j,Anc ops i j->L j=true->L i=true
 act:ActRel μ (Zag ops α0 (dl.filter λx=>L x.i)) a
 defs:a.defers=ds
 size:a.tmps.size=N
 rel:Rel μ H w
 keep:Keep μ0 μ H0 H w0 w
 lag:∀x∈dl,L x.i=false->Pr P ops μ H x
 nx:∀x∈dl,Zjf ops x->x.nx<H.next/\H0.next≤x.nx
 nxp:dl.Pairwise λx y=>Zjf ops y->y.nx<x.nx
 flc:∀x∈dl,∀o,ops[x.i]? = some o->Region.wanted o (ZZ ops x.α)=true->cls o.op=.quiet->Zeo P o.op=false ->
  (∃e∈rest,ZjD ops e=true/\Zfi (Zcr ops.toList) x.i e=false)->(x.i,x.α,x.r)∈fl
variable{ds:List Deferred}{P:Program}{N:Nat}{ops:Array Oper}{ord:List Nat}{K:AAct->AH->Prop}{μ0:Mu}{H0:AH}{w0:World}{α0:AAct}{L:Nat->Bool}
theorem Cfg.notIn{dl:List Rec}{rest:List Nat}{i:Nat}(hO:Ord N ops ord)(ho:ord=(dl.map (·.i)).reverse++i::rest):∀x∈dl,x.i≠i:=by
 intro x hx e;obtain⟨o,_,_,h1,_⟩:=hO.at_ _ _ _ ho;exact h1 (by simp;exact⟨x,hx,e⟩)
theorem ZmS{μ:Mu}{H:AH}{w:World}(h:Rel μ H w)(ob:AObj):Keep μ μ H (H.push ob) w w:=
 ⟨.refl μ,Nat.le_succ _,rfl,rfl,rfl,Yj _,Yj _,λ_ _ _=>rfl,λb hb hn=>⟨hn,.inl (AH.push_old _ _ _ hb)⟩,λb cs hb=>ZdY h.fresh ob b _ hb,λb p h h0=>by rw[h0]at h;cases h⟩
theorem ZoZ(hO:Ord N ops ord):∀(rest:List Nat) (dl:List Rec) (fl:List (Nat×AAct×Value)) (H:AH) (μ:Mu) (a:Act) (w:World),
  Cfg ds P N ops ord K μ0 H0 w0 α0 L dl rest fl H μ a w ->
  ∃dl' rest' fl' H',Cfg ds P N ops ord K μ0 H0 w0 α0 L dl' rest' fl' H' μ a w/\(rest'=[]∨∃e r o,rest'=e::r/\ops[e]? = some o/\ZdX o=true):=by
 intro rest;induction rest with
 | nil=>intro dl fl H μ a w h;exact⟨dl,[],fl,H,h,.inl rfl⟩
 | cons i rest ih =>
  intro dl fl H μ a w h;obtain⟨o,ho,_,_,_,_⟩:=hO.at_ _ _ _ h.ord;by_cases he:ZdX o=true
  ·exact⟨dl,i::rest,fl,H,h,.inr ⟨i,rest,o,rfl,ho,he⟩⟩
  have hni:=Cfg.notIn hO h.ord
  have hLi:L i=false:=by
   cases hl:L i with
   | false=>rfl
   | true=>obtain⟨x,hx,e⟩:=h.inDl i hl;exact absurd e (hni x hx)
  have hwp:=h.wp;simp only[Zu,ho]at hwp
  -- the new configuration
  have go:∀(v:Value) (H':AH) (fl':List (Nat×AAct×Value)),Zu P ops (Zcr ops.toList) K rest fl' ((Zag ops α0 dl).put o.dst v) H' ->
    (∀y,y∈fl->y∈fl')->Rel μ H' w->Keep μ0 μ H0 H' w0 w->H.next≤H'.next->(∀x∈dl,L x.i=false->Pr P ops μ H' x)->Pr P ops μ H' ⟨i,Zag ops α0 dl,v,H.next⟩ ->
    (Zjf ops ⟨i,Zag ops α0 dl,v,H.next⟩->H.next<H'.next) ->
    (cls o.op=.quiet->Zeo P o.op=false->Region.wanted o (ZZ ops (Zag ops α0 dl))=true->ZgU ops (Zcr ops.toList) i rest=true->(i,Zag ops α0 dl,v)∈fl') ->
    Cfg ds P N ops ord K μ0 H0 w0 α0 L (⟨i,Zag ops α0 dl,v,H.next⟩::dl) rest fl' H' μ a w:=by
   intro v H' fl' hw' hfl hr hk hn hlag hpr hnew hflt;refine⟨by rw[h.ord];simp,λA x B hA=>?_,?_,λj hj=>?_,λx hx o' ho' he'=>?_,h.closed,?_,h.defs,h.size,hr,hk,λx hx hl=>?_,λx hx hnx=>?_,?_,λx hx o' ho' hw2 hq hp hex=>?_⟩
   ·cases A with
    | nil=>simp only[List.nil_append,List.cons.injEq]at hA;obtain⟨rfl,rfl⟩:=hA;rfl
    | cons y A=>simp only[List.cons_append,List.cons.injEq]at hA;exact h.cons A x B hA.2
   ·simp only[Zag,ho,Yk];exact hw'
   ·obtain⟨x,hx,e⟩:=h.inDl j hj;exact⟨x,Ys _ hx,e⟩
   ·rcases List.mem_cons.1 hx with rfl|hx
    ·rw[ho]at ho';cases ho';exact absurd he' he
    ·exact h.eff x hx o' ho' he'
   ·rw[List.filter_cons_of_neg (by simp[hLi])];exact h.act
   ·rcases List.mem_cons.1 hx with rfl|hx
    ·exact hpr
    ·exact hlag x hx hl
   ·rcases List.mem_cons.1 hx with rfl|hx
    ·exact⟨hnew hnx,h.keep.next⟩
    ·exact⟨YJ (h.nx x hx hnx).1 hn,(h.nx x hx hnx).2⟩
   ·exact List.pairwise_cons.2 ⟨λy hy hny=>(h.nx y hy hny).1,h.nxp⟩
   ·rcases List.mem_cons.1 hx with rfl|hx
    ·rw[ho]at ho';cases ho';refine hflt hq hp hw2 ?_;obtain⟨e,h1,h2,h3⟩:=hex;exact List.any_eq_true.2 ⟨e,h1,by rw[h2,h3];rfl⟩
    ·obtain⟨e,h1,h2⟩:=hex;exact hfl _ (h.flc x hx o' ho' hw2 hq hp ⟨e,Ys _ h1,h2⟩)
  by_cases hwt:Region.wanted o (ZZ ops (Zag ops α0 dl))=true
  ·rw[if_pos hwt]at hwp;unfold Zcq at hwp;cases hc:cls o.op with
   | quiet =>
    rw[hc]at hwp;dsimp only at hwp;split at hwp
    ·rename_i v hq
     refine ih _ _ _ _ _ _ (go v H _ hwp.2 (λy hy=>?_) h.rel h.keep (Yj _) h.lag (.quiet o ho hwt hc hq) (λ⟨o',g1,_,g2⟩=>by rw[ho]at g1;cases g1;rw[hc]at g2;cases g2) (λ_ h2 _ h4=>?_))
     ·split
      ·exact Ys _ hy
      ·exact hy
     ·rw[if_pos ⟨rfl,h2,h4⟩];exact Yw ..
    ·exact hwp.elim
   | new =>
    rw[hc]at hwp;dsimp only at hwp;split at hwp
    ·rename_i ob f hq
     refine ih _ _ _ _ _ _ (go (f H.next) (H.push ob) fl ?_ (λy hy=>hy) (h.rel.push ob) (h.keep.trans (ZmS h.rel ob)) (Nat.le_succ _) (λx hx hl=>?_) ?_ (λ_=>YI _) (λh1=>by rw[hc]at h1;cases h1))
     ·have:=hwp.2;rwa[if_neg Xs]at this
     ·cases h.lag x hx hl with
      | skip o' g1 g2 g3=>exact .skip o' g1 g2 g3
      | quiet o' g1 g2 g3 g4=>exact .quiet o' g1 g2 g3 (Zmo h.rel.fresh ob g4)
      | new o' ob' f' g1 g2 g3 g4 g5 g6 g7 g8=>exact .new o' ob' f' g1 g2 g3 g4 g5 (Nat.lt_succ_of_lt g6) g7 (by rw[AH.push_old _ _ _ g6];exact g8)
     ·exact .new o ob f ho hwt hc hq rfl (YI _) h.rel.next_none (.inl (AH.push_get _ _))
    ·exact hwp.elim
   | eff=>exact absurd (by simp[ZdX,hc]) he
   | call=>exact absurd (by simp[ZdX,hc]) he
  ·rw[if_neg hwt]at hwp;exact ih _ _ _ _ _ _ (go undef H fl hwp (λy hy=>hy) h.rel h.keep (Yj _) h.lag (.skip o ho (by simpa using hwt) rfl) (λ⟨o',g1,g2,_⟩=>by rw[ho]at g1;cases g1;exact absurd g2 hwt) (λ_ _ h3=>absurd h3 hwt))
theorem Zko{μ:Mu}{H:AH}{w:World}(h:Keep μ0 μ H0 H w0 w){b:Nat}(hb:H0.next≤b)(hn:μ b=none)(o:Obj)(exs sz:Nat) :
  Keep μ0 (μ.set b ⟨w.heap.size,0,exs,sz⟩) H0 H w0 (w.alloc o):=by
 refine⟨h.le.trans (Mu.set_le hn _),h.next,h.os,h.tape,h.output,h.drw,by rw[Zhh];have:=h.size;omega,λk hk hro=>?_,λx hx hx0=>⟨?_,(h.away x hx hx0).2⟩,h.roKept,λx p hx hx0=>?_⟩
 ·rw[ZdW,if_neg (by have:=h.size;omega)];exact h.block k hk hro
 ·unfold Mu.set;rw[if_neg Xo];exact (h.away x hx hx0).1
 ·unfold Mu.set at hx;by_cases hxb:x=b
  ·rw[if_pos hxb]at hx;cases hx;exact .inl h.size
  ·rw[if_neg hxb]at hx;exact h.newBlk x p hx hx0
theorem Zmv{tbl:List (List Nat)}{e:Nat}{H:AH}{fl:List (Nat×AAct×Value)}(h:ZcO P ops tbl e H fl){x:Nat×AAct×Value}(hx:x∈fl)(ha:Zfi tbl x.1 e=false) :
  ∃o,ops[x.1]? = some o/\ZaG P (ZY x.2.1) H o.op=some x.2.2:=by
 induction fl with
 | nil=>cases hx
 | cons y fl ih =>
  simp only[ZcO]at h;rcases List.mem_cons.1 hx with rfl|hx
  ·have h1:=h.1;rw[if_neg (by rw[ha];simp)]at h1;split at h1
   ·rename_i o ho;exact⟨o,ho,h1⟩
   ·exact h1.elim
  ·exact ih h.2 hx
theorem Zkj(hO:Ord N ops ord){dl:List Rec}(hcl:∀i j,Anc ops i j->L j=true->L i=true)
  {A B:List Rec} {i:Nat} {o:Oper} (ho:ops[i]? = some o) (hdl:dl=A++B) (hA:∀y∈A,y.i≠i->¬Anc ops y.i i) (hB:∀y∈B,y.i≠i/\¬Anc ops i y.i)
  (hLi:L i=false) (hready:∀j,Anc ops j i->L j=true) {t:Nat} (ht:t∈o.looksAt ops) :
  Zag ops α0 (dl.filter λx=>L x.i) t=Zag ops α0 B t:=by
 have conf:∀y:Rec,y.i≠i->Zf0 ops y.i t->Anc ops y.i i∨Anc ops i y.i:=by
  intro y hy hw;unfold Zf0 at hw;cases hyo:ops[y.i]? with
  | none=>rw[hyo]at hw;cases hw
  | some oy =>
   rw[hyo]at hw;rcases hO.conf y.i i oy o hy hyo ho with h|h|h
   ·exact .inl h
   ·exact .inr h
   ·exact absurd ht ((Oper.apart_spec h).1 t hw)
 rw[hdl,Y0,ZiV (λy hy hw=>?_),Zk5 (λy hy hw=>?_)]
 ·obtain⟨hne,hna⟩:=hB y hy;rcases conf y hne hw with h|h
  ·exact hready _ h
  ·exact absurd h hna
 ·obtain⟨hyA,hyL⟩:=List.mem_filter.1 hy;by_cases hne:y.i=i
  ·rw[hne]at hyL;rw[hLi]at hyL;cases hyL
  ·rcases conf y hne hw with h|h
   ·exact hA y hyA hne h
   ·have:=hcl _ _ h hyL;rw[hLi]at this;cases this
theorem ZiW{o:Oper}{α β:AAct}{μ:Mu}{a:Act}(hα:ActRel μ α a)(hok:Zgd N o=true)(h:∀t∈o.looksAt ops,α t=β t) :
  (∀x∈o.op.operands,VRel μ (ZY β x) (a.eval x))/\Region.wanted o (yielded ops a.tmps)=Region.wanted o (ZZ ops β):=by
 constructor
 ·intro x hx;have hv:=hα.eval (Zim hok x hx);cases x with
  | tmp t =>
   have:α t=β t:=h t (YC _ (List.mem_filterMap.2 ⟨.tmp t,by simpa using hx,rfl⟩));simp only[ZY]at hv ⊢;rw[← this];exact hv
  | const v=>exact hv
  | global g=>exact hv
  | func f=>exact hv
 ·refine Zjh (μ:=μ) λj b t hg ht=>?_;have:α t=β t:=h t (YS _ (by rw[hg];simp[ht]));rw[← this];exact hα t
theorem ZfN{p q:Rec->Bool}{l:List Rec}(h:∀x∈l,p x=q x):l.filter p=l.filter q:=by
 induction l with
 | nil=>rfl
 | cons x l ih =>
  have hx:=h x (Yw ..);have ih':=ih λy hy=>h y (Ys _ hy);simp only[YX,hx,ih']
def Inv(ds:List Deferred)(P:Program)(N:Nat)(ops:Array Oper)(ord:List Nat)(K:AAct->AH->Prop)(μ0:Mu)(H0:AH)(w0:World)(α0:AAct)(listed:Array Bool)(a:Act)(w:World):Prop:=
 listed.size=ops.size/\∃dl rest fl H μ,Cfg ds P N ops ord K μ0 H0 w0 α0 (λj=>listed.getD j false) dl rest fl H μ a w/\(rest=[]∨∃e r o,rest=e::r/\ops[e]? = some o/\ZdX o=true)
theorem ZiZ(hO:Ord N ops ord){listed:Array Bool}(hs:listed.size=ops.size){dl:List Rec}{rest:List Nat}{fl:List (Nat×AAct×Value)}{H:AH}{μ:Mu}{a:Act}{w:World}
  (h:Cfg ds P N ops ord K μ0 H0 w0 α0 (λj=>listed.getD j false) dl rest fl H μ a w):Inv ds P N ops ord K μ0 H0 w0 α0 listed a w:=by
 obtain⟨dl',rest',fl',H',h1,h2⟩:=ZoZ hO rest dl fl H μ a w h;exact⟨hs,dl',rest',fl',H',μ,h1,h2⟩
theorem Zfr{listed:Array Bool}{i j:Nat}(h:i<listed.size):(listed.setIfInBounds i true).getD j false=(decide (j=i) || listed.getD j false):=by
 simp only[YD,Y9];by_cases hj:i=j
 ·subst hj;simp[h]
 ·rw[if_neg hj];simp[Ne.symm hj]
theorem ZnL(hO:Ord N ops ord){Q:Exit->Act->World->Prop}{listed:Array Bool}{a:Act}{w:World}(hI:Inv ds P N ops ord K μ0 H0 w0 α0 listed a w){i:Nat}(hi:i∈Region.ready .any ops listed) :
  wpOp P ops Q i (λa' w'=>Inv ds P N ops ord K μ0 H0 w0 α0 (listed.setIfInBounds i true) a' w') a w:=by
 obtain⟨hs,dl,rest,fl,H,μ,hC,hrest⟩:=hI;obtain⟨hun,o,ho,hedges⟩:=mem_ready.1 hi;have hilt:i<ops.size:=(Array.getElem?_eq_some_iff.1 ho).1;have hil:i<listed.size:=by rw[hs];exact hilt
 have hLi:listed.getD i false=false:=by
  simp only[YD,YH hil,Yha]at hun ⊢;exact hun
 have hready:∀j,Anc ops j i->listed.getD j false=true:=by
  intro j hj
  have ed:∀e∈ZfW o,listed.getD e false=true:=by
   intro e he;unfold ZfW at he;obtain⟨ed,h1,rfl⟩:=List.mem_map.1 he;obtain⟨h2,h3⟩:=List.mem_filter.1 h1;exact hedges ed (by simpa using h2) h3
  cases hj with
  | edge h1 h2=>rw[ho]at h1;cases h1;exact ed _ h2
  | trans h1 h2 h3=>rw[ho]at h1;cases h1;exact hC.closed _ _ h3 (ed _ h2)
 have hok:Zgd N o=true:=List.all_eq_true.1 hO.ok o (by simpa using Array.mem_of_getElem? ho);have hdst:∀t,o.dst=some t->t<a.tmps.size:=by rw[hC.size];exact Zjb hok
 have hs':(listed.setIfInBounds i true).size=ops.size:=by simpa using hs
 have hL':∀j,(listed.setIfInBounds i true).getD j false=(decide (j=i) || listed.getD j false):=λj=>Zfr hil
 have hclosed':∀x y,Anc ops x y->(listed.setIfInBounds i true).getD y false=true->(listed.setIfInBounds i true).getD x false=true:=by
  intro x y hxy hy;rw[hL']at hy ⊢;simp only[Bool.or_eq_true,decide_eq_true_eq]at hy ⊢;rcases hy with rfl|hy
  ·exact .inr (hready x hxy)
  ·exact .inr (hC.closed x y hxy hy)
 have hmem:i∈(dl.map (·.i)).reverse++rest:=by rw[← hC.ord];exact hO.all i hilt
 unfold wpOp;simp only[ho];rcases List.mem_append.1 hmem with hmem|hmem
 ·-- it was done in our order already
  simp only[List.mem_reverse,List.mem_map]at hmem;obtain⟨x,hx,hxi⟩:=hmem;obtain⟨A,B,hdl⟩:=List.append_of_mem hx
  have hord:ord=(B.map (·.i)).reverse++i::((A.map (·.i)).reverse++rest):=by
   rw[hC.ord,hdl];simp[hxi]
  obtain⟨o',g1,g2,g3,g4,g5⟩:=hO.at_ _ _ _ hord;rw[ho]at g1;cases g1;have hBi:∀y∈B,y.i≠i:=λy hy e=>g3 (by simp;exact⟨y,hy,e⟩);have hAi:∀y∈A,y.i≠i:=λy hy e=>g4 (by simp;exact .inl ⟨y,hy,e⟩)
  have hBa:∀y∈B,¬Anc ops i y.i:=by
   intro y hy ha;obtain⟨B1,B2,hB⟩:=List.append_of_mem hy;have:=hO.anc ha ((B2.map (·.i)).reverse) ((B1.map (·.i)).reverse++i::((A.map (·.i)).reverse++rest)) (by rw[hord,hB];simp);exact g3 (by rw[hB];simp at this ⊢;obtain⟨z,hz,e⟩:=this;exact .inl ⟨z,hz,e⟩)
  have hAa:∀y∈A,¬Anc ops y.i i:=by
   intro y hy ha;have:=hO.anc ha _ _ hord;simp only[List.mem_reverse,List.mem_map]at this;obtain⟨z,hz,e⟩:=this;obtain⟨A1,A2,hA⟩:=List.append_of_mem hy
   have ho2:ord=((A2.map (·.i)).reverse.reverse.reverse |> λl=>(B.map (·.i)).reverse++i::l)++y.i::((A1.map (·.i)).reverse++rest):=by
    rw[hord,hA];simp
   obtain⟨_,_,_,q3,_⟩:=hO.at_ _ _ _ ho2;exact q3 (by simp;exact .inl ⟨z,hz,e⟩)
  have hα:x.α=Zag ops α0 B:=hC.cons A x B hdl;have hLx:listed.getD x.i false=false:=by rw[hxi];exact hLi
  have hlk:∀t∈o.looksAt ops,Zag ops α0 (dl.filter λx=>listed.getD x.i false) t=x.α t:=by
   intro t ht;rw[hα];refine Zkj (A:=A++[x]) (B:=B) hO hC.closed ho (by rw[hdl];simp) (λy hy hne=>?_) (λy hy=>⟨hBi y hy,hBa y hy⟩) hLi hready ht;rcases List.mem_append.1 hy with hy|hy
   ·exact hAa y hy
   ·simp at hy;rw[hy]at hne;exact absurd hxi hne
  obtain⟨hev,hwt⟩:=ZiW hC.act hok hlk;rw[hwt]
  -- the state behind it
  have fin:∀(r':Value) (μ':Mu) (w':World),VRel μ' x.r r'->Le μ μ'->Rel μ' H w'->Keep μ0 μ' H0 H w0 w'->(∀y∈dl,y.i≠i->listed.getD y.i false=false->Pr P ops μ' H y) ->
    Inv ds P N ops ord K μ0 H0 w0 α0 (listed.setIfInBounds i true) (a.put o.dst r') w':=by
   intro r' μ' w' hr hle hrel hk hlag;refine⟨hs',dl,rest,fl,H,μ',⟨hC.ord,hC.cons,hC.wp,λj hj=>?_,λy hy oy hoy hey=>?_,hclosed',?_,by rw[Act.put_def];exact hC.defs,by rw[Act.put_size];exact hC.size,hrel,hk,λy hy hl=>?_,hC.nx,hC.nxp,hC.flc⟩,hrest⟩
   ·rw[hL']at hj;simp only[Bool.or_eq_true,decide_eq_true_eq]at hj;rcases hj with rfl|hj
    ·exact⟨x,hx,hxi⟩
    ·exact hC.inDl j hj
   ·rw[hL',hC.eff y hy oy hoy hey];simp
   ·have e1:(dl.filter λx=>(listed.setIfInBounds i true).getD x.i false)=(A.filter λx=>listed.getD x.i false)++x::(B.filter λx=>listed.getD x.i false):=by
     rw[hdl,Y0,List.filter_cons_of_pos (by rw[hL',hxi];simp)];rw[ZfN (l:=A) (q:=λx=>listed.getD x.i false) λy hy=>by rw[hL'];simp[hAi y hy]];rw[ZfN (l:=B) (q:=λx=>listed.getD x.i false) λy hy=>by rw[hL'];simp[hBi y hy]]
    have e2:(dl.filter λx=>listed.getD x.i false)=(A.filter λx=>listed.getD x.i false)++(B.filter λx=>listed.getD x.i false):=by
     rw[hdl,Y0,List.filter_cons_of_neg (by rw[hLx];simp)]
    have hact:∀t,Zag ops α0 (dl.filter λx=>(listed.setIfInBounds i true).getD x.i false) t=((Zag ops α0 (dl.filter λx=>listed.getD x.i false)).put o.dst x.r) t:=by
     intro t;rw[e1,e2];by_cases hd:o.dst=some t
     ·rw[Zfm hd,ZiV]
      ·simp only[Zag];rw[Zfm];rw[hxi,ho];exact hd
      ·intro y hy hw;obtain⟨hyA,hyL⟩:=List.mem_filter.1 hy;unfold Zf0 at hw;cases hyo:ops[y.i]? with
       | none=>rw[hyo]at hw;cases hw
       | some oy =>
        rw[hyo]at hw;rcases hO.conf y.i i oy o (hAi y hyA) hyo ho with h|h|h
        ·exact hAa y hyA h
        ·have:=hC.closed _ _ h hyL;rw[hLi]at this;cases this
        ·exact (Oper.apart_spec h).2.1 t hw hd
     ·rw[ZdV hd]
      have gen:∀(l:List Rec),Zag ops α0 (l++x::(B.filter λx=>listed.getD x.i false)) t=Zag ops α0 (l++(B.filter λx=>listed.getD x.i false)) t:=by
       intro l;induction l with
       | nil=>simp only[List.nil_append,Zag];rw[ZdV];rw[hxi,ho];exact hd
       | cons y l ih =>
        simp only[List.cons_append,Zag];by_cases hw:(ops[y.i]?).bind (·.dst)=some t
        ·rw[Zfm hw,Zfm hw]
        ·rw[ZdV hw,ZdV hw,ih]
      exact gen _
    intro t;rw[hact];exact ((hC.act.mono hle).put hr hdst) t
   ·rw[hL']at hl;simp only[Bool.or_eq_false_iff,decide_eq_false_iff_not]at hl;exact hlag y hy hl.1 hl.2
  have hpr:=hC.lag x hx hLx;cases hpr with
  | skip o' g1 g2 g3 =>
   rw[hxi,ho]at g1;cases g1;rw[if_neg (by rw[g2];simp)];have:=fin undef μ w (by rw[g3];exact .unit) (.refl _) hC.rel hC.keep (λy hy _ hl=>hC.lag y hy hl);exact this
  | quiet o' g1 g2 g3 g4 =>
   rw[hxi,ho]at g1;cases g1;rw[if_pos g2];left;obtain⟨r',e1,e2⟩:=Zgz hC.rel hev g4;unfold Oper.wp;rw[e1];exact fin r' μ w e2 (.refl _) hC.rel hC.keep (λy hy _ hl=>hC.lag y hy hl)
  | new o' ob f g1 g2 g3 g4 g5 g6 g7 g8 =>
   rw[hxi,ho]at g1;cases g1;rw[if_pos g2];left;obtain⟨obj,hob⟩:=Zh0 hev g4;obtain⟨v',e1,e2⟩:=hob w;unfold Oper.wp;rw[e1];have hset:=Mu.set_self μ x.nx ⟨w.heap.size,0,0,1⟩;obtain⟨r1,r2⟩:=e2 _ x.nx (Mu.set_le g7 _) hset;have hisn:Zjf ops x:=⟨o,by rw[hxi];exact ho,g2,g3⟩;have hnx0:=(hC.nx x hx hisn).2
   have hrel:Rel (μ.set x.nx ⟨w.heap.size,0,0,1⟩) H (w.alloc obj):=by
    rcases g8 with g8|g8
    ·exact hC.rel.realize g6 g7 g8 obj 0 1 r2
    ·exact hC.rel.realize g6 g7 g8 obj 0 1 trivial
   refine fin v' _ (w.alloc obj) (by rw[g5];exact r1) (Mu.set_le g7 _) hrel (Zko hC.keep hnx0 g7 obj 0 1) (λy hy hne hl=>?_);cases hC.lag y hy hl with
   | skip oy q1 q2 q3=>exact .skip oy q1 q2 q3
   | quiet oy q1 q2 q3 q4=>exact .quiet oy q1 q2 q3 q4
   | new oy oby fy q1 q2 q3 q4 q5 q6 q7 q8 =>
    refine .new oy oby fy q1 q2 q3 q4 q5 q6 ?_ q8;have hny:Zjf ops y:=⟨oy,q1,q2,q3⟩
    have hnxne:y.nx≠x.nx:=by
     intro e;rw[hdl]at hy;have hpw:=hC.nxp;rw[hdl]at hpw;rw[List.pairwise_append,List.pairwise_cons]at hpw;rcases List.mem_append.1 hy with hy|hy
     ·have:=hpw.2.2 y hy x (Yw ..) hisn;omega
     ·rcases List.mem_cons.1 hy with rfl|hy
      ·exact hne hxi
      ·have:=hpw.2.1.1 y hy hny;omega
    unfold Mu.set;rw[if_neg hnxne];exact q7
 ·-- it is the next effect
  rcases hrest with rfl|⟨e,r,oe,rfl,hoe,hee⟩
  ·cases hmem
  ·have hie:i=e:=by
    rcases List.mem_cons.1 hmem with h|h
    ·exact h
    ·obtain⟨o',g1,_,g3,_,g5⟩:=hO.at_ _ _ _ hC.ord;rw[hoe]at g1;cases g1;have:=hready e (g5 hee i h).1;obtain⟨x,hx,hxe⟩:=hC.inDl e this;exact absurd (by simp;exact⟨x,hx,hxe⟩) g3
   subst hie;rw[ho]at hoe;cases hoe;obtain⟨o',g1,g2,g3,g4,g5⟩:=hO.at_ _ _ _ hC.ord;rw[ho]at g1;cases g1;have hni:∀y∈dl,y.i≠i:=Cfg.notIn hO hC.ord
   have hna:∀y∈dl,¬Anc ops i y.i:=by
    intro y hy ha;obtain⟨D1,D2,hD⟩:=List.append_of_mem hy;have:=hO.anc ha ((D2.map (·.i)).reverse) ((D1.map (·.i)).reverse++i::r) (by rw[hC.ord,hD];simp);exact g3 (by rw[hD];simp at this ⊢;obtain⟨z,hz,e⟩:=this;exact .inl ⟨z,hz,e⟩)
   have hlk:∀t∈o.looksAt ops,Zag ops α0 (dl.filter λx=>listed.getD x.i false) t=Zag ops α0 dl t:=λt ht =>
    Zkj (A:=[]) (B:=dl) hO hC.closed ho rfl Xs (λy hy=>⟨hni y hy,hna y hy⟩) hLi hready ht
   obtain⟨hev,hwt⟩:=ZiW hC.act hok hlk;rw[hwt];have hwp:=hC.wp;simp only[Zu,ho]at hwp
   have fin:∀(v r':Value) (H':AH) (μ':Mu) (w':World) (fl':List (Nat×AAct×Value)),Zu P ops (Zcr ops.toList) K r fl' ((Zag ops α0 dl).put o.dst v) H'->(∀y,y∈fl->y∈fl') ->
     VRel μ' v r'->Rel μ' H' w'->Keep μ μ' H H' w w'->(∀y∈dl,listed.getD y.i false=false->Pr P ops μ' H' y)->Inv ds P N ops ord K μ0 H0 w0 α0 (listed.setIfInBounds i true) (a.put o.dst r') w':=by
    intro v r' H' μ' w' fl' hw' hfl hv hr hk hlag;refine ZiZ hO hs' (dl:=⟨i,Zag ops α0 dl,v,H.next⟩::dl) (rest:=r) (fl:=fl') (H:=H') (μ:=μ') ?_
    have hcl:cls o.op≠.quiet/\cls o.op≠.new:=by
     unfold ZdX at hee;constructor <;> (intro e;rw[e]at hee;cases hee)
    refine⟨by rw[hC.ord];simp,λA x B hA=>?_,?_,λj hj=>?_,λx hx o' ho' he'=>?_,hclosed',?_,by rw[Act.put_def];exact hC.defs,by rw[Act.put_size];exact hC.size,hr,hC.keep.trans hk,λx hx hl=>?_,λx hx hnx=>?_,?_,λx hx o' ho' hw2 hq hp hex=>?_⟩
    ·cases A with
     | nil=>simp only[List.nil_append,List.cons.injEq]at hA;obtain⟨rfl,rfl⟩:=hA;rfl
     | cons y A=>simp only[List.cons_append,List.cons.injEq]at hA;exact hC.cons A x B hA.2
    ·simp only[Zag,ho,Yk];exact hw'
    ·rw[hL']at hj;simp only[Bool.or_eq_true,decide_eq_true_eq]at hj;rcases hj with rfl|hj
     ·exact⟨_,Yw ..,rfl⟩
     ·obtain⟨x,hx,e⟩:=hC.inDl j hj;exact⟨x,Ys _ hx,e⟩
    ·rw[hL'];rcases List.mem_cons.1 hx with rfl|hx
     ·simp
     ·rw[hC.eff x hx o' ho' he'];simp
    ·rw[List.filter_cons_of_pos (by rw[hL'];simp)];rw[ZfN (l:=dl) (q:=λx=>listed.getD x.i false) λy hy=>by rw[hL'];simp[hni y hy]];simp only[Zag,ho,Yk];exact (hC.act.mono hk.le).put hv hdst
    ·rw[hL']at hl;simp only[Bool.or_eq_false_iff,decide_eq_false_iff_not]at hl;rcases List.mem_cons.1 hx with rfl|hx
     ·exact absurd rfl hl.1
     ·exact hlag x hx hl.2
    ·rcases List.mem_cons.1 hx with rfl|hx
     ·obtain⟨o',q1,_,q2⟩:=hnx;rw[ho]at q1;cases q1;exact absurd q2 hcl.2
     ·exact⟨YJ (hC.nx x hx hnx).1 hk.next,(hC.nx x hx hnx).2⟩
    ·exact List.pairwise_cons.2 ⟨λy hy hny=>(hC.nx y hy hny).1,hC.nxp⟩
    ·rcases List.mem_cons.1 hx with rfl|hx
     ·rw[ho]at ho';cases ho';exact absurd hq hcl.1
     ·obtain⟨e,h1,h2⟩:=hex;exact hfl _ (hC.flc x hx o' ho' hw2 hq hp ⟨e,Ys _ h1,h2⟩)
   -- what lags behind an effect
   have lag':∀(μ':Mu) (H':AH) (w':World),Keep μ μ' H H' w w'->ZcO P ops (Zcr ops.toList) i H' fl->∀y∈dl,listed.getD y.i false=false->Pr P ops μ' H' y:=by
    intro μ' H' w' hk hst y hy hl
    have hanc:Zfi (Zcr ops.toList) y.i i=false:=by
     cases hb:Zfi (Zcr ops.toList) y.i i with
     | false=>rfl
     | true =>
      have:=hready _ (ZfT hb);rw[hl]at this;cases this
    cases hC.lag y hy hl with
    | skip oy q1 q2 q3=>exact .skip oy q1 q2 q3
    | quiet oy q1 q2 q3 q4 =>
     refine .quiet oy q1 q2 q3 ?_;by_cases hp:Zeo P oy.op=true
     ·exact ZiM hp q4 H'
     ·have hm:=hC.flc y hy oy q1 q2 q3 (by simpa using hp) ⟨i,Yw ..,by unfold ZjD;rw[ho];exact hee,hanc⟩;obtain⟨o2,z1,z2⟩:=Zmv hst hm hanc;rw[q1]at z1;cases z1;exact z2
    | new oy oby fy q1 q2 q3 q4 q5 q6 q7 q8 =>
     obtain⟨n1,n2⟩:=hk.away y.nx q6 q7;refine .new oy oby fy q1 q2 q3 q4 q5 (YJ q6 hk.next) n1 ?_;rcases n2 with n2|n2
     ·rw[n2];exact q8
     ·exact .inr n2
   by_cases hwd:Region.wanted o (ZZ ops (Zag ops α0 dl))=true
   ·rw[if_pos hwd]at hwp ⊢;left;refine ZmL hev hC.rel hwp ?_;rintro v v' H' μ' w' ⟨hst,hw'⟩ hv hr hk;refine fin v v' H' μ' w' _ hw' (λy hy=>?_) hv hr hk (lag' μ' H' w' hk (hst hee));split
    ·exact Ys _ hy
    ·exact hy
   ·rw[if_neg hwd]at hwp ⊢;exact fin undef undef H μ w fl hwp (λy hy=>hy) .unit hC.rel (.refl _ _ _) (λy hy hl=>hC.lag y hy hl)
end Go.Vd
