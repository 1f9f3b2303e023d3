/- Texts. -/
import Derived.Test.YtlfclppjhkeljaaGreatPwhVdN
set_option linter.all false
open Array renaming getD_eq_getD_getElem?→YD,getElem?_eq_getElem→YH,eq_empty_of_size_eq_zero→YZ,getElem?_eq_none→Yca
open List renaming filter_cons→YX,length_filter_le→Yea,eq_nil_of_length_eq_zero→Yx,mem_cons_self→Yw,mem_cons_of_mem→Ys
open Nat renaming le_trans→YL,lt_of_lt_of_le→YJ,le_refl→Yj
namespace Go.Vd
variable[pz:Pins]
variable{ds:List Deferred}{P:Program}{N:Nat}{ops:Array Oper}{ord:List Nat}{μ0:Mu}{H0:AH}{w0:World}{α0:AAct}
def unl(n:Nat)(listed:Array Bool):Nat:=((List.range n).filter λj => !listed.getD j false).length
theorem Zlz{n:Nat}{listed:Array Bool}{i:Nat}(hi:i<n)(hl:i<listed.size)(hu:listed.getD i false=false):unl n (listed.setIfInBounds i true)+1≤unl n listed:=by
 have key:∀(l:List Nat),l.Nodup->i∈l->(l.filter λj => !(listed.setIfInBounds i true).getD j false).length+1≤(l.filter λj => !listed.getD j false).length:=by
  intro l;induction l with
  | nil=>intro _ h;cases h
  | cons x l ih =>
   intro hnd hm;rw[List.nodup_cons]at hnd;by_cases hx:x=i
   ·subst hx;rw[List.filter_cons_of_neg (by rw[Zfr hl];simp),List.filter_cons_of_pos (by rw[hu];rfl)]
    have:(l.filter λj => !(listed.setIfInBounds x true).getD j false)=(l.filter λj => !listed.getD j false):=by
     apply List.filter_congr;intro y hy;have hyx:y≠x:=λe=>hnd.1 (e▸hy);rw[Zfr hl];simp[hyx]
    rw[this];simp
   ·have hm':i∈l:=(List.mem_cons.1 hm).resolve_left (Ne.symm hx);have:=ih hnd.2 hm';simp only[YX,Zfr hl];by_cases hl2:listed.getD x false=true
    ·simp only[hl2,hx];simpa [Zfr hl] using this
    ·simp only[hl2,hx];simp[Zfr hl]at this ⊢;omega
 exact key _ List.nodup_range (List.mem_range.2 hi)
theorem ZlA(hO:Ord N ops ord){Q:Exit->AAct->AH->Prop}{listed:Array Bool}{a:Act}{w:World}(hI:Inv ds P N ops ord (Q .normal) μ0 H0 w0 α0 listed a w)
  (hr:Region.ready .any ops listed=[]):LiftD ds μ0 H0 w0 N Q .normal a w:=by
 obtain⟨hs,dl,rest,fl,H,μ,hC,hrest⟩:=hI
 have all:∀(B A:List Nat),ord=A++B->(∀j∈A,listed.getD j false=true)->∀j∈B,listed.getD j false=true:=by
  intro B;induction B with
  | nil=>intro A _ _ j hj;cases hj
  | cons i B ih =>
   intro A hA hl
   have hi:listed.getD i false=true:=by
    cases hb:listed.getD i false with
    | true=>rfl
    | false =>
     obtain⟨o,g1,g2,_⟩:=hO.at_ A B i hA;have hlt:i<ops.size:=(Array.getElem?_eq_some_iff.1 g1).1
     have hm:i∈Region.ready .any ops listed:=by
      refine mem_ready.2 ⟨?_,o,g1,λe he hbd=>?_⟩
      ·rw[YD,YH Xo]at hb ⊢;exact hb
      ·exact hl _ (g2 _ (List.mem_map.2 ⟨e,List.mem_filter.2 ⟨by simpa using he,hbd⟩,rfl⟩))
     rw[hr]at hm;cases hm
   intro j hj;rcases List.mem_cons.1 hj with rfl|hj
   ·exact hi
   ·exact ih (A++[i]) (by rw[hA];simp) (λx hx=>by
     rcases List.mem_append.1 hx with hx|hx
     ·exact hl x hx
     ·simp at hx;rw[hx];exact hi) j hj
 have hall:∀j∈ord,listed.getD j false=true:=all ord [] rfl Xs
 have hr0:rest=[]:=by
  rcases hrest with h|⟨e,r,o,rfl,_,_⟩
  ·exact h
  ·obtain⟨x,hx,hxe⟩:=hC.inDl e (hall e (by rw[hC.ord];simp));exact absurd hxe (Cfg.notIn hO hC.ord x hx)
 subst hr0;have hw:=hC.wp;simp only[Zu]at hw;have hact:=hC.act
 have hf:dl.filter (λx=>listed.getD x.i false)=dl:=by
  rw[List.filter_eq_self];intro x hx;exact hall x.i (by rw[hC.ord];simp;exact⟨x,hx,rfl⟩)
 rw[hf]at hact;exact⟨_,H,μ,hw,hact,hC.defs,hC.size,hC.rel,hC.keep⟩
theorem Zm3(hO:Ord N ops ord){Q:Exit->AAct->AH->Prop}:∀(fuel:Nat) (listed:Array Bool) (a:Act) (w:World),Inv ds P N ops ord (Q .normal) μ0 H0 w0 α0 listed a w->unl ops.size listed≤fuel ->
  wpAny P .any ops (LiftD ds μ0 H0 w0 N Q) fuel listed a w:=by
 intro fuel;induction fuel with
 | zero =>
  intro listed a w hI hu
  have hr:Region.ready .any ops listed=[]:=by
   apply List.eq_nil_iff_forall_not_mem.2;intro i hi;obtain⟨h1,o,ho,_⟩:=mem_ready.1 hi;have hlt:i<ops.size:=(Array.getElem?_eq_some_iff.1 ho).1;have hl:i<listed.size:=by rw[hI.1];exact hlt
   have hb:listed.getD i false=false:=by
    rw[YD,YH hl]at h1 ⊢;exact h1
   have:=Zlz hlt hl hb;omega
  exact⟨hr,ZlA hO hI hr⟩
 | succ fuel ih =>
  intro listed a w hI hu;refine⟨λhr=>ZlA hO hI hr,λi hi=>?_⟩;refine wpOp_mono (λa' w' h=>ih _ a' w' h ?_) (ZnL hO hI hi);obtain⟨h1,o,ho,_⟩:=mem_ready.1 hi;have hlt:i<ops.size:=(Array.getElem?_eq_some_iff.1 ho).1;have hl:i<listed.size:=by rw[hI.1];exact hlt
  have hb:listed.getD i false=false:=by
   rw[YD,YH hl]at h1 ⊢;exact h1
  have:=Zlz hlt hl hb;omega
theorem Zmn(hm:P.follows .mixedOrders=true){id:Nat}{Q:Exit->AAct->AH->Prop}{α:AAct}{H:AH}{μ:Mu}{a:Act}{w:World}(hd:ZhD N ops ord=true)
  (h:Zu P ops (Zcr ops.toList) (Q .normal) ord [] α H) (ha:ActRel μ α a) (hdf:a.defers=ds) (hs:a.tmps.size=N) (hr:Rel μ H w) (hk:Keep μ0 μ H0 H w0 w) :
  (Code.region id ops true).wp P (LiftD ds μ0 H0 w0 N Q) a w:=by
 have hO:=Zlq hd
 have hf:∀j,(Array.replicate ops.size false).getD j false=false:=by
  intro j;rw[YD,Array.getElem?_replicate];split <;> rfl
 have hff:∀j,¬(Array.replicate ops.size false).getD j false=true:=λj hj=>by rw[hf j]at hj;cases hj
 have hc:Cfg ds P N ops ord (Q .normal) μ0 H0 w0 α (λj=>(Array.replicate ops.size false).getD j false) [] ord [] H μ a { w with drawn:=w.drawn+1 }:=by
  refine⟨rfl,λA x B hA=>?_,h,λj hj=>absurd hj (hff j),λx hx=>(by cases hx),λi j _ hj=>absurd hj (hff j),ha,hdf,hs,hr.drawn _,hk.trans (Keep.drawn μ H w _ (Nat.le_succ _)),λx hx=>(by cases hx),λx hx=>(by cases hx),.nil,λx hx=>(by cases hx)⟩;cases A with
  | nil=>cases hA
  | cons y A=>cases hA
 refine wp_region_any hm (Zm3 hO ops.size _ a _ (ZiZ hO Xs hc) ?_);unfold unl;exact YL (Yea _ _) Xs
def ZdI(K:AAct->AH->Prop)(Q:Exit->AAct->AH->Prop):Exit->AAct->AH->Prop
 | .normal=>K
 | e=>Q e
def Zfj(id:Nat)(Q:Exit->AAct->AH->Prop):Exit->AAct->AH->Prop
 | .exit id'=>if id'=id then Q .normal else Q (.exit id')
 | e=>Q e
def LoopA(step:(AAct->AH->Prop)->AAct->AH->Prop)(α:AAct)(H:AH):Prop:=
 ∀R:AAct->AH->Prop,(∀α H,step R α H->R α H)->R α H
def rWp(P:Program)(N:Nat):Code->(AAct->AH->Prop)->AAct->AH->Prop
 | .skip,K=>K
 | .seq x y,K=>rWp P N x (rWp P N y K)
 | .block _ c,K=>rWp P N c K
 | .region _ ops false,K=>λα H=>ZfA N ops.toList=true/\Zs P ops K ops.toList α H
 | _,_=>λ_ _=>False
def Zh8(α:AAct)(l:List (Tmp×Value)):AAct:=l.foldl (λα x=>α.put (some x.1) x.2) α
def aWp(P:Program)(N:Nat):Code->(Exit->AAct->AH->Prop)->AAct->AH->Prop
 | .skip,Q=>Q .normal
 | .label _,Q=>Q .normal
 | .seq x y,Q=>aWp P N x (ZdI (aWp P N y Q) Q)
 | .cond c x y,Q=>λα H=>Zd9 c=true/\∃b,ZY α c=.bool b/\(b=true->aWp P N x Q α H)/\(b=false->aWp P N y Q α H)
 | .block id c,Q=>aWp P N c (Zfj id Q)
 | .loop c,Q=>LoopA λR=>aWp P N c (ZdI R Q)
 | .exit id,Q=>Q (.exit id)
 | .ret,Q=>Q .ret
 | .region _ ops false,Q=>λα H=>ZfA N ops.toList=true/\Zs P ops (Q .normal) ops.toList α H
 | .region _ ops true,Q=>λα H=>∃ord,ZhD N ops ord=true/\Zu P ops (Zcr ops.toList) (Q .normal) ord [] α H
 | .rangeFunc g ps assign body,Q=>λα H=>Zd9 g=true/\(ps.toList.all λp=>decide (p<N))=true/\∃gf lb,ZY α g=.func (.func gf) #[] lb/\Zev P gf=true /\
   ∀(p1:Pins) (l:Nat),(∀(args:Array Value) (H1:AH) (K:Value->AH->Prop),args.size=ps.size ->
     (∀p2:Pins,@rWp p2 P N assign (@rWp p2 P N body λ_ H'=>K (.bool true) H') (Zh8 α (ps.toList.zip args.toList)) H1)->@AYields p1 P l args H1 K) ->
    @ACalls p1 P gf (#[.func (.yield l) #[] #[]]++lb) H λ_ H'=>Q .normal α H'
 | _,_=>λ_ _=>False
structure Dfs(n0:Nat)(μ:Mu)(ds:List Deferred)(w:World):Prop where
 all:∀d∈ds,∃D,d.target=.collected D/\n0≤D/\w.heap[D]? = some (.deferred (some []))/\(∀b p,μ b=some p->p.blk≠D)/\∀k φ,(k,φ)∈Pins.l->k≠D
 apart:ds.Pairwise λd e=>∀D,d.target=.collected D->e.target≠.collected D
theorem Dfs.nil{n0:Nat}{μ:Mu}{w:World}:Dfs n0 μ [] w:=⟨λ_ h=>(by cases h),.nil⟩
theorem Keep.offK{μ μ':Mu}{H H':AH}{w w':World}(k:Keep μ μ' H H' w w'){q:Nat}{o:Obj}(e1:w.heap[q]? = some o)(e2:∀b p,μ b=some p->p.blk≠q) :
  w'.heap[q]? = some o/\∀b p,μ' b=some p->p.blk≠q:=by
 have hlt:q<w.heap.size:=(Array.getElem?_eq_some_iff.1 e1).1;refine⟨(k.block q hlt λb p hb h0=>absurd h0 (e2 b p hb)).trans e1,λb p hb h0=>?_⟩;cases e:μ b with
 | some r =>
  have:=k.le b r e;rw[hb]at this;cases this;exact e2 b p e h0
 | none =>
  rcases k.newBlk b p hb e with h5|⟨b0,p0,e0,e1,_⟩
  ·omega
  ·exact e2 b0 p0 e0 (e1.trans h0)
theorem Dfs.keep{n0:Nat}{μ μ':Mu}{H H':AH}{ds:List Deferred}{w w':World}(h:Dfs n0 μ ds w)(k:Keep μ μ' H H' w w'):Dfs n0 μ' ds w':=
 ⟨λd hd=>by
  obtain⟨D,h1,h2,h3,h4,h5⟩:=h.all d hd;obtain⟨g1,g2⟩:=k.offK h3 h4;exact⟨D,h1,h2,g1,g2,h5⟩,h.apart⟩
def Zme(μ0:Mu)(H0:AH)(w0:World)(N:Nat)(Q:Exit->AAct->AH->Prop):Exit->Act->World->Prop:=λe a w =>
 ∃α H μ,Q e α H/\ActRel μ α a/\Dfs w0.heap.size μ a.defers w/\a.tmps.size=N/\Rel μ H w/\Keep μ0 μ H0 H w0 w
theorem Rel.pinA{p:Pins}{μ:Mu}{H:AH}{w:World}(h:@Rel p μ H w):@PinOk p μ H w:=@Rel.pin p μ H w h
theorem Rel.conv{p q:Pins}{μ:Mu}{H:AH}{w w':World}(h:@Rel p μ H w)(hs:w.heap.size≤w'.heap.size)(he:∀b pl,μ b=some pl->w'.heap[pl.blk]? = w.heap[pl.blk]?)
  (h0:∀v,ZhF=some v->w'.heap[0]? = w.heap[0]?) (hp:∀k φ,(k,φ)∈q.l->∃o,φ o/\w'.heap[k]? = some o/\∀b p,μ b=some p->p.blk≠k) (hb:Le q.base μ):@Rel q μ H w':=
 have hlt:=@Rel.lt p _ _ _ h
 have hok:=@Rel.ok p _ _ _ h
 have hpin:=@Rel.pin p _ _ _ h
 @Rel.mk q μ H w' (λb p e=>⟨(hlt b p e).1,YJ (hlt b p e).2 hs⟩)
  (λb p e=>let ⟨o,h1,h2⟩:=hok b p e;⟨o,h1,h2.congr (.refl _) (he b p e)⟩) (@Rel.apart p _ _ _ h) (@Rel.fresh p _ _ _ h)
  ⟨λv hv=>by rw[h0 v hv];exact hpin.1 v hv,hp,hb⟩
theorem Keep.conv{μ μ':Mu}{H H':AH}{A B A' B':World}(h:Keep μ μ' H H' A B)(a1:A'.os=A.os)(a2:A'.tape=A.tape)(a3:A'.output=A.output)(a4:A'.drawn=A.drawn)
  (b1:B'.os=B.os) (b2:B'.tape=B.tape) (b3:B'.output=B.output) (b4:B'.drawn=B.drawn)
  (hs:A'.heap.size≤A.heap.size) (hs2:A'.heap.size≤B'.heap.size) (hb:∀k,k<A'.heap.size->B.heap[k]? = A.heap[k]?->B'.heap[k]? = A'.heap[k]?):Keep μ μ' H H' A' B':=
 ⟨h.le,h.next,by rw[b1,a1];exact h.os,by rw[b2,a2];exact h.tape,by rw[b3,a3];exact h.output,by rw[b4,a4];exact h.drw,hs2,
  λk hk hc=>hb k hk (h.block k (YJ hk hs) hc),h.away,h.roKept,λb p hb' hn=>by
   rcases h.newBlk b p hb' hn with h5|h5
   ·exact .inl (YL hs h5)
   ·exact .inr h5⟩
theorem LiftD.lift{ds:List Deferred}{μ0 μ:Mu}{H0 H:AH}{w0 w:World}{N:Nat}{Q:Exit->AAct->AH->Prop}{e:Exit}{a:Act}{w':World}(hd:Dfs w0.heap.size μ ds w)(hk:Keep μ0 μ H0 H w0 w)
  (h:LiftD ds μ H w N Q e a w'):Zme μ0 H0 w0 N Q e a w':=by
 obtain⟨α',H',μ',h1,h2,h3,h4,h5,h6⟩:=h;exact⟨α',H',μ',h1,h2,by rw[h3];exact hd.keep h6,h4,h5,hk.trans h6⟩
theorem Zlm{μ:Mu}{ds:List Deferred}:∀(l l':List (Tmp×Value)) {α:AAct} {t:Array Value},All2 (λx y=>x.1=y.1/\VRel μ x.2 y.2) l l'->(∀x∈l,x.1<t.size)->ActRel μ α { tmps:=t,defers:=ds } ->
  ActRel μ (Zh8 α l) { tmps:=l'.foldl (λt (x:Tmp×Value)=>t.setIfInBounds x.1 x.2) t,defers:=ds }/\(l'.foldl (λt (x:Tmp×Value)=>t.setIfInBounds x.1 x.2) t).size=t.size:=by
 intro l;induction l with
 | nil =>
  intro l' α t h _ ha;have:l'=[]:=Yx h.1.symm;subst this;exact⟨ha,rfl⟩
 | cons x l ih =>
  intro l' α t h hlt ha;match l',h with
  | [],h=>exact absurd h.1 Xs
  | y::l',h =>
   obtain⟨e1,e2⟩:=h.head
   have h1:ActRel μ (α.put (some x.1) x.2) { tmps:=t.setIfInBounds y.1 y.2,defers:=ds }:=by
    rw[← e1];exact ha.put (d:=some x.1) e2 (λq hq=>by cases hq;exact hlt x (Yw ..))
   obtain⟨g1,g2⟩:=ih l' (α:=α.put (some x.1) x.2) (t:=t.setIfInBounds y.1 y.2) h.tail (λz hz=>by rw[Array.size_setIfInBounds];exact hlt z (Ys _ hz)) h1;exact⟨g1,by rw[List.foldl_cons,g2,Array.size_setIfInBounds]⟩
def Zok(K:AAct->AH->Prop):Exit->AAct->AH->Prop
 | .normal=>K
 | _=>λ_ _=>False
theorem ZjS{l:Nat}(c:Code):∀(K:AAct->AH->Prop) (α:AAct) (H:AH) (μ:Mu) (a:Act) (w:World),rWp P N c K α H->ActRel μ α a->a.defers=[]->a.tmps.size=N->Rel μ H w->Keep μ0 μ H0 H w0 w ->
  c.wpIn (FrO (some l)) 0 P (LiftD [] μ0 H0 w0 N (Zok K)) a w:=by
 induction c with
 | skip=>intro K α H μ a w h h1 h2 h3 h4 h5;exact wpIn_skip ⟨α,H,μ,h,h1,h2,h3,h4,h5⟩
 | seq x y ix iy =>
  intro K α H μ a w h h1 h2 h3 h4 h5;refine wpIn_seq (wpIn_mono (ix _ α H μ a w h h1 h2 h3 h4 h5) ?_);rintro e a' w' ⟨α',H',μ',g1,g2,g3,g4,g5,g6⟩;cases e with
  | normal=>exact iy K α' H' μ' a' w' g1 g2 g3 g4 g5 g6
  | _=>exact g1.elim
 | block id c ic =>
  intro K α H μ a w h h1 h2 h3 h4 h5;refine wpIn_block (wpIn_mono (ic K α H μ a w h h1 h2 h3 h4 h5) ?_);rintro e a' w' ⟨α',H',μ',g1,g2⟩;cases e with
  | normal=>exact⟨α',H',μ',g1,g2⟩
  | _=>exact g1.elim
 | region id ops d =>
  intro K α H μ a w h h1 h2 h3 h4 h5;cases d with
  | true=>exact h.elim
  | false=>exact wpIn_region_list (Zis (ro:=some l) (Q:=Zok K) ops.toList α a μ H w h.1 h.2 h1 h2 h3 h4 h5)
 | _=>intro K α H μ a w h;exact h.elim
abbrev ZeA(fn:FuncId)(tmps:Array Value)(ps:Array Tmp)(assign body:Code)(D:Nat)(s:LoopState)(c:Option Code):Loop:=
 { state:=s,pending:=c,fn:=fn,tmps:=tmps,params:=ps,assign:=assign,body:=body,defers:=D }
abbrev ZfF(p0:Pins)(μ:Mu)(l D:Nat)(φ:Obj->Prop):Pins:=⟨(l,φ)::(D,λo=>o=.deferred (some []))::p0.l,μ⟩
theorem Zos{μ:Mu}{l l':List Value}(h:LRel μ l l')(p:List Tmp):All2 (λ(x y:Tmp×Value)=>x.1=y.1/\VRel μ x.2 y.2) (p.zip l) (p.zip l'):=by
 refine⟨by simp[h.1],λi a b ha hb=>?_⟩;obtain⟨a1,a2⟩:=List.getElem?_zip_eq_some.1 ha;obtain⟨b1,b2⟩:=List.getElem?_zip_eq_some.1 hb;rw[a1]at b1;exact⟨Option.some.inj b1,h.2 i _ _ a2 b2⟩
theorem Zli{l D:Nat}{fn:FuncId}{tmps:Array Value}{ps:Array Tmp}{assign body:Code}
  (hlD:D≠l) (hpl:∀k φ,(k,φ)∈pz.l->k≠l) {α:AAct} {μ:Mu} (hα:ActRel μ α { tmps:=tmps,defers:=[] }) (hN:tmps.size=N) (hps:(ps.toList.all λp=>decide (p<N))=true)
  {args:Array Value} {H1:AH} {K:Value->AH->Prop} (hs:args.size=ps.size)
  (h:∀p2:Pins,@rWp p2 P N assign (@rWp p2 P N body λ_ H'=>K (.bool true) H') (Zh8 α (ps.toList.zip args.toList)) H1)
  {μ1:Mu} {w1:World} {args':Array Value} (hr:@Rel (ZfF pz μ l D λo=>o=.loop (ZeA fn tmps ps assign body D .ready none)) μ1 H1 w1) (ha:ARel μ1 args args') :
  YieldAt Fence.wide 0 P l args' w1 λe w'=>∃v v' H' μ',e=.returned v'/\K v H'/\VRel μ' v v'/\@Rel (ZfF pz μ l D λo=>o=.loop (ZeA fn tmps ps assign body D .ready none)) μ' H' w'/\Keep μ1 μ' H1 H' w1 w':=by
 have hpin:=Rel.pinA hr;have hle:Le μ μ1:=hpin.2.2;obtain⟨_,rfl,hl,hloff⟩:=hpin.2.1 l _ (Yw ..)
 have hl0:∀v,ZhF=some v->l≠0:=λv hv h0=>by
  obtain⟨⟨c,ty,fr,h1,h2⟩,_⟩:=hpin.1 v hv;rw[h0,h1]at hl;cases hl
 have hsz:args'.size=ps.size:=ha.1.symm.trans hs;have hy:=run_yield (P:=P) (args:=args') hl hsz;refine⟨_,_,_,_,hy,roundIn_of_wpIn trivial ?_⟩
 have hfold:(ps.zip args').foldl (λtmps (x:Tmp×Value)=>match x with|(t,a)=>tmps.setIfInBounds t a) tmps=(ps.toList.zip args'.toList).foldl (λt (x:Tmp×Value)=>t.setIfInBounds x.1 x.2) tmps:=by
  rw[← Array.toList_zip,← Array.foldl_toList]
 obtain⟨hA,hA2⟩:=Zlm (ds:=[]) (ps.toList.zip args.toList) (ps.toList.zip args'.toList) (t:=tmps) (Zos (ARel.toList.1 ha) ps.toList) (λx hx=>by
  have:=List.all_eq_true.1 hps x.1 (List.of_mem_zip hx).1;rw[hN];exact of_decide_eq_true this) (hα.mono hle)
 rw[← hfold]at hA hA2
 have turn:∀{p q:Obj->Prop} {μ2:Mu} {H2:AH} {w w':World},Le μ μ2->@Rel (ZfF pz μ l D p) μ2 H2 w->w'.heap.size=w.heap.size->(∀k,k≠l->w'.heap[k]? = w.heap[k]?)->(∃o,q o/\w'.heap[l]? = some o)->@Rel (ZfF pz μ l D q) μ2 H2 w':=by
  intro p q μ2 H2 w w' hle2 hr2 hsz2 hk2 ⟨o,ho1,ho2⟩;have hpin2:=Rel.pinA hr2;obtain⟨_,_,_,hoff2⟩:=hpin2.2.1 l _ (Yw ..);refine Rel.conv hr2 Xo (λb pl hb=>hk2 _ (hoff2 b pl hb)) (λv hv=>hk2 _ (hl0 v hv).symm) ?_ hle2;intro k φ hm;rcases List.mem_cons.1 hm with e|hm
  ·cases e;exact⟨o,ho1,ho2,hoff2⟩
  ·obtain⟨o',g1,g2,g3⟩:=hpin2.2.1 k φ (Ys _ hm)
   have hkl:k≠l:=by
    rcases List.mem_cons.1 hm with e|hm
    ·cases e;exact hlD
    ·exact hpl k φ hm
   exact⟨o',g1,(hk2 k hkl).trans g2,g3⟩
 refine wpIn_mono (ZjS (pz:=ZfF pz μ l D λo=>∃s c,o=.loop (ZeA fn tmps ps assign body D s c)) (μ0:=μ1) (H0:=H1) (w0:=w1) assign _ _ H1 μ1 _ w1 (h _) hA rfl (by rw[← hN];exact hA2)
  (turn hle hr rfl (λ_ _=>rfl) ⟨_,⟨_,_,rfl⟩,hl⟩) (.refl _ _ _)) ?_
 rintro e a1 w2 ⟨α',H',μ',g1,g2,g3,g4,g5,g6⟩;cases e with
 | normal =>
  obtain⟨hl2,hloff2⟩:=g6.offK hl hloff;have hlt2:l<w2.heap.size:=(Array.getElem?_eq_some_iff.1 hl2).1;have hle2:=hle.trans g6.le;refine⟨_,run_beginRound hl2 rfl,?_⟩;have hl3:(w2.putObj l (.loop (ZeA fn tmps ps assign body D .busy none))).heap[l]? = some (.loop (ZeA fn tmps ps assign body D .busy none)):=World.putObj_heap_same hlt2
  refine wpIn_mono (ZjS (pz:=ZfF pz μ l D λo=>∃s c,o=.loop (ZeA fn tmps ps assign body D s c)) (μ0:=μ') (H0:=H') (w0:=w2.putObj l (.loop (ZeA fn tmps ps assign body D .busy none))) body _ α' H' μ' a1 _ g1 g2 g3 g4
   (turn hle2 g5 World.putObj_size (λk hk=>World.putObj_heap_other hk) ⟨_,⟨_,_,rfl⟩,hl3⟩) (.refl _ _ _)) ?_
  rintro e a2 w3 ⟨α2,H2,μ2,k1,k2,k3,k4,k5,k6⟩;cases e with
  | normal =>
   obtain⟨hl4,_⟩:=k6.offK hl3 hloff2;have hlt3:l<w3.heap.size:=(Array.getElem?_eq_some_iff.1 hl4).1
   refine⟨_,_,run_endRound none hl4,.bool true,.bool true,H2,μ2,rfl,k1,.bool _,turn (hle2.trans k6.le) k5 World.putObj_size (λk hk=>World.putObj_heap_other hk) ⟨_,rfl,World.putObj_heap_same hlt3⟩,
    g6.trans (k6.conv rfl rfl rfl rfl rfl rfl rfl rfl (by rw[World.putObj_size];exact Yj _) (by have:=k6.size;rw[World.putObj_size]at this ⊢;exact this) ?_)⟩
   intro k hk he;by_cases e:k=l
   ·subst e;rw[hl2];exact World.putObj_heap_same hlt3
   ·rw[World.putObj_heap_other e]at he ⊢;exact he
  | _=>exact k1.elim
 | _=>exact g1.elim
structure Sts(μ0:Mu)(H0:AH)(w0:World)(N:Nat)(α:AAct)(H:AH)(μ:Mu)(a:Act)(w:World):Prop where
 act:ActRel μ α a
 defs:Dfs w0.heap.size μ a.defers w
 size:a.tmps.size=N
 rel:Rel μ H w
 keep:Keep μ0 μ H0 H w0 w
theorem ZnV(hm:P.follows .mixedOrders=true)(c:Code):∀(Q:Exit->AAct->AH->Prop) (α:AAct) (H:AH) (μ:Mu) (a:Act) (w:World),aWp P N c Q α H->Sts μ0 H0 w0 N α H μ a w ->
  c.wp P (Zme μ0 H0 w0 N Q) a w:=by
 have lift:∀{Q:Exit->AAct->AH->Prop} {e:Exit} {α:AAct} {H:AH} {μ:Mu} {a:Act} {w:World},Q e α H->Sts μ0 H0 w0 N α H μ a w->Zme μ0 H0 w0 N Q e a w:=
  λh s=>⟨_,_,_,h,s.act,s.defs,s.size,s.rel,s.keep⟩
 induction c with
 | skip=>intro Q α H μ a w h s;exact wp_skip (lift h s)
 | label l=>intro Q α H μ a w h s;exact wp_label (lift h s)
 | exit id=>intro Q α H μ a w h s;exact wp_exit (lift h s)
 | ret=>intro Q α H μ a w h s;exact wp_ret (lift h s)
 | seq x y ix iy =>
  intro Q α H μ a w h s;refine wp_seq (wp_mono (ix _ α H μ a w h s) ?_);rintro e a' w' ⟨α',H',μ',h1,h2,h3,h4,h5,h6⟩;cases e with
  | normal=>exact iy Q α' H' μ' a' w' h1 ⟨h2,h3,h4,h5,h6⟩
  | _=>exact⟨α',H',μ',h1,h2,h3,h4,h5,h6⟩
 | cond c x y ix iy =>
  intro Q α H μ a w h s;obtain⟨hok,b,hb,ht,hf⟩:=h;have hv:=s.act.eval hok;rw[hb]at hv
  have hc:a.eval c=.bool b:=by
   generalize a.eval c=z at hv;cases hv;rfl
  cases b with
  | true=>exact wp_cond_true hc (ix Q α H μ a w (ht rfl) s)
  | false=>exact wp_cond_false hc (iy Q α H μ a w (hf rfl) s)
 | block id c ic =>
  intro Q α H μ a w h s;refine wp_block (wp_mono (ic _ α H μ a w h s) ?_);rintro e a' w' ⟨α',H',μ',h1,h2,h3,h4,h5,h6⟩;cases e with
  | exit id' =>
   simp only[Exit.inBlock];simp only[Zfj]at h1;by_cases hid:id'=id
   ·rw[if_pos hid]at h1 ⊢;exact⟨α',H',μ',h1,h2,h3,h4,h5,h6⟩
   ·rw[if_neg hid]at h1 ⊢;exact⟨α',H',μ',h1,h2,h3,h4,h5,h6⟩
  | _=>exact⟨α',H',μ',h1,h2,h3,h4,h5,h6⟩
 | loop c ic =>
  intro Q α H μ a w h s b k cs
  have hR:=h (λα H=>∀μ a w,Sts μ0 H0 w0 N α H μ a w->∀(b:Frame) (k:List Item) (cs:List Frame),
   ∃e a' w',Zme μ0 H0 w0 N Q e a' w'/\Arrives P (lone (b.at a (.code c::.inLoop c::k)) cs w) b k cs e a' w') (λα H hst μ a w s b k cs=>?_) μ a w s b k cs
  ·obtain⟨e,a',w',h1,h2⟩:=hR;exact⟨e,a',w',h1,.of_steps (.one step_loop) h2⟩
  ·obtain⟨e,a₁,w₁,⟨α',H',μ',h1,h2,h3,h4,h5,h6⟩,harr⟩:=ic _ α H μ a w hst s b (.inLoop c::k) cs;cases e with
   | normal =>
    obtain⟨e₂,a₂,w₂,hq₂,harr₂⟩:=h1 μ' a₁ w₁ ⟨h2,h3,h4,h5,h6⟩ b k cs;exact⟨e₂,a₂,w₂,hq₂,.of_steps (Steps.trans harr (.one step_inLoop)) harr₂⟩
   | exit id=>exact⟨_,a₁,w₁,⟨α',H',μ',h1,h2,h3,h4,h5,h6⟩,.pass (x:=.inLoop c) rfl (λ_ _=>.inl Xs) harr⟩
   | goto l=>exact⟨_,a₁,w₁,⟨α',H',μ',h1,h2,h3,h4,h5,h6⟩,.pass (x:=.inLoop c) rfl (λ_ _=>.inl Xs) harr⟩
   | ret=>exact⟨_,a₁,w₁,⟨α',H',μ',h1,h2,h3,h4,h5,h6⟩,.pass (x:=.inLoop c) rfl (λ_ _=>.inl Xs) harr⟩
   | panic ch=>exact⟨_,a₁,w₁,⟨α',H',μ',h1,h2,h3,h4,h5,h6⟩,.pass (x:=.inLoop c) rfl (λ_ _=>.inl Xs) harr⟩
   | outgrown=>exact⟨_,a₁,w₁,⟨α',H',μ',h1,h2,h3,h4,h5,h6⟩,.pass (x:=.inLoop c) rfl (λ_ _=>.inl Xs) harr⟩
 | region id ops d =>
  intro Q α H μ a w h s;cases d with
  | false =>
   obtain⟨h1,h2⟩:=h;refine wp_mono (wpIn_wide.1 (wpIn_region_list (Zis (ro:=none) (μ0:=μ) (H0:=H) (w0:=w) (Q:=Q) ops.toList α a μ H w h1 h2 s.act rfl s.size s.rel (.refl _ _ _)))) ?_;exact λe a' w' h=>h.lift s.defs s.keep
  | true =>
   obtain⟨ord,h1,h2⟩:=h;refine wp_mono (Zmn (μ0:=μ) (H0:=H) (w0:=w) hm h1 h2 s.act rfl s.size s.rel (.refl _ _ _)) ?_;exact λe a' w' h=>h.lift s.defs s.keep
 | rangeFunc g ps assign body _ _ =>
  intro Q α H μ a w h s;obtain⟨hok,hps,gf,lb,hg,hce,hcall⟩:=h;have hv:=s.act.eval hok;rw[hg]at hv
  obtain⟨lb',he,hlb⟩:∃lb',a.eval g=.func (.func gf) #[] lb'/\ARel μ lb lb':=by
   generalize a.eval g=y at hv;cases hv with
   | func _ _ a' _ c' e1 e2 e3 e4 =>
    have h1:a'=#[]:=YZ e1.symm;subst h1;exact⟨c',rfl,⟨e3,e4⟩⟩
  refine (wpIn_wide (n:=0)).1 (wpIn_rangeFunc ?_);intro fn _;obtain⟨W1,hW1⟩:∃W1,(w.alloc (.deferred (some []))).alloc (.loop (ZeA fn a.tmps ps assign body w.heap.size .ready none))=W1:=⟨_,rfl⟩
  have hL1:W1.heap[w.heap.size+1]? = some (.loop (ZeA fn a.tmps ps assign body w.heap.size .ready none)):=by
   rw[← hW1];have:=World.alloc_heap_new (w.alloc (.deferred (some []))) (.loop (ZeA fn a.tmps ps assign body w.heap.size .ready none));rwa[World.size_alloc]at this
  have hK1:W1.heap[w.heap.size]? = some (.deferred (some [])):=by
   rw[← hW1];exact (RowKit.Below.heap_alloc _ _ _ Xs).trans (World.alloc_heap_new w _)
  have hold:∀k,k<w.heap.size->W1.heap[k]? = w.heap[k]?:=λk hk=>by
   rw[← hW1];exact (RowKit.Below.heap_alloc _ _ _ (by rw[World.size_alloc];omega)).trans (RowKit.Below.heap_alloc _ _ _ hk)
  have hW1s:W1.heap.size=w.heap.size+2:=by rw[← hW1,World.size_alloc,World.size_alloc]
  have off:∀D,w.heap.size≤D->∀b p,μ b=some p->p.blk≠D:=λD hD b p hb e=>by have:=(s.rel.lt b p hb).2;omega
  have pinlt:∀k φ,(k,φ)∈pz.l->k<w.heap.size:=λk φ hm=>by
   obtain⟨o,_,g,_⟩:=s.rel.pin.2.1 k φ hm;exact (Array.getElem?_eq_some_iff.1 g).1
  have pin0:∀v,ZhF=some v->0<w.heap.size:=λv hv=>by
   obtain⟨⟨c,ty,fr,h1,h2⟩,_⟩:=s.rel.pin.1 v hv;exact (Array.getElem?_eq_some_iff.1 h1).1
  have hr1:@Rel (ZfF pz μ (w.heap.size+1) w.heap.size λo=>o=.loop (ZeA fn a.tmps ps assign body w.heap.size .ready none)) μ H W1:=by
   refine Rel.conv s.rel Xo (λb pl hb=>hold _ (s.rel.lt b pl hb).2) (λv hv=>hold 0 (pin0 v hv)) ?_ (.refl μ);intro k o hm;rcases List.mem_cons.1 hm with e|hm
   ·cases e;exact⟨_,rfl,hL1,off _ Xo⟩
   rcases List.mem_cons.1 hm with e|hm
   ·cases e;exact⟨_,rfl,hK1,off _ Xo⟩
   ·obtain⟨o',z1,z2,z3⟩:=s.rel.pin.2.1 k o hm;exact⟨o',z1,(hold k (pinlt k o hm)).trans z2,z3⟩
  refine⟨w.heap.size+1,[{ target:=.collected w.heap.size,args:=#[] }],W1,{ target:=.fn (.func gf) lb',args:=#[.func (.yield (w.heap.size+1)) #[] #[]] },W1,gf,
   #[.func (.yield (w.heap.size+1)) #[] #[]]++lb',W1,?_,?_,λ_ _=>trivial,?_,λh=>(by cases h),?_⟩
  ·rw[← hW1];exact run_enterLoop_outer _ _ _ _ _
  ·simp only[resolve,he];simp[go_sem]
  ·simp[invoke,go_sem,Ze3 hce]
  have hact0:ActRel μ α { tmps:=a.tmps,defers:=[] }:=s.act
  have hfin:=hcall (ZfF pz μ (w.heap.size+1) w.heap.size λo=>o=.loop (ZeA fn a.tmps ps assign body w.heap.size .ready none)) (w.heap.size+1) (λargs H1 K hs hb μ1 w1 args' hr' ha'=>by
   exact Zli Xo (λk o hm=>by have:=pinlt k o hm;omega) hact0 s.size hps hs hb hr' ha') μ W1 (#[.func (.yield (w.heap.size+1)) #[] #[]]++lb') hr1
   ((ARel.one (.func _ _ _ _ _ rfl (λi=>by simpa using VRel.nilIface) rfl (λi=>by simpa using VRel.nilIface))).app hlb)
  have hci:CallsIn Fence.wide 0 P gf _ W1 _:=callsIn_wide.2 hfin;refine CallsIn.mono (n:=0) hci ?_;rintro e w2 ⟨v,v',H',μ',rfl,hQ,_,hr2,hk2⟩;obtain⟨_,rfl,hl3,hloff3⟩:=(Rel.pinA hr2).2.1 (w.heap.size+1) _ (Yw ..);obtain⟨_,rfl,hD3,hDoff3⟩:=(Rel.pinA hr2).2.1 w.heap.size _ (Ys _ (Yw ..));have hend:=run_endLoop (P:=P) hl3 Xs
  have hkk:Keep μ μ' H H' w (w2.putObj (w.heap.size+1) (.loop (ZeA fn a.tmps ps assign body w.heap.size .exhausted none))):=by
   refine hk2.conv (by rw[← hW1];rfl) (by rw[← hW1];rfl) (by rw[← hW1];rfl) (by rw[← hW1];rfl) rfl rfl rfl rfl Xo (by have:=hk2.size;rw[World.putObj_size];omega) ?_;intro k hk he;rw[World.putObj_heap_other Xo,he,hold k hk]
  refine⟨none,_,hend,α,H',μ',hQ,s.act.mono hk2.le,⟨λd hd=>?_,?_⟩,s.size,Rel.conv hr2 (by rw[World.putObj_size];exact Yj _) (λb pl hb=>World.putObj_heap_other (hloff3 b pl hb)) (λv hv=>World.putObj_heap_other (by have:=pin0 v hv;omega)) ?_ (s.rel.pin.2.2.trans hk2.le),s.keep.trans hkk⟩
  ·rcases List.mem_cons.1 hd with rfl|hd
   ·exact⟨w.heap.size,rfl,s.keep.size,(World.putObj_heap_other Xo).trans hD3,hDoff3,λk o hm e=>by have:=pinlt k o hm;omega⟩
   ·exact (s.defs.keep hkk).all d hd
  ·refine List.pairwise_cons.2 ⟨λd hd D hD hD2=>?_,s.defs.apart⟩;cases hD
   obtain⟨D',e1,_,e2,_⟩:=s.defs.all d hd;rw[hD2]at e1;cases e1;have:=(Array.getElem?_eq_some_iff.1 e2).1;omega
  ·intro k o hm;obtain⟨o',z1,z2,z3⟩:=(Rel.pinA hr2).2.1 k o (Ys _ (Ys _ hm));exact⟨o',z1,(World.putObj_heap_other (by have:=pinlt k o hm;omega)).trans z2,z3⟩
 | _=>intro Q α H μ a w h;exact h.elim
def ZdE(P:Program)(α:AAct)(H:AH):List ResultVar->Option (List Value)
 | []=>some []
 | .tmp t::l=>(ZdE P α H l).map (α t::·)
 | .cell a t::l=>match ZbK P t (α a) H,ZdE P α H l with
  | some v,some vs=>some (v::vs)
  | _,_=>none
def ZgC:List Value->Value
 | [v]=>v
 | vs=>.tuple vs.toArray
def Zgp(P:Program)(fn:Func)(K:Value->AH->Prop):Exit->AAct->AH->Prop
 | .normal,α,H | .ret,α,H=>match ZdE P α H fn.results.toList with
  | some vs=>K (ZgC vs) H
  | none=>False
 | _,_,_=>False
def Zju(tmps:Array Value)(r:ResultVar):Sem Value:=
 match r with
 | .tmp t=>pure (tmps.getD t undef)
 | .cell c t=>do loadVar t (← asAddr (tmps.getD c undef))
theorem ZmA(fn:Func)(tmps:Array Value):results fn tmps=(do
  let vs ← fn.results.mapM (Zju tmps)
  pure (if h:vs.size=1 then vs[0] else .tuple vs)):=by
 have:(λ(r:ResultVar)=>(match r with
  | .tmp t=>pure (tmps.getD t undef)
  | .cell a t=>do loadVar t (← asAddr (tmps.getD a undef)):Sem Value))=Zju tmps:=by
  funext r;cases r <;> rfl
 rw[← this];rfl
theorem Zm1{μ:Mu}{α:AAct}{H:AH}{a:Act}{w:World}(ha:ActRel μ α a)(hr:Rel μ H w):∀(l:List ResultVar) (vs:List Value),ZdE P α H l=some vs ->
  ∃vs',(l.mapM (Zju a.tmps)).run P w=.ok vs' w/\LRel μ vs vs':=by
 intro l;induction l with
 | nil=>intro vs h;simp[ZdE]at h;subst h;exact⟨[],rfl,.nil⟩
 | cons r l ih =>
  intro vs h;rw[List.mapM_cons];cases r with
  | tmp t =>
   simp only[ZdE]at h;cases hl:ZdE P α H l with
   | none=>rw[hl]at h;cases h
   | some ws =>
    rw[hl]at h;cases h;obtain⟨ws',e1,e2⟩:=ih ws hl;refine⟨a.tmps.getD t undef::ws',?_,.cons (ha t) e2⟩;simp only[Sem.run_bind,Zju,Sem.run_pure,Result.andThen_ok,e1]
  | cell c t =>
   simp only[ZdE]at h;split at h
   ·rename_i v ws hv hl
    cases h
    obtain⟨ws',e1,e2⟩:=ih ws hl;obtain⟨v',e3,e4⟩:=Zgu hr (ha c) hv
    have hptr:∃x,a.tmps.getD c undef=.pointer (some x):=by
     have hc:=ha c;unfold ZbK at hv;split at hv
     ·rename_i b o heq
      rw[heq]at hc;generalize a.tmps.getD c undef=y at hc;cases hc with|ptr _ _ p _=>exact⟨_,rfl⟩
     ·cases hv
    obtain⟨x,hx⟩:=hptr;rw[hx]at e3;have e5:(loadVar t x).run P w=.ok v' w:=by simpa [Instr.loadAt,Instr.sureAddr] using e3
    have e6:(Zju a.tmps (.cell c t)).run P w=.ok v' w:=by
     simp only[Zju,hx,Sem.run_bind];exact e5
    refine⟨v'::ws',?_,.cons e4 e2⟩;simp only[Sem.run_bind,e6,Sem.run_pure,Result.andThen_ok,e1]
   ·cases h
theorem Znn{μ:Mu}{vs vs':List Value}(h:LRel μ vs vs'):VRel μ (ZgC vs) (ZgC vs'):=by
 match vs,vs',h with
 | [],[],h=>exact .tuple _ _ rfl λi=>by simpa using VRel.nilIface
 | [],_::_,h=>exact absurd h.1 Xs
 | [v],[v'],h=>exact h.head
 | [_],[],h=>exact absurd h.1 Xs
 | [_],_::_::_,h=>exact absurd h.1 Xs
 | _::_::_,[],h=>exact absurd h.1 Xs
 | _::_::_,[_],h=>exact absurd h.1 Xs
 | a::b::l,a'::b'::l',h =>
  have:ARel μ (a::b::l).toArray (a'::b'::l').toArray:=ARel.toList.2 h;exact .tuple _ _ this.1 this.2
def Zka(args:Array Value):AAct:=λt=>args.getD t undef
def Same0(n0:Nat)(w w':World):Prop:=w'.os=w.os/\w'.tape=w.tape/\w'.output=w.output/\w'.drawn=w.drawn/\w'.heap.size=w.heap.size/\∀k,k<n0->w'.heap[k]? = w.heap[k]?
theorem Zm8{fn:Func}{tmps:Array Value}{R:Ending->World->Prop}{n0:Nat}{μ:Mu}:∀(ds:List Deferred) (H:AH) (w:World),Dfs n0 μ ds w->Rel μ H w ->
  (∀w',Rel μ H w'->Same0 n0 w w'->∃v,(results fn tmps).run P w'=.ok v w'/\R (.returned v) w')->LeavesInM Fence.wide 0 P fn tmps R ds .returning w:=by
 intro ds;induction ds with
 | nil=>intro H w hd hr h;exact h w hr ⟨rfl,rfl,rfl,rfl,rfl,λ_ _=>rfl⟩
 | cons d ds ih =>
  intro H w hd hr h;obtain⟨D,h1,h2,h3,h4,h5⟩:=hd.all d (Yw ..)
  have hD0:∀v,ZhF=some v->D≠0:=λv hv h0=>by
   obtain⟨⟨c,ty,fr,z1,z2⟩,_⟩:=hr.pin.1 v hv;rw[h0,z1]at h3;cases h3
  obtain⟨ap1,ap2⟩:=List.pairwise_cons.1 hd.apart;refine⟨Xs,.inl ⟨D,w.putObj D (.deferred none),h1,run_takeDeferred h3,?_⟩⟩
  have hr':Rel μ H (w.putObj D (.deferred none)):=Rel.conv hr (by rw[World.putObj_size];exact Yj _) (λb pl hb=>World.putObj_heap_other (h4 b pl hb)) (λv hv=>World.putObj_heap_other (hD0 v hv).symm)
   (λk o hm=>by
    obtain⟨o',z1,z2,z3⟩:=hr.pin.2.1 k o hm;exact⟨o',z1,(World.putObj_heap_other (h5 k o hm)).trans z2,z3⟩) hr.pin.2.2
  refine ih H _ ⟨λe he=>?_,ap2⟩ hr' λw' hrw ⟨k1,k2,k3,k4,k5,k6⟩=>h w' hrw ⟨k1,k2,k3,k4,by rw[k5,World.putObj_size],λk hk=>by rw[k6 k hk];exact World.putObj_heap_other Xo⟩;obtain⟨E,g1,g2,g3,g4,g5⟩:=hd.all e (Ys _ he);exact⟨E,g1,g2,(World.putObj_heap_other (λq=>ap1 e he D h1 (by rw[g1,q]))).trans g3,g4,g5⟩
theorem Zft(hm:P.follows .mixedOrders=true){f:FuncId}{fn:Func}{c:Code}{args:Array Value}{H:AH}{K:Value->AH->Prop}(hf:P.funcs[f]? = some fn)(hb:fn.body=some c)
  (hn:args.size≤fn.ntmps) (h:aWp P fn.ntmps c (Zgp P fn K) (Zka args) H):ACalls P f args H K:=by
 intro μ w args' hr ha;refine (callsIn_wide (n:=0)).1 (callsIn_of_wp_marks hf hb trivial (wpIn_wide.2 ?_));have hsz:args'.size=args.size:=ha.1.symm
 have hact:ActRel μ (Zka args) { tmps:=args'++Array.replicate (fn.ntmps-args'.size) undef,defers:=[] }:=by
  intro t;simp only[Zka,YD];by_cases ht:t<args.size
  ·have ht':t<args'.size:=Xo;have:=ha.2 t;rw[Array.getElem?_append_left ht',YH ht,YH ht'];simpa [YD,ht,ht'] using this
  ·rw[Yca Xo,Array.getElem?_append_right Xo,Array.getElem?_replicate];split <;> exact .unit
 refine wp_mono (ZnV hm c _ _ _ μ _ _ h ⟨hact,.nil,by simp;omega,hr,.refl _ _ _⟩) ?_;rintro e a' w' ⟨α',H',μ',h1,h2,h3,h4,h5,h6⟩
 have fin:(match ZdE P α' H' fn.results.toList with|some vs=>K (ZgC vs) H'|none=>False) ->
   LeavesInM Fence.wide 0 P fn a'.tmps (λe w'=>∃v v' H' μ',e=.returned v'/\K v H'/\VRel μ' v v'/\Rel μ' H' w'/\Keep μ μ' H H' w w') a'.defers .returning w':=by
  intro hq;split at hq
  ·rename_i vs hvs
   refine Zm8 _ H' w' h3 h5 λw2 hr2 ⟨s1,s2,s3,s4,s5,s6⟩=>?_;obtain⟨vs',e1,e2⟩:=Zm1 (P:=P) h2 hr2 _ vs hvs;refine⟨ZgC vs',?_,ZgC vs,_,H',μ',rfl,hq,Znn e2,hr2,h6.conv rfl rfl rfl rfl s1 s2 s3 s4 (Yj _) (by have:=h6.size;omega) (λk hk he=>(s6 k hk).trans he)⟩;rw[ZmA,Array.mapM_eq_mapM_toList];simp only[Sem.run_bind,Sem.run_map,e1,Result.andThen_ok,Sem.run_pure];congr 1;match vs' with
   | []=>rfl
   | [v]=>rfl
   | _::_::_=>rfl
  ·exact hq.elim
 cases e with
 | normal=>exact fin h1
 | ret=>exact fin h1
 | _=>exact h1.elim
theorem Zji{f:FuncId}{args args':Array Value}{H:AH}{μ:Mu}{w:World}{r:Value}(h:ACalls P f args H λv _=>v=r)(hp:plain r=true)(hr:Rel μ H w)(ha:ARel μ args args')
  (hro:∀b p,μ b=some p->∃cs,H.get b=some (.row .ro cs)):Calls P f args' w λe w'=>e=.returned r/\RowKit.Below w.heap.size w w':=by
 refine (h μ w args' hr ha).mono ?_;rintro e w' ⟨v,v',H',μ',rfl,rfl,hv,_,hk⟩;rw[Zgc hp hv];exact⟨rfl,hk.os,hk.tape,hk.output,hk.size,λk hlt=>hk.block k hlt λb p hb _=>hro b p hb⟩
end Go.Vd
