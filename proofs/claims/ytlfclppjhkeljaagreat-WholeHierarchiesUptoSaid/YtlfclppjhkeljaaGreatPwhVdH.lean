/- Texts. -/
import Derived.Test.YtlfclppjhkeljaaGreatPwhVdG
set_option linter.all false
open Array renaming getD_eq_getD_getElem?→YD,getElem?_setIfInBounds→Y9
open Bool renaming and_eq_true→YW
open List renaming getElem?_toArray→YP,getElem?_cons_zero→YM,getElem?_eq_getElem→Yn,getElem_mem→Yia,getElem?_eq_none→YQ,eq_nil_of_length_eq_zero→Yx,mem_cons_self→Yw,mem_cons_of_mem→Ys
namespace Go.Vd
variable[Pins]
variable{P:Program}{μ:Mu}{H:AH}{w:World}
theorem Zl5{t:TypeId}{v v' r:Value}(h:Rel μ H w)(hv:VRel μ v v')(hr:Zb7 P t v H=some r)(at_:Array TypeId)(h0:at_[0]? = some t)(ty:TypeId) :
  ∃r',(Builtin.len_ at_ ty #[v']).run P w=.ok r' w/\VRel μ r r':=by
 unfold Zb7 at hr;split at hr
 ·rename_i e a n c hu
  cases hr
  have:∃a' c',v'=.slice a' n c':=by
   cases hv
   ·exact⟨_,_,rfl⟩
   ·exact⟨_,_,rfl⟩
   ·exact⟨_,_,rfl⟩
   ·exact⟨_,_,rfl⟩
  obtain⟨a',c',rfl⟩:=this;exact⟨.int .i64 n,by simp only[Builtin.len_,h0,YP,YM,Sem.run_bind,ZL hu,Result.andThen_ok,Sem.run_pure];rfl,.int _ _⟩
 ·rename_i s hu
  cases hr;cases hv
  exact⟨.int .i64 s.size,by simp only[Builtin.len_,h0,YP,YM,Sem.run_bind,ZL hu,Result.andThen_ok,Sem.run_pure];rfl,.int _ _⟩
 ·rename_i k e hu
  cases hr;cases hv
  exact⟨.int .i64 0,by simp only[Builtin.len_,h0,YP,YM,Sem.run_bind,ZL hu,Result.andThen_ok,Sem.run_pure];rfl,.int _ _⟩
 ·rename_i k e b hu
  cases hv with
  | map _ p hb =>
   split at hr
   ·rename_i es clock hg
    cases hr
    obtain⟨o,g1,g2⟩:=h.ok b p hb;rw[hg]at g1;cases g1;obtain⟨es',e1,e2⟩:=g2;have hl:es.length=es'.size:=by simpa using e2.1
    refine⟨.int .i64 es'.size,?_,by rw[hl];exact .int _ _⟩;have hgo:(getObj p.blk).run P w=.ok (.map es' clock) w:=by simp only[getObj,Sem.run,e1]
    simp only[Builtin.len_,h0,YP,YM,Sem.run_bind,ZL hu,Result.andThen_ok,hgo,Sem.run_pure];rfl
   ·cases hr
 ·cases hr
theorem Zmd{t:TypeId}{v v' r:Value}(h:Rel μ H w)(hv:VRel μ v v')(hr:Ziy P t v H=some r)(at_:Array TypeId)(h0:at_[0]? = some t)(ty:TypeId) :
  ∃r',(Builtin.cap_ at_ ty #[v']).run P w=.ok r' w/\VRel μ r r':=by
 unfold Ziy at hr;split at hr
 ·rename_i e n c hu
  cases hr;cases hv
  exact⟨.int .i64 0,by simp only[Builtin.cap_,h0,YP,YM,Sem.run_bind,ZL hu,Result.andThen_ok,Sem.run_pure];rfl,.int _ _⟩
 ·rename_i e b o n c hu
  cases hg:H.get b with
  | none=>rw[hg]at hr;cases hr
  | some ob =>
   rw[hg]at hr;cases ob with
   | map _ _=>cases hr
   | dead=>cases hr
   | row k cs =>
    have key:∀p,μ b=some p->(∀φ sz,k≠.loose φ sz)->p.exs=0:=by
     intro p hb hk;obtain⟨o',g1,g2⟩:=h.ok b p hb;rw[hg]at g1;cases g1;have:=g2.tight;cases k with
     | ro=>exact this
     | own=>exact this
     | loose φ sz=>exact absurd rfl (hk φ sz)
    have hk:(∀φ sz,k≠.loose φ sz)/\r=.int .i64 c:=by
     cases k with
     | ro=>cases hr;exact⟨Xs,rfl⟩
     | own=>cases hr;exact⟨Xs,rfl⟩
     | loose φ sz=>cases hr
    obtain⟨hk,rfl⟩:=hk
    have:∃a' n',v'=.slice a' n' c:=by
     cases hv with
     | slice _ _ _ _ p hb=>exact⟨_,_,by rw[key p hb hk];rfl⟩
     | sliceEnd _ _ _ p hb=>exact⟨_,_,rfl⟩
    obtain⟨a',n',rfl⟩:=this;exact⟨.int .i64 c,by simp only[Builtin.cap_,h0,YP,YM,Sem.run_bind,ZL hu,Result.andThen_ok,Sem.run_pure];rfl,.int _ _⟩
 ·cases hr
theorem Zhs{vs vs':List Value}(hp:vs.all Zbq=true)(h:LRel μ vs vs'):vs'=vs:=by
 apply List.ext_getElem?;intro i;by_cases hi:i<vs.length
 ·have hi':i<vs'.length:=by rw[← h.1];exact hi
  rw[Yn hi,Yn hi'];congr 1;exact Zgs (List.all_eq_true.1 hp _ (Yia hi)) (h.2 i _ _ (Yn hi) (Yn hi'))
 ·have:=h.1;rw[YQ Xo,YQ Xo]
theorem Zmp{vs vs':List Value}{r:Value}(h:LRel μ vs vs')(hr:Zg8 P vs=some r)(at_:Array TypeId)(ty:TypeId):∃r',(Builtin.max_ at_ ty vs'.toArray).run P w=.ok r' w/\VRel μ r r':=by
 unfold Zg8 at hr;by_cases hp:vs.all Zbq=true
 ·rw[if_pos hp]at hr;rw[Zhs hp h];split at hr
  ·rename_i r0 hpr
   by_cases hr0:Zbq r0=true
   ·rw[if_pos hr0]at hr;cases hr;exact⟨r,Zi9 (s:=Builtin.max_ #[] 0 vs.toArray) hpr w,Zfx μ hr0⟩
   ·rw[if_neg hr0]at hr;cases hr
  ·cases hr
 ·rw[if_neg hp]at hr;cases hr
theorem Zl9{vs vs':List Value}{r:Value}(h:LRel μ vs vs')(hr:Zhe P vs=some r)(at_:Array TypeId)(ty:TypeId):∃r',(Builtin.min_ at_ ty vs'.toArray).run P w=.ok r' w/\VRel μ r r':=by
 unfold Zhe at hr;by_cases hp:vs.all Zbq=true
 ·rw[if_pos hp]at hr;rw[Zhs hp h];split at hr
  ·rename_i r0 hpr
   by_cases hr0:Zbq r0=true
   ·rw[if_pos hr0]at hr;cases hr;exact⟨r,Zi9 (s:=Builtin.min_ #[] 0 vs.toArray) hpr w,Zfx μ hr0⟩
   ·rw[if_neg hr0]at hr;cases hr
  ·cases hr
 ·rw[if_neg hp]at hr;cases hr
theorem VRel.pair{a a' b b':Value}(h:VRel μ a a')(k:VRel μ b b'):VRel μ (.tuple #[a,b]) (.tuple #[a',b']):=
 .tuple _ _ rfl λi=>by
  match i with
  | 0=>exact h
  | 1=>exact k
  | i+2=>exact .nilIface
theorem Zj0{v v' r:Value}{xt t:TypeId}{ok:Bool}(hv:VRel μ v v')(hr:ZjB P v t ok=some r):∃r',(Instr.typeAssert v' xt t ok).run P w=.ok r' w/\VRel μ r r':=by
 have hold:∀x x',VRel μ x x'->VRel μ (if ok then .tuple #[x,.bool true] else x) (if ok then .tuple #[x',.bool true] else x'):=by
  intro x x' h;cases ok
  ·exact h
  ·exact h.pair (.bool true)
 unfold ZjB at hr
 have hf:(if ok=true then match P.info? t with
   | some i=>match i.zero with
    | some z=>if plain z then some (.tuple #[z,.bool false]) else none
    | none=>none
   | none=>none
  else none)=some r->∀(s d:Option TypeId) (m:String),∃r',((if ok=true then do pure (.tuple #[← zeroValue t,.bool false]) else runtimePanic (.typeAssertion s d t m)):Sem Value).run P w=.ok r' w/\VRel μ r r':=by
  intro hq s d m;cases ok with
  | false=>cases hq
  | true =>
   simp only[if_true]at hq ⊢;split at hq
   ·rename_i i hi
    split at hq
    ·rename_i z hz
     by_cases hp:plain z=true
     ·rw[if_pos hp]at hq;cases hq;exact⟨_,by simp only[Sem.run_bind,Zdi hi hz,Result.andThen_ok,Sem.run_pure],(ZaT μ hp).pair (.bool false)⟩
     ·rw[if_neg hp]at hq;cases hq
    ·cases hq
   ·cases hq
 dsimp only at hr;split at hr
 ·rename_i ms hu
  cases hv
  obtain ⟨r', e1, e2⟩ := hf hr none none "";exact⟨r',by simp only[Instr.typeAssert,Sem.run_bind,ZL hu,Result.andThen_ok];exact e1,e2⟩
 ·rename_i want u x hu
  cases hv with
  | iface _ _ x' hx =>
   split at hr
   ·rename_i i hi
    split at hr
    ·rename_i hm
     cases hr
     exact⟨_,by simp only[Instr.typeAssert,Sem.run_bind,ZL hu,Result.andThen_ok,ZcZ hi,hm,Sem.run_pure],hold _ _ (.iface _ _ _ hx)⟩
    ·rename_i m hm
     obtain⟨r',e1,e2⟩:=hf hr none (some u) m;exact⟨r',by simp only[Instr.typeAssert,Sem.run_bind,ZL hu,Result.andThen_ok,ZcZ hi,hm];exact e1,e2⟩
   ·cases hr
 ·rename_i d hni hu
  cases hv
  obtain ⟨r', e1, e2⟩ := hf hr (some xt) none "";refine⟨r',?_,e2⟩
  cases d <;> first
   | exact absurd rfl (hni _)
   | (simp only[Instr.typeAssert,Sem.run_bind,ZL hu,Result.andThen_ok];exact e1)
 ·rename_i d u x hni hu
  cases hv with
  | iface _ _ x' hx =>
   by_cases he:u=t
   ·rw[if_pos he]at hr;cases hr;refine⟨_,?_,hold _ _ hx⟩
    cases d <;> first
     | exact absurd rfl (hni _)
     | simp only[Instr.typeAssert,Sem.run_bind,ZL hu,Result.andThen_ok,if_pos he,Sem.run_pure]
   ·rw[if_neg he]at hr;obtain ⟨r', e1, e2⟩ := hf hr (some xt) (some u) "";refine⟨r',?_,e2⟩
    cases d <;> first
     | exact absurd rfl (hni _)
     | (simp only[Instr.typeAssert,Sem.run_bind,ZL hu,Result.andThen_ok,if_neg he];exact e1)
 ·cases hr
theorem ZjE{v v' r:Value}{i:Nat}(hv:VRel μ v v')(hr:Zix v i=some r):∃r',(Instr.extract v' i).run P w=.ok r' w/\VRel μ r r':=by
 unfold Zix at hr;split at hr
 ·rename_i vs
  cases hv with
  | tuple _ a' e k =>
   obtain⟨r',h1,h2⟩:=All2.get (ARel.toList.1 ⟨e,k⟩) (i:=i) (v:=r) (by simpa using hr);exact⟨r',by simp only[Instr.extract];rw[show a'[i]? = some r' by simpa using h1];rfl,h2⟩
 ·cases hr
theorem Zj2(off:Nat):∀(l:List Value) (l':List Value) (j:Nat) (cs cs':Array Value),LRel μ l l'->ARel μ cs cs' ->
  ARel μ ((l.zipIdx j).foldl (λcs (c,j)=>cs.setIfInBounds (off+j) c) cs) ((l'.zipIdx j).foldl (λcs (c,j)=>cs.setIfInBounds (off+j) c) cs'):=by
 intro l;induction l with
 | nil =>
  intro l' j cs cs' h hc;have:l'=[]:=Yx (by rw[← h.1];rfl);subst this;exact hc
 | cons a l ih =>
  intro l' j cs cs' h hc;cases l' with
  | nil=>exact absurd h.1 Xs
  | cons a' l' =>
   simp only[List.zipIdx_cons,List.foldl_cons];refine ih l' (j+1) _ _ h.tail ⟨by simp[hc.1],λi=>?_⟩;have:=hc.2 i;simp only[YD,Y9]at this ⊢;rw[hc.1];split
   ·split
    ·exact h.head
    ·exact .nilIface
   ·exact this
theorem Zkm(place:Nat->Option (Nat×Nat)):∀(parts parts':List (Nat×Value)) (cs cs' out:Array Value),All2 (λp p'=>p.1=p'.1/\VRel μ p.2 p'.2) parts parts'->ARel μ cs cs' ->
  Instr.fill place cs parts=some out->∃out',Instr.fill place cs' parts'=some out'/\ARel μ out out':=by
 intro parts;induction parts with
 | nil =>
  intro parts' cs cs' out h hc hf;have:parts'=[]:=Yx (by rw[← h.1];rfl);subst this;simp only[Instr.fill]at hf ⊢;cases hf;exact⟨cs',rfl,hc⟩
 | cons p parts ih =>
  intro parts' cs cs' out h hc hf;cases parts' with
  | nil=>exact absurd h.1 Xs
  | cons p' parts' =>
   obtain⟨i,v⟩:=p;obtain⟨i',v'⟩:=p';obtain⟨hi,hv⟩:=h.head;dsimp only at hi hv;subst hi;simp only[Instr.fill]at hf ⊢;have hvc:=hv.cells;cases hpl:place i with
   | none=>rw[hpl]at hf;cases hf
   | some os =>
    obtain⟨off,size⟩:=os;rw[hpl]at hf;dsimp only at hf ⊢;rw[← hvc.1,← hc.1];split at hf
    ·cases hf
    ·rename_i hcond
     rw[if_neg hcond];refine ih parts' _ _ out h.tail ?_ hf;have:=Zj2 (μ:=μ) off v.cells.toList v'.cells.toList 0 cs cs' (ARel.toList.1 hvc) hc;rw[← Array.foldl_toList,← Array.foldl_toList,Array.toList_zipIdx,Array.toList_zipIdx];exact this
theorem Zl8(fs:List Field)(places:List (Nat×Nat))(h:fs.mapM (λf=>(P.info? f.type).map λj=>(f.offset,j.size))=some places) :
  (fs.mapM λf=>do pure (f.offset,← sizeOf f.type):Sem (List (Nat×Nat))).run P w=.ok places w:=by
 induction fs generalizing places with
 | nil=>simp at h;subst h;rfl
 | cons f fs ih =>
  rw[List.mapM_cons]at h ⊢;cases hi:P.info? f.type with
  | none=>rw[hi]at h;cases h
  | some j =>
   rw[hi]at h;cases hr:fs.mapM (λf=>(P.info? f.type).map λj=>(f.offset,j.size)) with
   | none=>rw[hr]at h;cases h
   | some rest =>
    rw[hr]at h;cases h
    simp only[Sem.run_bind,ZaQ hi,Result.andThen_ok,Sem.run_pure,ih rest hr]
theorem ZkY{t:TypeId}{parts parts':List (Nat×Value)}{r:Value}(hp:All2 (λp p'=>p.1=p'.1/\VRel μ p.2 p'.2) parts parts')(hr:Zk1 P t parts=some r) :
  ∃r',(Instr.build t parts'.toArray).run P w=.ok r' w/\VRel μ r r':=by
 unfold Zk1 at hr;split at hr
 ·rename_i fs i hu hi
  split at hr
  ·rename_i z places hz hpl
   by_cases hpz:plain z=true
   ·rw[if_pos hpz]at hr;cases hf:Instr.fill (places.toArray[·]?) z.cells parts with
    | none=>rw[hf]at hr;cases hr
    | some out =>
     rw[hf]at hr;cases hr;obtain⟨out',e1,e2⟩:=Zkm (μ:=μ) _ parts parts' z.cells z.cells out hp (ZaT μ hpz).cells hf;refine⟨.agg out',?_,.agg _ _ e2.1 e2.2⟩
     have hm:(fs.mapM λf=>do pure (f.offset,← sizeOf f.type):Sem (Array (Nat×Nat))).run P w=.ok places.toArray w:=by
      rw[Array.mapM_eq_mapM_toList];simp only[Sem.run_map,Zl8 fs.toList places hpl,Result.andThen_ok]
     simp only[Instr.build,Sem.run_bind,Zdi hi hz,Result.andThen_ok,Sem.run_pure,ZL hu,hm,e1]
   ·rw[if_neg hpz]at hr;cases hr
  ·cases hr
 ·cases hr
theorem Zlr{d:TypeDesc}{k k' x x':Value}{b:Bool}(hk:VRel μ k k')(hx:VRel μ x x')(h:Instr.sameNow d k x=some b):Instr.sameNow d k' x'=some b:=by
 unfold Instr.sameNow at h;split at h
 all_goals first
  | (cases h;done)
  | (cases hk;cases hx;simpa [Instr.sameNow] using h)
theorem Ze1{d:TypeDesc}{k k':Value}(hk:VRel μ k k'):∀(es:List (Value×Value)) (es':List MapEntry) (i:Nat) (r:Option (Nat×Value)),
  All2 (λ(e:Value×Value) (e':MapEntry)=>VRel μ e.1 e'.key/\VRel μ e.2 e'.val) es es'->ZeG d k es i=some r ->
  ∃r',Instr.findNow d k' es' i=some r'/\(match r,r' with|none,none=>True|some (j,v),some (j',v')=>j=j'/\VRel μ v v'|_,_=>False):=by
 intro es;induction es with
 | nil =>
  intro es' i r h hf;have:es'=[]:=Yx (by rw[← h.1];rfl);subst this;simp only[ZeG]at hf;cases hf;exact⟨none,rfl,trivial⟩
 | cons e es ih =>
  intro es' i r h hf;cases es' with
  | nil=>exact absurd h.1 Xs
  | cons e' es' =>
   obtain⟨h1,h2⟩:=h.head;simp only[ZeG]at hf;cases hs:Instr.sameNow d k e.1 with
   | none=>rw[hs]at hf;cases hf
   | some b =>
    rw[hs]at hf;have hs':=Zlr hk h1 hs;simp only[Instr.findNow,hs'];cases b with
    | true=>dsimp only at hf ⊢;cases hf;exact⟨_,rfl,rfl,h2⟩
    | false=>exact ih es' (i+1) r h.tail hf
theorem Zc6{kt:TypeId}(hk:ZgA P kt=true)(b:Bool)(v:Value):(Instr.checkKey b 10000 kt v).run P w=.ok () w:=by
 unfold ZgA at hk;show (Instr.checkKey b (9999+1) kt v).run P w=_;split at hk
 ·rename_i k hu;rw[Instr.checkKey.eq_def];simp only[Sem.run_bind,ZL hu,Result.andThen_ok,Sem.run_pure]
 ·rename_i hu;rw[Instr.checkKey.eq_def];simp only[Sem.run_bind,ZL hu,Result.andThen_ok,Sem.run_pure]
 ·rename_i hu;rw[Instr.checkKey.eq_def];simp only[Sem.run_bind,ZL hu,Result.andThen_ok,Sem.run_pure]
 ·cases hk
theorem ZdG{kt:TypeId}{d:TypeDesc}(hd:P.underlying kt=some d){k:Value}{es:List MapEntry}{r:Option (Nat×Value)}(hf:Instr.findNow d k es 0=some r) :
  (Instr.findKey kt k es).run P w=.ok r w:=by
 simp only[Instr.findKey,Sem.run_bind,ZL hd,Result.andThen_ok,hf,Sem.run_pure]
theorem Zj4{t:TypeId}{m m' k k' r:Value}{ok:Bool}(h:Rel μ H w)(hm:VRel μ m m')(hk:VRel μ k k')(hr:ZdO P t m k ok H=some r) :
  ∃r',(Instr.lookup t m' k' ok).run P w=.ok r' w/\VRel μ r r':=by
 unfold ZdO at hr;split at hr
 ·rename_i kt et hu
  split at hr
  ·rename_i d z hd hz
   cases hi:P.info? et with
   | none=>rw[hi]at hz;cases hz
   | some inf =>
    rw[hi]at hz;have hz:inf.zero=some z:=hz;by_cases hc:(ZgA P kt && plain z)=true
    ·rw[if_pos hc]at hr;simp only[YW]at hc
     have out:∀(v v':Value) (b:Bool),VRel μ v v'->VRel μ (if ok then .tuple #[v,.bool b] else v) (if ok then .tuple #[v',.bool b] else v'):=by
      intro v v' b hv;cases ok
      ·exact hv
      ·exact hv.pair (.bool b)
     split at hr
     ·cases hm;cases hr
      refine⟨_,?_,out z z false (ZaT μ hc.2)⟩;simp only[Instr.lookup,Sem.run_bind,ZL hu,Result.andThen_ok,Sem.run_pure,Zc6 hc.1,ZdG hd (show Instr.findNow d k' (#[]:Array MapEntry).toList 0=some none from rfl),Zdi hi hz]
     ·rename_i b
      cases hm with
      | map _ p hb =>
       split at hr
       ·rename_i es clock hg
        obtain⟨o,g1,g2⟩:=h.ok b p hb;rw[hg]at g1;cases g1;obtain⟨es',e1,e2⟩:=g2;have hgo:(getObj p.blk).run P w=.ok (.map es' clock) w:=by simp only[getObj,Sem.run,e1]
        split at hr
        ·rename_i j v hf
         cases hr
         obtain⟨r',f1,f2⟩:=Ze1 hk es es'.toList 0 _ e2 hf;cases r' with
         | none=>exact f2.elim
         | some x =>
          obtain⟨j',v'⟩:=x;refine⟨_,?_,out v v' true f2.2⟩;simp only[Instr.lookup,Sem.run_bind,ZL hu,Result.andThen_ok,Sem.run_pure,hgo,Zc6 hc.1,ZdG hd f1]
        ·rename_i hf
         cases hr
         obtain⟨r',f1,f2⟩:=Ze1 hk es es'.toList 0 _ e2 hf;cases r' with
         | some x=>exact f2.elim
         | none =>
          refine⟨_,?_,out z z false (ZaT μ hc.2)⟩;simp only[Instr.lookup,Sem.run_bind,ZL hu,Result.andThen_ok,Sem.run_pure,hgo,Zc6 hc.1,ZdG hd f1,Zdi hi hz]
        ·cases hr
       ·cases hr
     ·cases hr
    ·rw[if_neg hc]at hr;cases hr
  ·cases hr
 ·cases hr
theorem Zjn{ρ ρ':Operand->Value}{l:List Operand}(h:∀x∈l,VRel μ (ρ x) (ρ' x)):LRel μ (l.map ρ) (l.map ρ'):=by
 induction l with
 | nil=>exact .nil
 | cons x l ih=>exact .cons (h x (Yw ..)) (ih λy hy=>h y (Ys _ hy))
theorem Zfo{ρ ρ':Operand->Value}{a:Array Operand}(h:∀x∈a,VRel μ (ρ x) (ρ' x)):ARel μ (a.map ρ) (a.map ρ'):=by
 rw[ARel.toList];simpa using Zjn (μ:=μ) (l:=a.toList) λx hx=>h x (by simpa using hx)
theorem ZiF{ρ ρ':Operand->Value}{a:Option Operand}(h:∀x,a=some x->VRel μ (ρ x) (ρ' x)):ZiA μ (a.map ρ) (a.map ρ'):=by
 cases a with
 | none=>trivial
 | some x=>exact h x rfl
theorem ZcD{s:Sem Value}{r:Value}(h:s.run P w=.ok r w):(do pure (Next.value (← s)):Sem Next).run P w=.ok (.value r) w:=by
 simp only[Sem.run_bind,h,Result.andThen_ok,Sem.run_pure]
theorem Zgz{ρ ρ':Operand->Value}{o:Oper}{r:Value}(h:Rel μ H w)(hρ:∀x∈o.op.operands,VRel μ (ρ x) (ρ' x))(hr:ZaG P ρ H o.op=some r) :
  ∃r',(execOp ρ' o).run P w=.ok (.value r') w/\VRel μ r r':=by
 obtain⟨dst,op,type,pos,after,guard⟩:=o;dsimp only at hρ hr;unfold ZaG at hr;split at hr
 ·rename_i x;cases hr;exact⟨_,rfl,hρ x (by simp[Op.operands])⟩
 ·rename_i x;cases hr;exact⟨_,rfl,hρ x (by simp[Op.operands])⟩
 ·rename_i c a b
  have hc:=hρ c (by simp[Op.operands]);have ha:=hρ a (by simp[Op.operands]);have hb:=hρ b (by simp[Op.operands]);split at hr
  ·rename_i t ht
   cases hr
   rw[ht]at hc
   have hc':ρ' c=.bool t:=by
    generalize ρ' c=y at hc;cases hc with|bool _=>rfl
   refine⟨if t then ρ' a else ρ' b,?_,by cases t <;> assumption⟩;simp only[execOp,hc',asBool,Sem.run_bind,Sem.run_pure,Result.andThen_ok]
  ·cases hr
 ·rename_i t a
  obtain⟨r',e1,e2⟩:=Zgu h (hρ a (by simp[Op.operands])) hr;exact⟨r',ZcD e1,e2⟩
 ·rename_i x
  have hx:=hρ x (by simp[Op.operands]);split at hr
  ·rename_i a he
   cases hr
   rw[he]at hx
   have:∃a',ρ' x=.pointer (some a'):=by
    generalize ρ' x=y at hx;cases hx with|ptr b o p hb=>exact⟨_,rfl⟩
   obtain⟨a',he'⟩:=this;rw[he']at hx;exact⟨_,by simp only[execOp,he',Sem.run_pure],hx⟩
  ·rename_i t v he
   cases hr
   rw[he]at hx
   have:∃a',ρ' x=.iface t a':=by
    generalize ρ' x=y at hx;cases hx with|iface _ _ v' _=>exact⟨_,rfl⟩
   obtain⟨a',he'⟩:=this;rw[he']at hx;exact⟨_,by simp only[execOp,he',Sem.run_pure],hx⟩
  ·rename_i f a c he
   cases hr
   rw[he]at hx
   have:∃a' c',ρ' x=.func (.func f) a' c':=by
    generalize ρ' x=y at hx;cases hx with|func _ _ a' _ c' _ _ _ _=>exact⟨_,_,rfl⟩
   obtain⟨a',c',he'⟩:=this;rw[he']at hx;exact⟨_,by simp only[execOp,he',Sem.run_pure],hx⟩
  ·cases hr
 ·rename_i op t x y yt
  obtain⟨r',e1,e2⟩:=Zl3 (w:=w) (hρ x (by simp[Op.operands])) (hρ y (by simp[Op.operands])) hr;exact⟨r',ZcD e1,e2⟩
 ·rename_i op t x
  obtain⟨r',e1,e2⟩:=ZmT (w:=w) (hρ x (by simp[Op.operands])) hr;exact⟨r',ZcD e1,e2⟩
 ·rename_i s d x
  obtain⟨r',e1,e2⟩:=Zlc (w:=w) (hρ x (by simp[Op.operands])) hr;exact⟨r',ZcD e1,e2⟩
 ·rename_i t x
  have hx:=hρ x (by simp[Op.operands]);split at hr
  ·cases hr
  ·rename_i d hd hu
   cases hr
   refine⟨.iface t (ρ' x),ZcD ?_,.iface _ _ _ hx⟩;simp only[Instr.makeInterface,Sem.run_bind,ZL hu,Result.andThen_ok,Sem.run_pure]
  ·cases hr
 ·rename_i fn a c
  cases hr
  have h1:=Zfo (μ:=μ) (a:=a) λx hx=>hρ x (by simp[Op.operands,hx]);have h2:=Zfo (μ:=μ) (a:=c) λx hx=>hρ x (by simp[Op.operands,hx]);exact⟨_,ZcD rfl,.func _ _ _ _ _ h1.1 h1.2 h2.1 h2.2⟩
 ·rename_i t x lo hi mx
  obtain⟨r',e1,e2⟩:=Zkp h (hρ x (by simp[Op.operands])) (ZiF (a:=lo) λy hy=>hρ y (by simp[Op.operands,hy])) (ZiF (a:=hi) λy hy=>hρ y (by simp[Op.operands,hy])) (ZiF (a:=mx) λy hy=>hρ y (by simp[Op.operands,hy])) hr;exact⟨r',ZcD e1,e2⟩
 ·rename_i t x f
  obtain⟨r',e1,e2⟩:=ZiK (w:=w) (hρ x (by simp[Op.operands])) hr;exact⟨r',ZcD e1,e2⟩
 ·rename_i t x f
  obtain⟨r',e1,e2⟩:=ZkV (w:=w) (hρ x (by simp[Op.operands])) hr;exact⟨r',ZcD e1,e2⟩
 ·rename_i t x i
  obtain⟨r',e1,e2⟩:=ZiE (w:=w) (hρ x (by simp[Op.operands])) (hρ i (by simp[Op.operands])) hr;exact⟨r',ZcD e1,e2⟩
 ·rename_i t x i
  obtain⟨r',e1,e2⟩:=Zkl (w:=w) (hρ x (by simp[Op.operands])) (hρ i (by simp[Op.operands])) hr;exact⟨r',ZcD e1,e2⟩
 ·rename_i t m k ok
  obtain⟨r',e1,e2⟩:=Zj4 h (hρ m (by simp[Op.operands])) (hρ k (by simp[Op.operands])) hr;exact⟨r',ZcD e1,e2⟩
 ·rename_i x xt t ok
  obtain⟨r',e1,e2⟩:=Zj0 (w:=w) (xt:=xt) (hρ x (by simp[Op.operands])) hr;exact⟨r',ZcD e1,e2⟩
 ·rename_i t i
  obtain⟨r',e1,e2⟩:=ZjE (P:=P) (w:=w) (hρ t (by simp[Op.operands])) hr;exact⟨r',ZcD e1,e2⟩
 ·rename_i t parts
  have hp:All2 (λp p'=>p.1=p'.1/\VRel μ p.2 p'.2) (parts.toList.map λp=>(p.1,ρ p.2)) (parts.toList.map λp=>(p.1,ρ' p.2)):=by
   have:∀p∈parts.toList,VRel μ (ρ p.2) (ρ' p.2):=λp hp=>hρ p.2 (by simp only[Op.operands,List.mem_toArray,List.mem_map];exact⟨p,hp,rfl⟩);generalize parts.toList=l at this;induction l with
   | nil=>exact .nil
   | cons x l ih=>exact .cons ⟨rfl,this x (Yw ..)⟩ (ih λy hy=>this y (Ys _ hy))
  obtain⟨r',e1,e2⟩:=ZkY (w:=w) hp hr;refine⟨r',ZcD ?_,e2⟩
  have:(parts.map λ(i,x)=>(i,ρ' x))=(parts.toList.map λp=>(p.1,ρ' p.2)).toArray:=by
   apply Array.ext';simp
  rw[this];exact e1
 ·rename_i args argTypes
  split at hr
  ·rename_i x t hl ht
   have ha:args=#[x]:=by apply Array.ext';simpa using hl
   subst ha;obtain⟨r',e1,e2⟩:=Zl5 h (hρ x (by simp[Op.operands,Call.operands])) hr argTypes ht type;have em:Array.map ρ' #[x]=#[ρ' x]:=by apply Array.ext';simp
   exact⟨r',ZcD (by show (Builtin.len_ argTypes type (Array.map ρ' #[x])).run P w=_;rw[em];exact e1),e2⟩
  ·cases hr
 ·rename_i args argTypes
  split at hr
  ·rename_i x t hl ht
   have ha:args=#[x]:=by apply Array.ext';simpa using hl
   subst ha;obtain⟨r',e1,e2⟩:=Zmd h (hρ x (by simp[Op.operands,Call.operands])) hr argTypes ht type;have em:Array.map ρ' #[x]=#[ρ' x]:=by apply Array.ext';simp
   exact⟨r',ZcD (by show (Builtin.cap_ argTypes type (Array.map ρ' #[x])).run P w=_;rw[em];exact e1),e2⟩
  ·cases hr
 ·rename_i args argTypes
  obtain⟨r',e1,e2⟩:=Zmp (w:=w) (Zjn (μ:=μ) (l:=args.toList) λx hx=>hρ x (by simp[Op.operands,Call.operands];simpa using hx)) hr argTypes type;refine⟨r',ZcD ?_,e2⟩;have:args.map ρ'=(args.toList.map ρ').toArray:=by apply Array.ext';simp
  rw[this];exact e1
 ·rename_i args argTypes
  obtain⟨r',e1,e2⟩:=Zl9 (w:=w) (Zjn (μ:=μ) (l:=args.toList) λx hx=>hρ x (by simp[Op.operands,Call.operands];simpa using hx)) hr argTypes type;refine⟨r',ZcD ?_,e2⟩;have:args.map ρ'=(args.toList.map ρ').toArray:=by apply Array.ext';simp
  rw[this];exact e1
 ·cases hr
end Go.Vd
