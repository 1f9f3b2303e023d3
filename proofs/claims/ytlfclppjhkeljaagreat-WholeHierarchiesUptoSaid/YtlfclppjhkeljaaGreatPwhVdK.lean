/- Texts. -/
import Derived.RangeFuncNested
import Derived.Test.YtlfclppjhkeljaaGreatPwhVdJ
set_option linter.all false
open Array renaming getD_eq_getD_getElem?→YD,getElem?_setIfInBounds→Y9,eq_empty_of_size_eq_zero→YZ
open Bool renaming and_eq_true→YW,false_eq_true→Y5
open List renaming take_of_length_le→YE
namespace Go.Vd
variable[Pins]
abbrev AAct:=Nat->Value
def AAct.put(α:AAct)(d:Option Tmp)(v:Value):AAct:=
 match d with
 | some d=>λt=>if t=d then v else α t
 | none=>α
def ZY(α:AAct):Operand->Value
 | .tmp t=>α t
 | .const v=>v
 | .global g=>.pointer (some ⟨g,0,none⟩)
 | .func f=>.func (.func f) #[] #[]
def Zd9:Operand->Bool
 | .tmp _=>true
 | .const v=>plain v
 | .global _=>false
 | .func _=>true
def ActRel(μ:Mu)(α:AAct)(a:Act):Prop:=∀t,VRel μ (α t) (a.tmps.getD t undef)
theorem ActRel.mono{μ μ':Mu}{α:AAct}{a:Act}(hl:Le μ μ')(h:ActRel μ α a):ActRel μ' α a:=λt=>(h t).mono hl
theorem ActRel.eval{μ:Mu}{α:AAct}{a:Act}(h:ActRel μ α a){x:Operand}(hx:Zd9 x=true):VRel μ (ZY α x) (a.eval x):=by
 cases x with
 | tmp t=>exact h t
 | const v=>exact ZaT μ hx
 | global g=>simp[Zd9]at hx
 | func f=>exact .func _ _ _ _ _ rfl (λi=>by simpa using VRel.nilIface) rfl (λi=>by simpa using VRel.nilIface)
theorem ActRel.put{μ:Mu}{α:AAct}{a:Act}(h:ActRel μ α a){d:Option Tmp}{v v':Value}(hv:VRel μ v v')(hd:∀t,d=some t->t<a.tmps.size):ActRel μ (α.put d v) (a.put d v'):=by
 cases d with
 | none=>exact h
 | some d =>
  intro t;simp only[AAct.put,Act.put,YD,Y9];by_cases ht:t=d
  ·subst ht;have:=hd t rfl;simp[this,hv]
  ·rw[if_neg ht,if_neg (Ne.symm ht)];simpa only[YD] using h t
theorem Act.put_size(a:Act)(d:Option Tmp)(v:Value):(a.put d v).tmps.size=a.tmps.size:=by
 cases d <;> simp[Act.put]
theorem Act.put_def(a:Act)(d:Option Tmp)(v:Value):(a.put d v).defers=a.defers:=by
 cases d <;> rfl
def ACalls(P:Program)(f:FuncId)(args:Array Value)(H:AH)(K:Value->AH->Prop):Prop:=
 ∀(μ:Mu) (w:World) (args':Array Value),Rel μ H w->ARel μ args args' ->
  Calls P f args' w λe w'=>∃v v' H' μ',e=.returned v'/\K v H'/\VRel μ' v v'/\Rel μ' H' w'/\Keep μ μ' H H' w w'
theorem ACalls.mono{P:Program}{f:FuncId}{args:Array Value}{H:AH}{K K':Value->AH->Prop}(h:ACalls P f args H K)(hk:∀v H',K v H'->K' v H'):ACalls P f args H K':=
 λμ w args' hr ha=>(h μ w args' hr ha).mono λ_ _ ⟨v,v',H',μ',e1,e2,e3⟩=>⟨v,v',H',μ',e1,hk _ _ e2,e3⟩
def Zev(P:Program)(g:FuncId):Bool:=
 match P.funcs[g]? with
 | some fn => fn.body.isSome && !(fn.name == "runtime.NumGoroutine")
 | none=>false
def Zjj(P:Program)(t:TypeId)(name:String):Option FuncId:=
 match P.info? t,P.underlying t with
 | some i,some d=>match i.methods.find? (·.name == name) with
  | some m=>if m.path.isEmpty then match m.func,d with
    | some (f,true),.pointer _=>some f
    | some (_,false),.pointer _=>none
    | some (f,false),_=>some f
    | _,_=>none
   else none
  | none=>none
 | _,_=>none
def ZeC(P:Program)(ρ:Operand->Value):Op->Option (FuncId×Array Value)
 | .call { callee:=.value f,args,argTypes:=_ }=>match ρ f with
  | .func (.func g) first cap=>if Zev P g then some (g,first++args.map ρ++cap) else none
  | _=>none
 | .call { callee:=.invoke r name,args,argTypes:=_ }=>match ρ r with
  | .iface t v=>match Zjj P t name with
   | some g=>if Zev P g then some (g,#[v]++args.map ρ) else none
   | none=>none
  | _=>none
 | _=>none
def Zg3(P:Program)(t:TypeId)(name:String):Option (FuncId×TypeId):=
 match P.info? t,P.underlying t with
 | some i,some d=>match i.methods.find? (·.name == name) with
  | some m=>if m.path.isEmpty then match m.func,d with
    | some (f,false),.pointer e=>some (f,e)
    | _,_=>none
   else none
  | none=>none
 | _,_=>none
def Zgh(P:Program)(ρ:Operand->Value)(H:AH):Op->Option (FuncId×Array Value)
 | .call { callee:=.invoke r name,args,argTypes:=_ }=>match ρ r with
  | .iface t (.pointer (some a))=>match Zg3 P t name with
   | some (g,e)=>if Zev P g then match ZbK P e (.pointer (some a)) H with
    | some v=>some (g,#[v]++args.map ρ)
    | none=>none
    else none
   | none=>none
  | _=>none
 | _=>none
def ZgF(ρ:Operand->Value):Op->Option (Nat×Array Value)
 | .call { callee:=.value f,args,argTypes:=_ }=>match ρ f with
  | .func (.yield l) x y=>if x.size=0/\y.size=0 then some (l,args.map ρ) else none
  | _=>none
 | _=>none
def AYields(P:Program)(l:Nat)(args:Array Value)(H:AH)(K:Value->AH->Prop):Prop:=
 ∀μ w args',Rel μ H w->ARel μ args args'->YieldAt Fence.wide 0 P l args' w λe w'=>∃v v' H' μ',e=.returned v'/\K v H'/\VRel μ' v v'/\Rel μ' H' w'/\Keep μ μ' H H' w w'
theorem AYields.mono{P:Program}{l:Nat}{args:Array Value}{H:AH}{K K':Value->AH->Prop}(h:AYields P l args H K)(hk:∀v H',K v H'->K' v H'):AYields P l args H K':=by
 intro μ w args' hr ha;obtain⟨fn,t,x,y,h1,h2⟩:=h μ w args' hr ha;exact⟨fn,t,x,y,h1,h2.mono λe w' ⟨v,v',H',μ',k1,k2,k3⟩=>⟨v,v',H',μ',k1,hk _ _ k2,k3⟩⟩
inductive Cls
 | quiet
 | new
 | eff
 | call
 deriving DecidableEq
def cls:Op->Cls
 | .alloc _ | .box _ _ | .buildSlice _ _ _ | .makeSlice _ _ _ | .makeMap _ _=>.new
 | .store _ _ _ | .mapUpdate _ _ _ _ | .insert _ _ _ _=>.eff
 | .call { callee:=.builtin .len,.. } | .call { callee:=.builtin .cap,.. } | .call { callee:=.builtin .max,.. } | .call { callee:=.builtin .min,.. }=>.quiet
 | .call { callee:=.builtin _,.. }=>.eff
 | .call _=>.call
 | _=>.quiet
def Zcq(P:Program)(op:Op)(ρ:Operand->Value)(H:AH)(K:Value->AH->Prop):Prop:=
 match cls op with
 | .quiet=>match ZaG P ρ H op with
  | some v=>K v H
  | none=>False
 | .new=>match Zg2 P ρ op with
  | some (ob,f)=>K (f H.next) (H.push ob)
  | none=>False
 | .eff=>match ZiH P ρ H op with
  | some (v,H')=>K v H'
  | none=>False
 | .call=>match ZeC P ρ op with
  | some (f,args)=>ACalls P f args H K
  | none=>match Zgh P ρ H op with
   | some (f,args)=>ACalls P f args H K
   | none=>False
def ASem(P:Program)(op:Op)(ρ:Operand->Value)(H:AH)(K:Value->AH->Prop):Prop:=
 ∀(ro:Option Nat) (μ:Mu) (w:World) (o:Oper) (a:Act) (next:Act->World->Prop) (Q:Exit->Act->World->Prop),o.op=op->(∀x∈op.operands,VRel μ (ρ x) (a.eval x))->Rel μ H w ->
  (∀v v' H' μ' w',K v H'->VRel μ' v v'->Rel μ' H' w'->Keep μ μ' H H' w w'->next (a.put o.dst v') w')->o.wpIn { Fence.wide with round:=ro } 0 P a w next Q
def Zjc(P:Program)(op:Op)(ρ:Operand->Value)(H:AH)(K:Value->AH->Prop):Prop:=
 Zcq P op ρ H K∨(∃l args,ZgF ρ op=some (l,args)/\AYields P l args H K)∨ASem P op ρ H K
variable{P:Program}{μ:Mu}{H:AH}{w:World}
theorem Ze3{g:FuncId}(h:Zev P g=true)(args:Array Value):(callFunc g args).run P w=.ok (.enter g args) w:=by
 unfold Zev at h;split at h
 ·rename_i fn hf
  simp only[YW,Bool.not_eq_true']at h
  have hb:fn.body.isNone=false:=by
   cases hb:fn.body with
   | none=>rw[hb]at h;cases h.1
   | some _=>rfl
  simp only[callFunc,Sem.run_bind,run_program,Result.andThen_ok,hf,h.2,Y5,if_false,hb,Sem.run_pure]
 ·cases h
theorem ARel.app{a a' b b':Array Value}(h:ARel μ a a')(k:ARel μ b b'):ARel μ (a++b) (a'++b'):=by
 rw[ARel.toList]at *;rw[Array.toList_append,Array.toList_append];exact All2.append h k
theorem ARel.one{v v':Value}(h:VRel μ v v'):ARel μ #[v] #[v']:=by
 rw[ARel.toList];exact .cons h .nil
theorem Zmr{t:TypeId}{name:String}{g:FuncId}(h:Zjj P t name=some g)(n:Nat)(v:Value):(method (n+1) t v name).run P w=.ok (g,v) w:=by
 unfold Zjj at h;split at h
 ·rename_i i d hi hu
  split at h
  ·rename_i m hm
   by_cases hp:m.path.isEmpty=true
   ·rw[if_pos hp]at h;have hpl:m.path.toList=[]:=by simpa using hp
    cases hmf:m.func with
    | none=>rw[hmf]at h;cases h
    | some fp =>
     obtain⟨f,b⟩:=fp;rw[hmf]at h
     cases d <;> cases b <;> first
      | (cases h;done)
      | (cases h
         simp only[method,Sem.run_bind,ZcZ hi,Result.andThen_ok,hm,hpl,follow,Sem.run_pure,hmf,receiverAt,ZL hu,Place.get])
   ·rw[if_neg hp]at h;cases h
  ·cases h
 ·cases h
theorem ZhS{ρ ρ':Operand->Value}{o:Oper}{f:FuncId}{args:Array Value}(hρ:∀x∈o.op.operands,VRel μ (ρ x) (ρ' x))(hr:ZeC P ρ o.op=some (f,args)) :
  ∃args',(execOp ρ' o).run P w=.ok (.enter f args') w/\ARel μ args args':=by
 obtain⟨dst,op,type,pos,after,guard⟩:=o;dsimp only at hρ hr;unfold ZeC at hr;split at hr
 ·rename_i fo as at_
  have hf:=hρ fo (by simp[Op.operands,Call.operands]);have ha:=Zfo (μ:=μ) (a:=as) λx hx=>hρ x (by simp[Op.operands,Call.operands];exact .inr hx);split at hr
  ·rename_i g first cap hfo
   rw[hfo]at hf;split at hr
   ·rename_i hc
    cases hr
    obtain⟨first',cap',he,h1,h2⟩:∃first' cap',ρ' fo=.func (.func f) first' cap'/\ARel μ first first'/\ARel μ cap cap':=by
     generalize ρ' fo=y at hf;cases hf with
     | func _ _ a' _ c' e1 e2 e3 e4=>exact⟨a',c',rfl,⟨e1,e2⟩,⟨e3,e4⟩⟩
    refine⟨first'++as.map ρ'++cap',?_,(h1.app ha).app h2⟩;simp only[execOp,resolve,he,Deferred.ofValue,Sem.run_bind,Sem.run_pure,Result.andThen_ok,invoke,Ze3 hc]
   ·cases hr
  ·cases hr
 ·rename_i ro name as at_
  have hf:=hρ ro (by simp[Op.operands,Call.operands]);have ha:=Zfo (μ:=μ) (a:=as) λx hx=>hρ x (by simp[Op.operands,Call.operands];exact .inr hx);split at hr
  ·rename_i t v hro
   rw[hro]at hf;split at hr
   ·rename_i g hm
    split at hr
    ·rename_i hc
     cases hr
     obtain⟨v',he,h1⟩:∃v',ρ' ro=.iface t v'/\VRel μ v v':=by
      generalize ρ' ro=y at hf;cases hf with
      | iface _ _ v' h=>exact⟨v',rfl,h⟩
     refine⟨#[v']++as.map ρ',?_,(ARel.one h1).app ha⟩
     have hx:(#[Value.iface t v']++as.map ρ').extract 1 (#[Value.iface t v']++as.map ρ').size=as.map ρ':=by
      apply Array.ext';simp[YE]
     have h0:(#[Value.iface t v']++as.map ρ')[0]? = some (.iface t v'):=by rw[Array.getElem?_append_left Xs];rfl
     simp only[execOp,resolve,he,Sem.run_bind,Sem.run_pure,Result.andThen_ok,invoke,h0,hx,callMethod,run_program];rw[show P.types.size+Made.depth=(P.types.size+(Made.depth-1))+1 from rfl,Zmr hm];simp only[Result.andThen_ok];exact Ze3 hc _
    ·cases hr
   ·cases hr
  ·cases hr
 ·cases hr
theorem Zlg(a:Addr)(ats:Array TypeId)(t:TypeId)(s m:String):(Builtin.ssaWrapNilChk_ ats t #[.pointer (some a),strVal s,strVal m]).run P w=.ok (.pointer (some a)) w:=rfl
theorem Zlw{t:TypeId}{name:String}{g:FuncId}{e:TypeId}(h:Zg3 P t name=some (g,e))(n:Nat){a:Addr}{r:Value}(hl:(Instr.loadAt e (.pointer (some a))).run P w=.ok r w) :
  (method (n+1) t (.pointer (some a)) name).run P w=.ok (g,r) w:=by
 unfold Zg3 at h;split at h
 ·rename_i i d hi hu
  split at h
  ·rename_i m hm
   by_cases hp:m.path.isEmpty=true
   ·rw[if_pos hp]at h;have hpl:m.path.toList=[]:=by simpa using hp
    have hload:(loadVar e a).run P w=.ok r w:=by simpa [Instr.loadAt,Instr.sureAddr] using hl
    split at h
    ·rename_i f e' hmf
     cases h
     simp only[method,Sem.run_bind,ZcZ hi,Result.andThen_ok,hm,hpl,follow,Sem.run_pure,hmf,receiverAt,ZL hu,Place.get,hp,if_true,Zlg,asAddr,hload]
    ·cases h
   ·rw[if_neg hp]at h;cases h
  ·cases h
 ·cases h
theorem Zhp{ρ ρ':Operand->Value}{o:Oper}{f:FuncId}{args:Array Value}(hr:Rel μ H w)(hρ:∀x∈o.op.operands,VRel μ (ρ x) (ρ' x))(h:Zgh P ρ H o.op=some (f,args)) :
  ∃args',(execOp ρ' o).run P w=.ok (.enter f args') w/\ARel μ args args':=by
 obtain⟨dst,op,type,pos,after,guard⟩:=o;dsimp only at hρ h;unfold Zgh at h;split at h
 ·rename_i ro name as at_
  have hf:=hρ ro (by simp[Op.operands,Call.operands]);have ha:=Zfo (μ:=μ) (a:=as) λx hx=>hρ x (by simp[Op.operands,Call.operands];exact .inr hx);split at h
  ·rename_i t a hro
   rw[hro]at hf;split at h
   ·rename_i g e hm
    split at h
    ·rename_i hc
     split at h
     ·rename_i v hl
      cases h
      obtain⟨v',he,h1⟩:∃v',ρ' ro=.iface t v'/\VRel μ (.pointer (some a)) v':=by
       generalize ρ' ro=y at hf;cases hf with
       | iface _ _ v' h=>exact⟨v',rfl,h⟩
      obtain⟨r',g1,g2⟩:=Zgu (P:=P) hr h1 hl
      obtain⟨a',rfl⟩:∃a',v'=.pointer (some a'):=by
       cases h1 with
       | ptr b o p hb=>exact⟨_,rfl⟩
      refine⟨#[r']++as.map ρ',?_,(ARel.one g2).app ha⟩
      have hx:(#[Value.iface t (.pointer (some a'))]++as.map ρ').extract 1 (#[Value.iface t (.pointer (some a'))]++as.map ρ').size=as.map ρ':=by
       apply Array.ext';simp[YE]
      have h0:(#[Value.iface t (.pointer (some a'))]++as.map ρ')[0]? = some (.iface t (.pointer (some a'))):=by rw[Array.getElem?_append_left Xs];rfl
      simp only[execOp,resolve,he,Sem.run_bind,Sem.run_pure,Result.andThen_ok,invoke,h0,hx,callMethod,run_program];rw[show P.types.size+Made.depth=(P.types.size+(Made.depth-1))+1 from rfl,Zlw hm _ g1];simp only[Result.andThen_ok];exact Ze3 hc _
     ·cases h
    ·cases h
   ·cases h
  ·cases h
 ·cases h
theorem Zld{ρ ρ':Operand->Value}{o:Oper}{l:Nat}{args:Array Value}(hρ:∀x∈o.op.operands,VRel μ (ρ x) (ρ' x))(hr:ZgF ρ o.op=some (l,args)) :
  ∃args',(execOp ρ' o).run P w=(Instr.yield l args').run P w/\ARel μ args args':=by
 obtain⟨dst,op,type,pos,after,guard⟩:=o;dsimp only at hρ hr;unfold ZgF at hr;split at hr
 ·rename_i fo as at_
  have hf:=hρ fo (by simp[Op.operands,Call.operands]);have ha:=Zfo (μ:=μ) (a:=as) λx hx=>hρ x (by simp[Op.operands,Call.operands];exact .inr hx);split at hr
  ·rename_i g x y hfo
   rw[hfo]at hf;split at hr;rotate_left
   ·cases hr
   rename_i hxy
   cases hr
   have he:ρ' fo=.func (.yield l) #[] #[]:=by
    generalize ρ' fo=y at hf;cases hf with
    | func _ _ a' _ c' e1 e2 e3 e4 =>
     have h1:a'=#[]:=YZ (e1.symm.trans hxy.1);have h2:c'=#[]:=YZ (e3.symm.trans hxy.2);rw[h1,h2]
   refine⟨as.map ρ',?_,ha⟩;simp only[execOp,resolve,he,Deferred.ofValue,Sem.run_bind,Sem.run_pure,Result.andThen_ok,invoke,Array.empty_append]
  ·cases hr
 ·cases hr
end Go.Vd
