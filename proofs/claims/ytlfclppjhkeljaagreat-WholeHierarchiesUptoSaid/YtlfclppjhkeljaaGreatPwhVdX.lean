/- Texts. -/
import Derived.Test.YtlfclppjhkeljaaGreatPwhVdV
set_option linter.all false
open Option renaming map_some→Yda,bind_some→Yk
namespace Go.Vd
variable[Pins]
variable{P:Program}{N:Nat}{ops:Array Oper}{K:AAct->AH->Prop}{α:AAct}{H:AH}
def Zii(P:Program)(ops:Array Oper)(o:Oper)(α:AAct):Option (FuncId×Array Value):=
 if Region.wanted o (ZZ ops α)=true then match cls o.op with
  | .call=>ZeC P (ZY α) o.op
  | _=>none
 else none
theorem ZfU{o:Oper}{x:FuncId×Array Value}(h:Zii P ops o α=some x):Region.wanted o (ZZ ops α)=true/\cls o.op=.call/\ZeC P (ZY α) o.op=some x:=by
 unfold Zii at h;split at h
 ·rename_i hg
  split at h
  ·rename_i hc;exact⟨hg,hc,h⟩
  ·cases h
 ·cases h
def ZjC(P:Program)(ops:Array Oper)(o:Oper)(α:AAct)(H:AH):Option (Value×AH):=
 if Region.wanted o (ZZ ops α)=true then match cls o.op with
  | .eff=>ZiH P (ZY α) H o.op
  | _=>none
 else none
theorem Zgo{o:Oper}{x:Value×AH}(h:ZjC P ops o α H=some x):Region.wanted o (ZZ ops α)=true/\cls o.op=.eff/\ZiH P (ZY α) H o.op=some x:=by
 unfold ZjC at h;split at h
 ·rename_i hg
  split at h
  ·rename_i hc;exact⟨hg,hc,h⟩
  ·cases h
 ·cases h
def ZdD(P:Program)(ops:Array Oper)(o:Oper)(α:AAct):Option (AObj×(Nat->Value)):=
 if Region.wanted o (ZZ ops α)=true then match cls o.op with
  | .new=>Zg2 P (ZY α) o.op
  | _=>none
 else none
theorem Za1{o:Oper}{x:AObj×(Nat->Value)}(h:ZdD P ops o α=some x):Region.wanted o (ZZ ops α)=true/\cls o.op=.new/\Zg2 P (ZY α) o.op=some x:=by
 unfold ZdD at h;split at h
 ·rename_i hg
  split at h
  ·rename_i hc;exact⟨hg,hc,h⟩
  ·cases h
 ·cases h
theorem Z8:Zy []=true:=rfl
theorem Zp{v:Value}{l:List Value}(h:v.oneCell'=true)(hl:Zy l=true):Zy (v::l)=true:=by
 unfold Zy at *;rw[List.all_cons,h,hl];rfl
theorem Sl.form{E:Type}{enc:E->List Value}{sz:Nat}{s:Value}{xs:List E}(h:Sl enc sz H s xs):∃a n c,s=.slice a n c:=by
 rcases h.is with ⟨rfl,_⟩|⟨b,o,c,k,cs,rfl,_⟩
 ·exact⟨_,_,_,rfl⟩
 ·exact⟨_,_,_,rfl⟩
theorem Zmi{t:TypeId}{b p:Nat}{cs vs:List Value}{x:Value}(hw:WF H)(h:Row H b cs)(hx:x.cells.toList=vs)(hs:(P.info? t).map (·.size)=some vs.length)(h1:Zy vs=true)(hl:p+vs.length≤cs.length) :
  ∃H',ZcW P t (.pointer (some ⟨b,p,none⟩)) x H=some H'/\Fr b H H'/\Row H' b (Zaa cs p vs)/\H'.next=H.next:=by
 obtain⟨H',g1,g2⟩:=h.put (vs:=vs) (o:=p) hw hl;refine⟨H',?_,g2⟩;unfold ZcW;cases hi:P.info? t with
 | none=>rw[hi]at hs;cases hs
 | some i =>
  rw[hi]at hs;simp only[Yda,Option.some.injEq]at hs;dsimp only;rw[hx,if_pos ⟨by rw[← Array.length_toList,hx,hs],h1⟩];exact g1
section seq
variable{o:Oper}{rest:List Oper}
theorem Zpt(hw:WF H)(cs:List Value)(h1:Zy cs=true)(h:ZdD P ops o α=if Zy cs=true then some (.row .own cs,Zem) else none)
  (k:∀b H',Ext H H'->b=H.next->Row H' b cs->Zs P ops K rest (α.put o.dst (.pointer (some ⟨b,0,none⟩))) H'):Zs P ops K (o::rest) α H:=by
 rw[if_pos h1]at h;exact Zop hw cs (Za1 h).1 (Za1 h).2.1 (Za1 h).2.2 k
theorem Zjz(f:FuncId)(args:Array Value){K':Value->AH->Prop}(h:Zii P ops o α=some (f,args))(hf:ACalls P f args H K')(k:∀v H',K' v H'->Zs P ops K rest (α.put o.dst v) H'):Zs P ops K (o::rest) α H:=
 s_c f args (ZfU h).1 (ZfU h).2.1 (ZfU h).2.2 hf k
theorem Zb5(v:Value){H':AH}{x:Option (Value×AH)}(h1:ZjC P ops o α H=x)(h:x=some (v,H'))(k:Zs P ops K rest (α.put o.dst v) H'):Zs P ops K (o::rest) α H:=
 s_e v H' (Zgo (h1.trans h)).1 (Zgo (h1.trans h)).2.1 (Zgo (h1.trans h)).2.2 k
theorem ZpA(hw:WF H)(cs:List Value)(h:ZdD P ops o α=some (.row .own cs,Zem))
  (k:∀b H',Ext H H'->b=H.next->Row H' b cs->Zs P ops K rest (α.put o.dst (.pointer (some ⟨b,0,none⟩))) H'):Zs P ops K (o::rest) α H:=
 Zop hw cs (Za1 h).1 (Za1 h).2.1 (Za1 h).2.2 k
end seq
def ZeK{β:Type}(ops:Array Oper)(i:Nat)(f:Oper->Option β):Option β:=
 match ops[i]? with
 | some o=>f o
 | none=>none
theorem Zeu{β:Type}{i:Nat}{f:Oper->Option β}{x:β}(h:ZeK ops i f=some x):∃o,ops[i]? = some o/\f o=some x:=by
 unfold ZeK at h;split at h
 ·rename_i o ho;exact⟨o,ho,h⟩
 ·cases h
def lookQ(P:Program)(ops:Array Oper)(i:Nat)(α:AAct)(H:AH):Option Value:=ZeK ops i λo=>ZaG P (ZY α) H o.op
theorem Zx{tbl:List (List Nat)}{e:Nat}:ZcO P ops tbl e H []:=trivial
theorem ZP{tbl:List (List Nat)}{e:Nat}{x:Nat×AAct×Value}{l:List (Nat×AAct×Value)}(h:Zfi tbl x.1 e=true)(hl:ZcO P ops tbl e H l):ZcO P ops tbl e H (x::l):=by
 refine⟨?_,hl⟩;rw[if_pos h];trivial
theorem Z6{tbl:List (List Nat)}{e:Nat}{i:Nat}{α0:AAct}{v:Value}{l:List (Nat×AAct×Value)}{y:Option Value}(h1:lookQ P ops i α0 H=y)(h:y=some v)(hl:ZcO P ops tbl e H l):ZcO P ops tbl e H ((i,α0,v)::l):=by
 refine⟨?_,hl⟩;split
 ·trivial
 ·obtain⟨o,ho,hq⟩:=Zeu (h1.trans h);dsimp only;rw[ho];exact hq
section draw
variable{tbl:List (List Nat)}{i:Nat}{rest:List Nat}{fl:List (Nat×AAct×Value)}
theorem ZgV{o:Oper}(ho:ops[i]? = some o):Zab ops i=o.dst:=by simp only[Zab,ho,Yk]
def stepF(P:Program)(ops:Array Oper)(tbl:List (List Nat))(i:Nat)(rest:List Nat)(α:AAct)(H:AH):Option Value:=
 ZeK ops i λo=>if !Zeo P o.op && ZgU ops tbl i rest then ZbJ P ops o α H else none
theorem Za3(v:Value){x:Option Value}(h1:stepF P ops tbl i rest α H=x)(h:x=some v)(k:Zu P ops tbl K rest ((i,α,v)::fl) (α.put (Zab ops i) v) H):Zu P ops tbl K (i::rest) fl α H:=by
 obtain⟨o,ho,hq⟩:=Zeu (h1.trans h);split at hq
 ·rename_i hf
  have hs:=Ze6 hq;refine d_qf o v ho hs.1 hs.2.1 hs.2.2 hf ?_;rw[← ZgV ho];exact k
 ·cases hq
theorem d_ck(f:FuncId)(args:Array Value){K':Value->AH->Prop}(h:ZeK ops i (λo=>Zii P ops o α)=some (f,args))(hf:ACalls P f args H K')
  (k:∀v H',K' v H'->ZcO P ops tbl i H' fl/\Zu P ops tbl K rest fl (α.put (Zab ops i) v) H'):Zu P ops tbl K (i::rest) fl α H:=by
 obtain⟨o,ho,hq⟩:=Zeu h;have hs:=ZfU hq;refine d_c o f args ho hs.1 hs.2.1 hs.2.2 hf ?_;rw[← ZgV ho];exact k
theorem Zfu(v:Value){H':AH}{x:Option (Value×AH)}(h1:ZeK ops i (λo=>ZjC P ops o α H)=x)(h:x=some (v,H'))(hst:ZcO P ops tbl i H' fl)(k:Zu P ops tbl K rest fl (α.put (Zab ops i) v) H'):Zu P ops tbl K (i::rest) fl α H:=by
 obtain⟨o,ho,hq⟩:=Zeu (h1.trans h);have hs:=Zgo hq;refine d_e o v H' ho hs.1 hs.2.1 hs.2.2 hst ?_;rw[← ZgV ho];exact k
theorem Zpu(hw:WF H)(cs:List Value)(h1:Zy cs=true)(h:ZeK ops i (λo=>ZdD P ops o α)=if Zy cs=true then some (.row .own cs,Zem) else none)
  (k:∀b H',Ext H H'->b=H.next->Row H' b cs->Zu P ops tbl K rest fl (α.put (Zab ops i) (.pointer (some ⟨b,0,none⟩))) H'):Zu P ops tbl K (i::rest) fl α H:=by
 rw[if_pos h1]at h;obtain⟨o,ho,hq⟩:=Zeu h;have hs:=Za1 hq;refine d_n o _ _ ho hs.1 hs.2.1 hs.2.2 ?_;rw[← ZgV ho];exact k H.next _ (ZdB hw cs).1 rfl (ZdB hw cs).2
theorem ZpJ(hw:WF H)(cs:List Value)(h:ZeK ops i (λo=>ZdD P ops o α)=some (.row .own cs,Zem))
  (k:∀b H',Ext H H'->b=H.next->Row H' b cs->Zu P ops tbl K rest fl (α.put (Zab ops i) (.pointer (some ⟨b,0,none⟩))) H'):Zu P ops tbl K (i::rest) fl α H:=by
 obtain⟨o,ho,hq⟩:=Zeu h;have hs:=Za1 hq;refine d_n o _ _ ho hs.1 hs.2.1 hs.2.2 ?_;rw[← ZgV ho];exact k H.next _ (ZdB hw cs).1 rfl (ZdB hw cs).2
end draw
theorem Zjs{α β:Type}(s:Sem α)(f:α->Sem β):pr P (s >>= f)=(pr P s).bind λa=>pr P (f a):=by
 show pr P (Sem.bind s f)=_;induction s with
 | pure a=>rfl
 | program k ih=>exact ih P
 | mark m k ih=>exact ih
 | _=>rfl
theorem ZpM{t:TypeId}{d:TypeDesc}(h:P.underlying t=some d):pr P (underlying t)=some d:=by
 show pr P (match P.underlying t with | some d => (pure d : Sem TypeDesc) | none => stuck "no such type") = some d;rw[h];rfl
def ZkD(P:Program)(t:TypeId):Bool:=match P.underlying t with
 | some (.interface _)=>true
 | _=>false
theorem ZhY{t:TypeId}(h:ZkD P t=true):∃ms,P.underlying t=some (.interface ms):=by
 unfold ZkD at h;split at h
 ·rename_i e he;exact⟨e,he⟩
 ·cases h
theorem ZjO{t ti:TypeId}{v:Value}(h:ZkD P t=true):pr P (Op.equal t (.iface ti v) .nilIface)=some false:=by
 obtain⟨ms,hu⟩:=ZhY h;unfold Op.equal Op.maxDepth;rw[Op.equalIn,Zjs,ZpM hu];rfl
theorem Znv{t ti:TypeId}{v:Value}{x y:Operand}(h:ZkD P t=true):Za2 P .eql t x y (.iface ti v) .nilIface=some (.bool false):=by
 unfold Za2;split
 ·have:pr P (do eqGuard .eql t x y (.iface ti v) .nilIface;binOp .eql t (.iface ti v) .nilIface)=some (.bool false):=by
   show pr P (do pure (Value.bool (← Op.equal t (.iface ti v) .nilIface)))=_;rw[Zjs,ZjO h];rfl
  rw[this];rfl
 ·obtain⟨ms,hu⟩:=ZhY h;simp only[hu]
theorem Z1{t ti:TypeId}{v:Value}{x y:Operand}(h:ZkD P t=true):Za2 P .neq t x y (.iface ti v) .nilIface=some (.bool true):=by
 unfold Za2;split
 ·have:pr P (do eqGuard .neq t x y (.iface ti v) .nilIface;binOp .neq t (.iface ti v) .nilIface)=some (.bool true):=by
   show pr P (do pure (Value.bool (!(← Op.equal t (.iface ti v) .nilIface))))=_;rw[Zjs,ZjO h];rfl
  rw[this];rfl
 ·obtain⟨ms,hu⟩:=ZhY h;simp only[hu]
end Go.Vd
