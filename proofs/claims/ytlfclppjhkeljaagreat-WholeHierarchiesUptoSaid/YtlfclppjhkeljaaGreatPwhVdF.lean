/- Texts. -/
import Derived.Test.YtlfclppjhkeljaaGreatPwhVdE
set_option linter.all false
open Array renaming getD_eq_getD_getElem?→YD,getElem?_eq_getElem→YH,getElem?_eq_none→Yca
open Option renaming getD_some→Yha
namespace Go.Vd
variable[Pins]
def pr{α:Type}(P:Program):Sem α->Option α
 | .pure a=>some a
 | .program k=>pr P (k P)
 | .mark _ k=>pr P k
 | _=>none
theorem Zi9{α:Type}{P:Program}{s:Sem α}{a:α}(h:pr P s=some a)(w:World):s.run P w=.ok a w:=by
 induction s with
 | pure b=>simp[pr]at h;subst h;rfl
 | program k ih=>exact ih P h
 | mark m k ih=>exact ih h
 | _=>simp[pr]at h
def Zbq:Value->Bool
 | .bool _ | .int _ _ | .string _ | .pointer none | .slice none 0 0 | .map none | .nilFunc | .nilIface=>true
 | _=>false
def Zfa:Value->Bool
 | .iface _ v=>Zbq v
 | v=>Zbq v
def plain:Value->Bool
 | .agg cs=>cs.toList.all Zfa
 | v=>Zfa v
theorem Zgs{μ:Mu}{v v':Value}(h:Zbq v=true)(r:VRel μ v v'):v'=v:=by
 cases r <;> first|rfl|(simp[Zbq]at h;done)
theorem Zfx(μ:Mu){v:Value}(h:Zbq v=true):VRel μ v v:=by
 unfold Zbq at h;split at h <;> first|constructor|cases h
theorem ZjF{μ:Mu}{v v':Value}(h:Zfa v=true)(r:VRel μ v v'):v'=v:=by
 cases r with
 | iface t x x' rx=>rw[Zgs h rx]
 | _=>first|rfl|(simp[Zfa,Zbq]at h;done)
theorem Zfw(μ:Mu){v:Value}(h:Zfa v=true):VRel μ v v:=by
 unfold Zfa at h;split at h
 ·exact .iface _ _ _ (Zfx μ h)
 ·exact Zfx μ h
theorem Zgc{μ:Mu}{v v':Value}(h:plain v=true)(r:VRel μ v v'):v'=v:=by
 cases r with
 | agg a a' e i =>
  have:a'=a:=by
   apply Array.ext_getElem?;intro j;by_cases hj:j<a.size
   ·have hj':j<a'.size:=Xo;have hi:=i j;simp only[YD,YH hj,YH hj',Yha]at hi
    have hp:Zfa a[j]=true:=by
     have:=List.all_eq_true.1 h a[j] Xs;exact this
    rw[YH hj,YH hj',ZjF hp hi]
   ·rw[Yca Xo,Yca Xo]
  rw[this]
 | iface t x x' rx=>exact ZjF (v:=.iface t x) h (.iface t x x' rx)
 | _=>first|rfl|(simp[plain,Zfa,Zbq]at h;done)
theorem ZaT(μ:Mu){v:Value}(h:plain v=true):VRel μ v v:=by
 unfold plain at h;split at h
 ·rename_i cs
  refine .agg _ _ rfl λi=>?_;simp only[YD];by_cases hi:i<cs.size
  ·rw[YH hi];exact Zfw μ (List.all_eq_true.1 h cs[i] Xs)
  ·rw[Yca Xo];exact .nilIface
 ·exact Zfw μ h
def ZgZ:TypeDesc->Bool
 | .struct _ | .array _ _=>true
 | _=>false
def ZbK(P:Program)(t:TypeId)(v:Value)(H:AH):Option Value:=
 match v with
 | .pointer (some ⟨b,o,none⟩) =>
  match P.underlying t,P.info? t with
  | some d,some i=>if ZgZ d then (H.cells b o i.size).map (λl=>.agg l.toArray) else H.cell b o
  | _,_=>none
 | _=>none
def Za2(P:Program)(op:BinOp)(t:TypeId)(x y:Operand)(a b:Value):Option Value:=
 if plain a && plain b then
  match pr P (do eqGuard op t x y a b;binOp op t a b) with
  | some r=>if plain r then some r else none
  | none=>none
 else
  match op,P.underlying t,a,b with
  | .eql,some (.interface _),.iface _ _,.nilIface | .eql,some (.interface _),.nilIface,.iface _ _=>some (.bool false)
  | .neq,some (.interface _),.iface _ _,.nilIface | .neq,some (.interface _),.nilIface,.iface _ _=>some (.bool true)
  | .eql,some (.pointer _),.pointer (some _),.pointer none | .eql,some (.pointer _),.pointer none,.pointer (some _)=>some (.bool false)
  | .neq,some (.pointer _),.pointer (some _),.pointer none | .neq,some (.pointer _),.pointer none,.pointer (some _)=>some (.bool true)
  | .eql,some (.slice _),.slice (some _) _ _,.slice none 0 0=>some (.bool false)
  | .neq,some (.slice _),.slice (some _) _ _,.slice none 0 0=>some (.bool true)
  | _,_,_,_=>none
def aUn(P:Program)(op:UnOp)(a:Value):Option Value:=
 if plain a then match pr P (Op.unary op a) with
  | some r=>if plain r then some r else none
  | none=>none
 else none
def Zmh(P:Program)(src dst:TypeId)(a:Value):Option Value:=
 match P.underlying src,P.underlying dst,a with
 | some (.int _),some (.int k),.int _ n=>some (.int k (k.wrap n))
 | _,_,_=>none
def Zma(P:Program)(t:TypeId)(cs:Array Value)(off:Nat):Option Value:=
 match P.underlying t,P.info? t with
 | some d,some i=>if ZgZ d then some (.agg (cs.extract off (off+i.size))) else cs[off]?
 | _,_=>none
def ZkI(P:Program)(t:TypeId)(v:Value)(f:Nat):Option Value:=
 match P.underlying t,v with
 | some (.struct fs),.agg cs =>
  match fs[f]? with
  | some fd=>Zma P fd.type cs fd.offset
  | none=>none
 | _,_=>none
def Zz(P:Program)(t:TypeId)(v:Value)(f:Nat):Option Value:=
 match P.underlying t,v with
 | some (.struct fs),.pointer (some ⟨b,o,none⟩) =>
  match fs[f]? with
  | some fd=>match P.info? fd.type with
   | some i=>if i.size=0 then none else some (.pointer (some ⟨b,o+fd.offset,none⟩))
   | none=>none
  | none=>none
 | _,_=>none
def ZO(P:Program)(t:TypeId)(v ix:Value):Option Value:=
 match P.underlying t,v,ix with
 | some (.slice e),.slice (some ⟨b,o,none⟩) len _,.int _ i =>
  match P.info? e with
  | some inf=>if 0≤i/\i<(len:Int) then some (.pointer (some ⟨b,o+i.toNat*inf.size,none⟩)) else none
  | none=>none
 | _,_,_=>none
def ZkK(P:Program)(t:TypeId)(v ix:Value):Option Value:=
 match P.underlying t,v,ix with
 | some .string,.string s,.int _ i=>match (if 0≤i then s[i.toNat]? else none) with
  | some b=>some (.int .u8 b.toNat)
  | none=>none
 | _,_,_=>none
def AObj.isLoose:AObj->Bool
 | .row (.loose _ _) _=>true
 | _=>false
def Z4(dflt:Nat):Option Value->Option Nat
 | none=>some dflt
 | some (.int _ i)=>if 0≤i then some i.toNat else none
 | some _=>none
def ZT(P:Program)(t:TypeId)(v:Value)(lo hi mx:Option Value)(H:AH):Option Value:=
 match P.underlying t,v,mx with
 | some (.slice e),.slice a len cap,none =>
  match P.info? e,Z4 0 lo,Z4 len hi with
  | some inf,some l,some h =>
   if l≤h/\h≤cap then
    match a with
    | none=>if cap=0/\l=0/\h=0 then some (.slice none 0 0) else none
    | some ⟨b,o,none⟩ =>
     match H.get b with
     | some ob=>if ob.isLoose=true∨l<cap then some (.slice (some ⟨b,o+l*inf.size,none⟩) (h-l) (cap-l))
      else match ob with
       | .row _ _=>some (.slice (some ⟨b,o,none⟩) (h-l) (cap-l))
       | _=>none
     | none=>none
    | some ad=>if cap=0 then some (.slice (some ad) 0 0) else none
   else none
  | _,_,_=>none
 | some (.slice e),.slice a _ _,some (.int _ m) =>
  match P.info? e,lo,hi with
  | some _,none,some (.int _ h)=>if m=0/\h=0 then (match a with
    | none=>some (.slice none 0 0)
    | some _=>some (.slice (some ⟨0,0,some 0⟩) 0 0)) else none
  | _,_,_=>none
 | _,_,_=>none
def Zb7(P:Program)(t:TypeId)(v:Value)(H:AH):Option Value:=
 match P.underlying t,v with
 | some (.slice _),.slice _ n _=>some (.int .i64 n)
 | some .string,.string s=>some (.int .i64 s.size)
 | some (.map _ _),.map none=>some (.int .i64 0)
 | some (.map _ _),.map (some b)=>match H.get b with
  | some (.map es _)=>some (.int .i64 es.length)
  | _=>none
 | _,_=>none
def Ziy(P:Program)(t:TypeId)(v:Value)(H:AH):Option Value:=
 match P.underlying t,v with
 | some (.slice _),.slice none _ c=>some (.int .i64 c)
 | some (.slice _),.slice (some ⟨b,_,none⟩) _ c=>match H.get b with
  | some ob=>match ob with
   | .row (.loose _ _) _=>none
   | .row _ _=>some (.int .i64 c)
   | _=>none
  | none=>none
 | _,_=>none
def Zg8(P:Program)(vs:List Value):Option Value:=
 if vs.all Zbq then match pr P (Builtin.max_ #[] 0 vs.toArray) with
  | some r=>if Zbq r then some r else none
  | none=>none
 else none
def Zhe(P:Program)(vs:List Value):Option Value:=
 if vs.all Zbq then match pr P (Builtin.min_ #[] 0 vs.toArray) with
  | some r=>if Zbq r then some r else none
  | none=>none
 else none
def ZjB(P:Program)(v:Value)(asserted:TypeId)(commaOk:Bool):Option Value:=
 let holds (x:Value):Option Value:=some (if commaOk then .tuple #[x,.bool true] else x)
 let fails:Option Value:=
  if commaOk then match P.info? asserted with
   | some i=>match i.zero with
    | some z=>if plain z then some (.tuple #[z,.bool false]) else none
    | none=>none
   | none=>none
  else none
 match P.underlying asserted,v with
 | some (.interface _),.nilIface=>fails
 | some (.interface want),.iface t x=>match P.info? t with
  | some i=>match Instr.missingMethod want i.methods with
   | none=>holds (.iface t x)
   | some _=>fails
  | none=>none
 | some _,.nilIface=>fails
 | some _,.iface t x=>if t=asserted then holds x else fails
 | _,_=>none
def Zix(v:Value)(i:Nat):Option Value:=
 match v with
 | .tuple vs=>vs[i]?
 | _=>none
def Zk1(P:Program)(t:TypeId)(parts:List (Nat×Value)):Option Value:=
 match P.underlying t,P.info? t with
 | some (.struct fs),some i=>match i.zero,fs.toList.mapM (λf=>(P.info? f.type).map λj=>(f.offset,j.size)) with
  | some z,some places=>if plain z then (Instr.fill (places.toArray[·]?) z.cells parts).map .agg else none
  | _,_=>none
 | _,_=>none
def ZgA(P:Program)(t:TypeId):Bool:=
 match P.underlying t with
 | some (.int _)|some .string|some .bool=>true
 | _=>false
def ZeG(d:TypeDesc)(k:Value):List (Value×Value)->Nat->Option (Option (Nat×Value))
 | [],_=>some none
 | e::es,i =>
  match Instr.sameNow d k e.1 with
  | some true=>some (some (i,e.2))
  | some false=>ZeG d k es (i+1)
  | none=>none
def ZdO(P:Program)(t:TypeId)(m k:Value)(ok:Bool)(H:AH):Option Value:=
 match P.underlying t with
 | some (.map kt et) =>
  match P.underlying kt,(P.info? et).bind (·.zero) with
  | some d,some z =>
   if ZgA P kt && plain z then
    match m with
    | .map none=>some (if ok then .tuple #[z,.bool false] else z)
    | .map (some b)=>match H.get b with
     | some (.map es _)=>match ZeG d k es 0 with
      | some (some (_,v))=>some (if ok then .tuple #[v,.bool true] else v)
      | some none=>some (if ok then .tuple #[z,.bool false] else z)
      | none=>none
     | _=>none
    | _=>none
   else none
  | _,_=>none
 | _=>none
def ZaG(P:Program)(ρ:Operand->Value)(H:AH):Op->Option Value
 | .move x | .assign x=>some (ρ x)
 | .pick c a b=>match ρ c with
  | .bool t=>some (if t then ρ a else ρ b)
  | _=>none
 | .load t a=>ZbK P t (ρ a) H
 | .nilCheck x=>match ρ x with
  | .pointer (some a)=>some (.pointer (some a))
  | .iface t v=>some (.iface t v)
  | .func (.func f) a c=>some (.func (.func f) a c)
  | _=>none
 | .binOp op t x y _=>Za2 P op t x y (ρ x) (ρ y)
 | .unOp op _ x=>aUn P op (ρ x)
 | .convert s d x=>Zmh P s d (ρ x)
 | .makeInterface t x=>match P.underlying t with
  | some (.interface _)=>none
  | some _=>some (.iface t (ρ x))
  | none=>none
 | .makeFunc fn a c=>some (.func fn (a.map ρ) (c.map ρ))
 | .slice t x lo hi mx=>ZT P t (ρ x) (lo.map ρ) (hi.map ρ) (mx.map ρ) H
 | .fieldAddr t x f=>Zz P t (ρ x) f
 | .field t x f=>ZkI P t (ρ x) f
 | .indexAddr t x i=>ZO P t (ρ x) (ρ i)
 | .index t x i=>ZkK P t (ρ x) (ρ i)
 | .lookup t m k ok=>ZdO P t (ρ m) (ρ k) ok H
 | .typeAssert x _ t ok=>ZjB P (ρ x) t ok
 | .extract t i=>Zix (ρ t) i
 | .build t parts=>Zk1 P t (parts.toList.map λp=>(p.1,ρ p.2))
 | .call { callee:=.builtin .len,args,argTypes }=>match args.toList,argTypes[0]? with
  | [x],some t=>Zb7 P t (ρ x) H
  | _,_=>none
 | .call { callee:=.builtin .cap,args,argTypes }=>match args.toList,argTypes[0]? with
  | [x],some t=>Ziy P t (ρ x) H
  | _,_=>none
 | .call { callee:=.builtin .max,args,argTypes:=_ }=>Zg8 P (args.toList.map ρ)
 | .call { callee:=.builtin .min,args,argTypes:=_ }=>Zhe P (args.toList.map ρ)
 | _=>none
end Go.Vd
