/- Texts. -/
import Derived.Test.YtlfclppjhkeljaaGreatPwhVdH
set_option linter.all false
open Bool renaming and_eq_true→YW,false_eq_true→Y5
open List renaming replicate→Ym,getElem?_map→Yfa,getElem?_append→Yba,length_map→YB,getElem?_eq_none→YQ,mem_cons_self→Yw,mem_cons_of_mem→Ys,mem_of_getElem?→YK
open Option renaming bind_some→Yk
namespace Go.Vd
variable[Pins]
def Zac(z:Value)(n:Nat):List Value:=(Ym n z.cells.toList).flatten
theorem Zf1(z:Array Value)(n:Nat):(Builtin.zeroCells z n).toList=(Ym n z.toList).flatten:=by
 induction n with
 | zero=>simp[Builtin.zeroCells]
 | succ n ih =>
  rw[List.replicate_succ',List.flatten_concat,← ih];apply List.ext_getElem?;intro i;simp only[Builtin.zeroCells,Array.toList_map,Array.toList_range,Yfa,Yba,YB,List.length_range,List.getElem?_range];have hm:(n+1)*z.size=n*z.size+z.size:=Nat.succ_mul _ _;by_cases h1:i<n*z.size
  ·rw[if_pos h1];simp[List.getElem?_range,h1,show i<(n+1)*z.size by omega]
  ·rw[if_neg h1];by_cases h2:i<n*z.size+z.size
   ·have h3:i % z.size=i-n*z.size:=by
     have hz:0<z.size:=Xo;obtain⟨q,hq⟩:∃q,i=q+n*z.size:=⟨i - n*z.size,Xo⟩;rw[hq,Nat.add_mul_mod_self_right,Nat.mod_eq_of_lt Xo];omega
    have h4:i-n*z.size<z.size:=Xo;simp[show i<(n+1)*z.size by omega,h3,h4]
   ·rw[YQ (by simp;omega),YQ (by simp;omega)];rfl
theorem ZhC(z:Array Value)(n:Nat):((Array.range (n*z.size)).map (z[· % z.size]!)).toList=(Ym n z.toList).flatten:=Zf1 z n
def Zy(l:List Value):Bool:=l.all Value.oneCell'
def Zem(b:Nat):Value:=.pointer (some ⟨b,0,none⟩)
def Zg2(P:Program)(ρ:Operand->Value):Op->Option (AObj×(Nat->Value))
 | .alloc t=>match (P.info? t).bind (·.zero) with
  | some z=>if plain z && Zy z.cells.toList then some (.row .own z.cells.toList,Zem) else none
  | none=>none
 | .box _ x=>if Zy (ρ x).cells.toList then some (.row .own (ρ x).cells.toList,Zem) else none
 | .buildSlice t len parts=>match P.underlying t with
  | some (.slice e)=>match P.info? e with
   | some i=>match i.zero with
    | some z =>
     if plain z && (z.cells.size == i.size) && decide (len*i.size≤2 ^ 24) && decide (0<i.size) then
      match Instr.fill (λj=>some (j*i.size,i.size)) (Zac z len).toArray (parts.toList.map λp=>(p.1,ρ p.2)) with
      | some cs=>if Zy cs.toList then some (.row .own cs.toList,λb=>.slice (some ⟨b,0,none⟩) len len) else none
      | none=>none
     else none
    | none=>none
   | none=>none
  | _=>none
 | .makeSlice t l c=>match P.underlying t,ρ l,ρ c with
  | some (.slice e),.int _ l,.int _ c=>match P.info? e with
   | some i=>match i.zero with
    | some z =>
     if plain z && (z.cells.size == i.size) && decide (0≤l/\l≤c/\c≤9223372036854775807/\i.bytes*c≤2 ^ 48) && Zy z.cells.toList then
      some (.row .own (Zac z c.toNat),λb=>.slice (some ⟨b,0,none⟩) l.toNat c.toNat)
     else none
    | none=>none
   | none=>none
  | _,_,_=>none
 | .makeMap _ none=>some (.map [] 0,λb=>.map (some b))
 | _=>none
variable{P:Program}{μ:Mu}{H:AH}{w:World}
theorem Ze4{s:Sem Value}{r:Value}{w w':World}(h:s.run P w=.ok r w'):(do pure (Next.value (← s)):Sem Next).run P w=.ok (.value r) w':=by
 simp only[Sem.run_bind,h,Result.andThen_ok,Sem.run_pure]
theorem Zih{μ':Mu}(w:World){cs cs':List Value}(ty:TypeId)(hl:LRel μ' cs cs')(h1:Zy cs=true) :
  ObjRel μ' (w.alloc (.cells cs'.toArray ty)) ⟨w.heap.size,0,0,1⟩ (.row .own cs):=by
 have:=RowRel.new (μ:=μ') (w:=w) (k:=.own) ty #[] 0 1 hl (λv hv=>List.all_eq_true.1 h1 v hv) rfl Xs Xs;show RowRel _ _ _ _ _;simpa using this
theorem ZlL{μ':Mu}{w:World}{b:Nat}(h:μ' b=some ⟨w.heap.size,0,0,1⟩):VRel μ' (Zem b) (.pointer (some ⟨w.heap.size,0,none⟩)):=.ptr b 0 _ h
theorem ZjI{μ':Mu}{w:World}{b l c:Nat}(h:μ' b=some ⟨w.heap.size,0,0,1⟩):VRel μ' (.slice (some ⟨b,0,none⟩) l c) (.slice (some ⟨w.heap.size,0,none⟩) l c):=.slice b 0 l c _ h
theorem Zh0{ρ ρ':Operand->Value}{o:Oper}{ob:AObj}{f:Nat->Value}(hρ:∀x∈o.op.operands,VRel μ (ρ x) (ρ' x))(hr:Zg2 P ρ o.op=some (ob,f)) :
  ∃o':Obj,∀w:World,∃v',(execOp ρ' o).run P w=.ok (.value v') (w.alloc o') /\
   ∀(μ':Mu) b,Le μ μ'->μ' b=some ⟨w.heap.size,0,0,1⟩->VRel μ' (f b) v'/\ObjRel μ' (w.alloc o') ⟨w.heap.size,0,0,1⟩ ob:=by
 obtain⟨dst,op,type,pos,after,guard⟩:=o;dsimp only at hρ hr;unfold Zg2 at hr;split at hr
 ·rename_i t
  cases hi:P.info? t with
  | none=>rw[hi]at hr;cases hr
  | some i =>
   cases hz:i.zero with
   | none=>rw[hi]at hr;simp[hz]at hr
   | some z =>
    rw[hi]at hr;simp only[Yk,hz]at hr;by_cases hc:(plain z && Zy z.cells.toList)=true
    ·rw[if_pos hc]at hr;cases hr;simp only[YW]at hc;refine⟨.cells z.cells t,λw=>⟨.pointer (some ⟨w.heap.size,0,none⟩),?_,λμ' b hle hb=>⟨ZlL hb,?_⟩⟩⟩
     ·refine Ze4 ?_;simp only[Instr.alloc,Sem.run_bind,Zdi hi hz,Result.andThen_ok,newVar,newRow,run_newObj,Sem.run_pure,World.alloc]
     ·have:=Zih (μ':=μ') w t (ARel.toList.1 (ZaT μ' hc.1).cells) hc.2;simpa using this
    ·rw[if_neg hc]at hr;cases hr
 ·rename_i t x
  have hx:=hρ x (by simp[Op.operands]);by_cases hc:Zy (ρ x).cells.toList=true
  ·rw[if_pos hc]at hr;cases hr;refine⟨.cells (ρ' x).cells t,λw=>⟨.pointer (some ⟨w.heap.size,0,none⟩),?_,λμ' b hle hb=>⟨ZlL hb,?_⟩⟩⟩
   ·refine Ze4 ?_;simp only[Instr.box,Sem.run_bind,newVar,newRow,run_newObj,Result.andThen_ok,Sem.run_pure,World.alloc]
   ·have:=Zih (μ':=μ') w t (ARel.toList.1 (hx.mono hle).cells) hc;simpa using this
  ·rw[if_neg hc]at hr;cases hr
 ·rename_i t len parts
  split at hr
  ·rename_i e hu
   split at hr
   ·rename_i i hi
    split at hr
    ·rename_i z hz
     by_cases hc:(plain z && (z.cells.size == i.size) && decide (len*i.size≤2 ^ 24) && decide (0<i.size))=true
     ·rw[if_pos hc]at hr;simp only[YW,beq_iff_eq,decide_eq_true_eq]at hc;obtain⟨⟨⟨c1,c2⟩,c3⟩,c4⟩:=hc;split at hr
      ·rename_i cs hf
       by_cases hone:Zy cs.toList=true
       ·rw[if_pos hone]at hr;cases hr
        have hp:∀μ',Le μ μ'->All2 (λp p'=>p.1=p'.1/\VRel μ' p.2 p'.2) (parts.toList.map λp=>(p.1,ρ p.2)) (parts.toList.map λp=>(p.1,ρ' p.2)):=by
         intro μ' hle;have:∀p∈parts.toList,VRel μ' (ρ p.2) (ρ' p.2):=λp hp=>(hρ p.2 (by simp only[Op.operands,List.mem_toArray,List.mem_map];exact⟨p,hp,rfl⟩)).mono hle;generalize parts.toList=l at this;induction l with
         | nil=>exact .nil
         | cons x l ih=>exact .cons ⟨rfl,this x (Yw ..)⟩ (ih λy hy=>this y (Ys _ hy))
        have hzr:∀μ',ARel μ' (Zac z len).toArray (Zac z len).toArray:=by
         intro μ';rw[ARel.toList];refine⟨rfl,λj a b ha hb=>?_⟩;rw[ha]at hb;cases hb;have hm:=YK ha;simp only[Zac]at hm;obtain⟨l,hl,hal⟩:=List.mem_flatten.1 hm;rw[(List.mem_replicate.1 hl).2]at hal;obtain⟨q,hq⟩:=List.mem_iff_getElem?.1 hal;exact (ARel.toList.1 (ZaT μ' c1).cells).2 q a a hq hq
        obtain⟨cs',f1,f2⟩:=Zkm (μ:=μ) _ _ _ _ _ _ (hp μ (.refl _)) (hzr μ) hf;refine⟨.cells cs' e,λw=>⟨.slice (some ⟨w.heap.size,0,none⟩) len len,?_,λμ' b hle hb=>⟨ZjI hb,?_⟩⟩⟩
        ·refine Ze4 ?_;have hparts:(parts.map λ(i,x)=>(i,ρ' x)).toList=parts.toList.map λp=>(p.1,ρ' p.2):=Xs
         have hz0:(Array.range (len*i.size)).map (z.cells[· % z.cells.size]!)=(Zac z len).toArray:=by
          apply Array.ext';rw[← c2,ZhC];rfl
         by_cases h0:len*i.size=0
         ·have hl0:len=0:=by
           rcases Nat.mul_eq_zero.1 h0 with h|h
           ·exact h
           ·omega
          have hzz:(Zac z len).toArray=#[]:=by rw[hl0];rfl
          have hz1:(Array.range (len*i.size)).map (λj=>(#[]:Array Value)[j % (#[]:Array Value).size]!)=(Zac z len).toArray:=by
           rw[hzz,h0];simp
          simp only[Instr.buildSlice,Sem.run_bind,ZL hu,Result.andThen_ok,ZaQ hi,Sem.run_ite,show ¬(0:Nat)>2 ^ 24 by decide,if_false,Sem.run_pure,h0,if_true];rw[h0]at hz1;rw[hz1,hparts,f1];simp only[Sem.run_bind,newRow,run_newObj,Result.andThen_ok,Sem.run_pure,World.alloc]
         ·simp only[Instr.buildSlice,Sem.run_bind,ZL hu,Result.andThen_ok,ZaQ hi,Sem.run_ite,show ¬len*i.size>2 ^ 24 by omega,if_false,Sem.run_pure,h0,Zdi hi hz];rw[hz0,hparts,f1];simp only[Sem.run_bind,newRow,run_newObj,Result.andThen_ok,Sem.run_pure,World.alloc]
        ·have:=Zih (μ':=μ') w e (ARel.toList.1 (f2.mono hle)) hone;simpa using this
       ·rw[if_neg hone]at hr;cases hr
      ·cases hr
     ·rw[if_neg hc]at hr;cases hr
    ·cases hr
   ·cases hr
  ·cases hr
 ·rename_i t lo co
  split at hr
  ·rename_i e k l k' c hu hl hcv
   have hl':=hρ lo (by simp[Op.operands]);have hc':=hρ co (by simp[Op.operands]);rw[hl]at hl';rw[hcv]at hc';split at hr
   ·rename_i i hi
    split at hr
    ·rename_i z hz
     by_cases hc:(plain z && (z.cells.size == i.size) && decide (0≤l/\l≤c/\c≤9223372036854775807/\i.bytes*c≤2 ^ 48) && Zy z.cells.toList)=true
     ·rw[if_pos hc]at hr;cases hr;simp only[YW,beq_iff_eq,decide_eq_true_eq]at hc;obtain⟨⟨⟨c1,c2⟩,c3,c4,c5,c6⟩,c7⟩:=hc;have el:ρ' lo=.int k l:=by generalize ρ' lo=y at hl';cases hl';rfl
      have ec:ρ' co=.int k' c:=by generalize ρ' co=y at hc';cases hc';rfl
      have hz0:(Array.range (c.toNat*i.size)).map (z.cells[· % z.cells.size]!)=(Zac z c.toNat).toArray:=by
       apply Array.ext';rw[← c2,ZhC];rfl
      refine⟨.cells (Zac z c.toNat).toArray e,λw=>⟨.slice (some ⟨w.heap.size,0,none⟩) l.toNat c.toNat,?_,λμ' b hle hb=>⟨ZjI hb,?_⟩⟩⟩
      ·refine Ze4 ?_;have w1:IntKind.i64.wrap l=l:=Zg7 Xo Xo;have w2:IntKind.i64.wrap c=c:=Zg7 Xo Xo
       have t1:(decide (c<0) || decide ((i.bytes:Int)*c>2 ^ 48))=false:=by
        rw[Bool.or_eq_false_iff];exact⟨decide_eq_false Xo,decide_eq_false Xo⟩
       have t2:(decide (l<0) || decide (l>c))=false:=by
        rw[Bool.or_eq_false_iff];exact⟨decide_eq_false Xo,decide_eq_false Xo⟩
       have cond:((c<0 || (i.bytes:Int)*c>2 ^ 48) || l<0 || l>c)=false:=by
        rw[Bool.or_assoc,t2];simpa using t1
       simp only[Instr.makeSlice,Sem.run_bind,ZL hu,Result.andThen_ok,el,ec,asInt,asIntOf,Sem.run_pure,ZcZ hi,w1,w2,cond,Y5,if_false,Sem.run_ite,run_askRoom,ZaQ hi];by_cases h0:c.toNat*i.size=0
       ·have hz1:(Array.range (c.toNat*i.size)).map (λj=>(#[]:Array Value)[j % (#[]:Array Value).size]!)=(Zac z c.toNat).toArray:=by
         rw[← hz0,h0];simp
        rw[if_pos h0];simp only[Result.andThen_ok,newRow,Sem.run_bind,run_newObj,Sem.run_pure,World.alloc,hz1]
       ·rw[if_neg h0];simp only[Zdi hi hz,Result.andThen_ok,newRow,Sem.run_bind,run_newObj,Sem.run_pure,World.alloc,hz0]
      ·refine Zih (μ':=μ') w e ⟨rfl,λj a b ha hb=>?_⟩ ?_
       ·rw[ha]at hb;cases hb;have hm:=YK ha;obtain⟨l,hl,hal⟩:=List.mem_flatten.1 hm;rw[(List.mem_replicate.1 hl).2]at hal;obtain⟨q,hq⟩:=List.mem_iff_getElem?.1 hal;exact (ARel.toList.1 (ZaT μ' c1).cells).2 q a a hq hq
       ·rw[Zy,List.all_eq_true];intro a hm;obtain⟨l,hl,hal⟩:=List.mem_flatten.1 hm;rw[(List.mem_replicate.1 hl).2]at hal;exact List.all_eq_true.1 c7 a hal
     ·rw[if_neg hc]at hr;cases hr
    ·cases hr
   ·cases hr
  ·cases hr
 ·cases hr
  refine⟨.map #[] 0,λw=>⟨.map (some w.heap.size),Ze4 (by simp only[Instr.makeMap,Option.map_none,Sem.run_bind,Result.andThen_ok,run_newObj,Sem.run_pure,World.alloc]),λμ' b hle hb=>⟨.map b _ hb,?_⟩⟩⟩;exact⟨#[],by rw[ZdW,if_pos rfl],.nil⟩
 ·cases hr
end Go.Vd
