/- Texts. -/
import Derived.Test.YtlfclppjhkeljaaGreatPwhVdL
set_option linter.all false
open Bool renaming and_eq_true→YW
open List renaming mem_cons_of_mem→Ys,mem_cons_self→Yw,getD_eq_getElem?_getD→Yl,getElem?_append→Yba,getElem?_append_right→YV,getElem?_eq_none→YQ
open Nat renaming le_refl→Yj
namespace Go.Vd
variable[Pins]
def ZfW(o:Oper):List Nat:=(o.after.toList.filter (Region.binds .any)).map (·.on)
inductive Anc(ops:Array Oper):Nat->Nat->Prop
 | edge {i k:Nat} {o:Oper}:ops[k]? = some o->i∈ZfW o->Anc ops i k
 | trans {i j k:Nat} {o:Oper}:ops[k]? = some o->j∈ZfW o->Anc ops i j->Anc ops i k
def ZhK(s:List Nat)(x:Nat):List Nat:=if s.contains x then s else x::s
def ZgX(acc:List (List Nat))(o:Oper):List Nat:=(ZfW o).foldl (λs e=>(e::acc.getD e []).foldl ZhK s) []
def Zcr(ops:List Oper):List (List Nat):=ops.foldl (λacc o=>acc++[ZgX acc o]) []
def Zfi(tbl:List (List Nat))(i k:Nat):Bool:=(tbl.getD k []).contains i
def ZdX(o:Oper):Bool:=match cls o.op with | .eff | .call=>true|_=>false
def Zeo(P:Program):Op->Bool
 | .move _ | .assign _ | .pick _ _ _ | .nilCheck _ | .binOp .. | .unOp .. | .convert .. | .makeInterface .. | .makeFunc .. | .fieldAddr .. | .field .. | .indexAddr .. | .index .. | .typeAssert .. | .extract .. | .build .. => true
 | .call { callee:=.builtin .len,argTypes,.. }=>match argTypes[0]? with
  | some t=>match P.underlying t with
   | some (.map _ _)=>false
   | _=>true
  | none=>true
 | .call { callee:=.builtin .max,.. } | .call { callee:=.builtin .min,.. }=>true
 | _=>false
def Zkc(ops:Array Oper)(tbl:List (List Nat)):List Nat->List Nat->Bool
 | _,[]=>true
 | seen,i::rest=>match ops[i]? with
  | some o=>(ZfW o).all (λe=>seen.contains e) && !seen.contains i && !rest.contains i && (!ZdX o || rest.all (Zfi tbl i)) && Zkc ops tbl (i::seen) rest
  | none=>false
def ZhD(N:Nat)(ops:Array Oper)(ord:List Nat):Bool:=
 let tbl:=Zcr ops.toList
 ZfA N ops.toList && (List.range ops.size).all (λi=>ord.contains i) && Zkc ops tbl [] ord &&
 (List.range ops.size).all λi=>(List.range ops.size).all λj=>i == j || Zfi tbl i j || Zfi tbl j i || (match ops[i]?,ops[j]? with|some x,some y=>x.apart ops y|_,_=>true)
def ZjD(ops:Array Oper)(e:Nat):Bool:=
 match ops[e]? with
 | some o=>ZdX o
 | none=>false
def ZgU(ops:Array Oper)(tbl:List (List Nat))(i:Nat)(rest:List Nat):Bool:=
 rest.any λe=>ZjD ops e && !Zfi tbl i e
def ZcO(P:Program)(ops:Array Oper)(tbl:List (List Nat))(e:Nat)(H:AH):List (Nat×AAct×Value)->Prop
 | []=>True
 | x::l=>(if Zfi tbl x.1 e=true then True else match ops[x.1]? with
   | some o=>ZaG P (ZY x.2.1) H o.op=some x.2.2
   | none=>False)/\ZcO P ops tbl e H l
def Zu(P:Program)(ops:Array Oper)(tbl:List (List Nat))(K:AAct->AH->Prop):List Nat->List (Nat×AAct×Value)->AAct->AH->Prop
 | [],_,α,H=>K α H
 | i::rest,fl,α,H=>match ops[i]? with
  | none=>False
  | some o =>
   if Region.wanted o (ZZ ops α)=true then
    Zcq P o.op (ZY α) H λv H'=>(ZdX o=true->ZcO P ops tbl i H' fl) /\
     Zu P ops tbl K rest (if cls o.op=.quiet/\Zeo P o.op=false/\ZgU ops tbl i rest=true then (i,α,v)::fl else fl) (α.put o.dst v) H'
   else Zu P ops tbl K rest fl (α.put o.dst undef) H
theorem Zl0{s:List Nat}{x y:Nat}(h:y∈ZhK s x):y=x∨y∈s:=by
 unfold ZhK at h;split at h
 ·exact .inr h
 ·exact List.mem_cons.1 h
theorem ZiI{l s:List Nat}{y:Nat}(h:y∈l.foldl ZhK s):y∈l∨y∈s:=by
 induction l generalizing s with
 | nil=>exact .inr h
 | cons a l ih =>
  rcases ih h with h|h
  ·exact .inl (Ys _ h)
  ·rcases Zl0 h with rfl|h
   ·exact .inl (Yw ..)
   ·exact .inr h
theorem Zlu{acc:List (List Nat)}{o:Oper}{y:Nat}(h:y∈ZgX acc o):∃e∈ZfW o,y=e∨y∈acc.getD e []:=by
 unfold ZgX at h
 have:∀(l s:List Nat),y∈l.foldl (λs e=>(e::acc.getD e []).foldl ZhK s) s->(∃e∈l,y=e∨y∈acc.getD e [])∨y∈s:=by
  intro l;induction l with
  | nil=>exact λs h=>.inr h
  | cons a l ih =>
   intro s h;rcases ih _ h with ⟨e,he,hy⟩|h
   ·exact .inl ⟨e,Ys _ he,hy⟩
   ·rcases ZiI h with h|h
    ·rcases List.mem_cons.1 h with rfl|h
     ·exact .inl ⟨_,Yw ..,.inl rfl⟩
     ·exact .inl ⟨a,Yw ..,.inr h⟩
    ·exact .inr h
 rcases this _ _ h with h|h
 ·exact h
 ·cases h
theorem Zku(ops:Array Oper):∀k i,i∈(Zcr ops.toList).getD k []->Anc ops i k:=by
 have key:∀(l2 l1:List Oper) (acc:List (List Nat)),l1++l2=ops.toList->acc.length=l1.length->(∀k i,i∈acc.getD k []->Anc ops i k) ->
   ∀k i,i∈(l2.foldl (λacc o=>acc++[ZgX acc o]) acc).getD k []->Anc ops i k:=by
  intro l2;induction l2 with
  | nil=>intro l1 acc _ _ h;exact h
  | cons o l2 ih =>
   intro l1 acc he hl h;refine ih (l1++[o]) (acc++[ZgX acc o]) (by simpa using he) (by simp[hl]) λk i hi=>?_;rw[Yl,Yba]at hi;by_cases hk:k<acc.length
   ·rw[if_pos hk]at hi;exact h k i (by rw[Yl];exact hi)
   ·rw[if_neg hk]at hi;by_cases hk2:k=acc.length
    ·subst hk2;simp at hi
     have ho:ops[acc.length]? = some o:=by
      rw[← Array.getElem?_toList,← he,hl,YV (Yj _)];simp
     obtain⟨e,he,hy⟩:=Zlu hi;rcases hy with rfl|hy
     ·exact .edge ho he
     ·exact .trans ho he (h e i hy)
    ·rw[YQ (by simp;omega)]at hi;simp at hi
 exact key ops.toList [] [] rfl rfl Xs
theorem ZfT{ops:Array Oper}{i k:Nat}(h:Zfi (Zcr ops.toList) i k=true):Anc ops i k:=
 Zku ops k i (by simpa [Zfi] using h)
theorem ZmC{ops:Array Oper}{tbl:List (List Nat)}:∀(l seen:List Nat),Zkc ops tbl seen l=true->∀(A B:List Nat) (i:Nat),l=A++i::B ->
  ∃o,ops[i]? = some o/\(∀e∈ZfW o,e∈A∨e∈seen)/\i∉seen/\i∉A/\i∉B/\(ZdX o=true->∀j∈B,Zfi tbl i j=true):=by
 intro l;induction l with
 | nil=>intro seen _ A B i he;cases A <;> cases he
 | cons x l ih =>
  intro seen h A B i he;simp only[Zkc]at h;cases ho:ops[x]? with
  | none=>rw[ho]at h;cases h
  | some o =>
   rw[ho]at h;simp only[YW,Bool.not_eq_true',Bool.or_eq_true]at h;obtain⟨⟨⟨⟨h1,h2⟩,h3⟩,h4⟩,h5⟩:=h;cases A with
   | nil =>
    simp only[List.nil_append,List.cons.injEq]at he;obtain⟨rfl,rfl⟩:=he;refine⟨o,ho,λe he=>.inr ?_,by simpa using h2,Xs,by simpa using h3,λhf=>?_⟩
    ·simpa using List.all_eq_true.1 h1 e he
    ·rcases h4 with h4|h4
     ·rw[hf]at h4;cases h4
     ·exact λj hj=>List.all_eq_true.1 h4 j hj
   | cons y A =>
    simp only[List.cons_append,List.cons.injEq]at he;obtain⟨rfl,rfl⟩:=he;obtain⟨o',g1,g2,g3,g4,g5,g6⟩:=ih (x::seen) h5 A B i rfl;refine⟨o',g1,λe he=>?_,λhm=>g3 (Ys _ hm),λhm=>?_,g5,g6⟩
    ·rcases g2 e he with h|h
     ·exact .inl (Ys _ h)
     ·rcases List.mem_cons.1 h with rfl|h
      ·exact .inl (Yw ..)
      ·exact .inr h
    ·rcases List.mem_cons.1 hm with rfl|hm
     ·exact g3 (Yw ..)
     ·exact g4 hm
structure Ord(N:Nat)(ops:Array Oper)(ord:List Nat):Prop where
 ok:ZfA N ops.toList=true
 all:∀i,i<ops.size->i∈ord
 at_:∀(A B:List Nat) (i:Nat),ord=A++i::B->∃o,ops[i]? = some o/\(∀e∈ZfW o,e∈A)/\i∉A/\i∉B/\(ZdX o=true->∀j∈B,Anc ops i j/\Zfi (Zcr ops.toList) i j=true)
 conf:∀i j x y,i≠j->ops[i]? = some x->ops[j]? = some y->Anc ops i j∨Anc ops j i∨x.apart ops y=true
theorem Zlq{N:Nat}{ops:Array Oper}{ord:List Nat}(h:ZhD N ops ord=true):Ord N ops ord:=by
 simp only[ZhD,YW]at h;obtain⟨⟨⟨h1,h2⟩,h3⟩,h4⟩:=h;refine⟨h1,λi hi=>by simpa using List.all_eq_true.1 h2 i (List.mem_range.2 hi),λA B i he=>?_,λi j x y hne hx hy=>?_⟩
 ·obtain⟨o,g1,g2,_,g4,g5,g6⟩:=ZmC ord [] h3 A B i he;exact⟨o,g1,λe he=>(g2 e he).resolve_right Xs,g4,g5,λhf j hj=>⟨ZfT (g6 hf j hj),g6 hf j hj⟩⟩
 ·have hi:i<ops.size:=(Array.getElem?_eq_some_iff.1 hx).1;have hj:j<ops.size:=(Array.getElem?_eq_some_iff.1 hy).1;have:=List.all_eq_true.1 (List.all_eq_true.1 h4 i (List.mem_range.2 hi)) j (List.mem_range.2 hj);simp only[hx,hy,Bool.or_eq_true,beq_iff_eq]at this;rcases this with ((h|h)|h)|h
  ·exact absurd h hne
  ·exact .inl (ZfT h)
  ·exact .inr (.inl (ZfT h))
  ·exact .inr (.inr h)
theorem Ord.anc{N:Nat}{ops:Array Oper}{ord:List Nat}(h:Ord N ops ord){i k:Nat}(ha:Anc ops i k):∀(A B:List Nat),ord=A++k::B->i∈A:=by
 induction ha with
 | edge ho he =>
  intro A B hE;obtain⟨o',g1,g2,_⟩:=h.at_ A B _ hE;rw[ho]at g1;cases g1;exact g2 _ he
 | trans ho he _ ih =>
  intro A B hE;obtain⟨o',g1,g2,_⟩:=h.at_ A B _ hE;rw[ho]at g1;cases g1;have hj:=g2 _ he;obtain⟨A1,A2,rfl⟩:=List.append_of_mem hj;have:=ih A1 (A2++(_::B)) (by rw[hE,List.append_assoc];rfl);exact List.mem_append.2 (.inl this)
variable{P:Program}{μ:Mu}{H:AH}{w:World}
theorem ZiM{ρ:Operand->Value}{op:Op}{v:Value}(hp:Zeo P op=true)(h:ZaG P ρ H op=some v)(H':AH):ZaG P ρ H' op=some v:=by
 unfold Zeo at hp;split at hp
 all_goals first
  | (cases hp;done)
  | exact h
  | skip
 rename_i args argTypes
 simp only[ZaG]at h ⊢;split at h
 ·rename_i x t hl ht
  rw[ht]at hp;dsimp only at hp;rw[← h];unfold Zb7;split at hp
  ·cases hp
  ·rename_i hnm
   cases hu:P.underlying t with
   | none=>rfl
   | some d =>
    generalize ρ x=y
    cases d <;> first
     | exact (hnm _ _ hu).elim
     | (cases y <;> rfl)
 ·cases h
theorem ZdY(hf:∀b,H.next≤b->H.get b=none)(ob:AObj)(b:Nat)(o:AObj)(h:H.get b=some o):(H.push ob).get b=some o:=by
 rw[AH.push_old,h];rcases Nat.lt_or_ge b H.next with hlt|hge
 ·exact hlt
 ·rw[hf b hge]at h;cases h
theorem Zmo{ρ:Operand->Value}{op:Op}{v:Value}(hf:∀b,H.next≤b->H.get b=none)(ob:AObj)(h:ZaG P ρ H op=some v):ZaG P ρ (H.push ob) op=some v:=by
 by_cases hp:Zeo P op=true
 ·exact ZiM hp h _
 ·have hc:∀b o,H.cell b o≠none->(H.push ob).cell b o=H.cell b o:=by
   intro b o hn;unfold AH.cell at *;cases hg:H.get b with
   | none=>rw[hg]at hn;exact absurd rfl hn
   | some x=>rw[ZdY hf ob b x hg]
  have hcs:∀b o n,H.cells b o n≠none->(H.push ob).cells b o n=H.cells b o n:=by
   intro b o n hn;unfold AH.cells at *;cases hg:H.get b with
   | none=>rw[hg]at hn;exact absurd rfl hn
   | some x=>rw[ZdY hf ob b x hg]
  cases op
  case load t a =>
   simp only[ZaG]at h ⊢;unfold ZbK at *;split at h
   ·split at h
    ·split at h
     ·rw[if_pos (by assumption),hcs _ _ _ (λe=>by rw[e]at h;cases h)];exact h
     ·rw[if_neg (by assumption),hc _ _ (λe=>by rw[e]at h;cases h)];exact h
    ·cases h
   ·cases h
  case slice t x lo hi mx =>
   simp only[ZaG]at h ⊢;unfold ZT at *;split at h
   ·split at h
    ·split at h
     ·rename_i hcond
      rw[if_pos hcond];split at h
      ·exact h
      ·rename_i b o _
       cases hg:H.get b with
       | none=>rw[hg]at h;cases h
       | some x=>rw[hg]at h;rw[ZdY hf ob b x hg];exact h
      ·exact h
     ·cases h
    ·cases h
   ·exact h
   ·cases h
  case lookup t m k ok =>
   simp only[ZaG]at h ⊢;unfold ZdO at *;split at h
   ·split at h
    ·split at h
     ·rename_i hcond
      rw[if_pos hcond];split at h
      ·exact h
      ·rename_i b hb
       cases hg:H.get b with
       | none=>rw[hg]at h;cases h
       | some x=>rw[hg]at h;rw[ZdY hf ob b x hg];exact h
      ·cases h
     ·cases h
    ·cases h
   ·cases h
  case call c =>
   obtain⟨callee,args,argTypes⟩:=c;cases callee with
   | value f=>simp[ZaG]at h
   | invoke r m=>simp[ZaG]at h
   | builtin b =>
    cases b <;> first
     | (simp[ZaG]at h;done)
     | skip
    case len =>
     simp only[ZaG]at h ⊢;split at h
     ·unfold Zb7 at *;split at h
      ·exact h
      ·exact h
      ·exact h
      ·rename_i b hu hb
       cases hg:H.get b with
       | none=>rw[hg]at h;cases h
       | some x=>rw[hg]at h;rw[ZdY hf ob b x hg];exact h
      ·cases h
     ·cases h
    case cap =>
     simp only[ZaG]at h ⊢;split at h
     ·unfold Ziy at *;split at h
      ·exact h
      ·rename_i b _ _ _ hu hb
       cases hg:H.get b with
       | none=>rw[hg]at h;cases h
       | some x=>rw[hg]at h;rw[ZdY hf ob b x hg];exact h
      ·cases h
     ·cases h
    case max=>exact h
    case min=>exact h
  all_goals first
   | (exact absurd rfl hp)
   | (simp[ZaG]at h;done)
   | exact h
end Go.Vd
