/- Texts. -/
import Derived.Test.YtlfclppjhkeljaaGreatPwhVdR
import Derived.KernelRfl
import Derived.Laws.BitsLemmas
import Derived.Laws.Bits64
set_option linter.all false
open List renaming getElem?_take→YY,getElem?_drop→Yja,getElem?_eq_none→YQ
open Nat renaming mul_le_mul_right→Yz
open Option renaming bind_some→Yk,map_some→Yda
namespace Go.Vd
variable[Pins]
variable{P:Program}{N:Nat}{ops:Array Oper}{K:AAct->AH->Prop}{Q:Exit->AAct->AH->Prop}{α:AAct}{H:AH}
def Zh7:List (Nat×Value)->AAct->AAct
 | [],α=>α
 | (t,v)::l,α=>(Zh7 l α).put (some t) v
def Has(α:AAct):List (Nat×Value)->Prop
 | []=>True
 | (t,v)::l=>α t=v/\Has α l
theorem ZnZ{α:AAct}{t:Nat}{v:Value}(h:α t=v):α.put (some t) v=α:=by
 funext i;simp only[AAct.put];by_cases hi:i=t
 ·rw[if_pos hi,hi,h]
 ·rw[if_neg hi]
theorem ZkN{α:AAct}:∀{l:List (Nat×Value)},Has α l->Zh7 l α=α:=by
 intro l;induction l with
 | nil=>intro _;rfl
 | cons p l ih =>
  intro h;obtain⟨t,v⟩:=p;rw[Zh7,ih h.2];exact ZnZ h.1
def Zd1(P:Program)(t:TypeId):Bool:=match P.underlying t with
 | some (.slice _)=>true
 | _=>false
theorem ZdU{t:TypeId}(h:Zd1 P t=true):∃e,P.underlying t=some (.slice e):=by
 unfold Zd1 at h;split at h
 ·rename_i e he;exact⟨e,he⟩
 ·cases h
def ZfL(P:Program)(t:TypeId):Option (Nat×Nat):=(slT P t).map λx=>(x.1,x.2.1)
theorem Zey{t:TypeId}{n m:Nat}(h:ZfL P t=some (n,m)):∃z,slT P t=some (n,m,z):=by
 unfold ZfL at h;cases hs:slT P t with
 | none=>rw[hs]at h;cases h
 | some x=>obtain⟨a,b,z⟩:=x;rw[hs]at h;cases h;exact⟨z,rfl⟩
def Zbh(P:Program)(t:TypeId):Option Nat:=(ZfL P t).map (·.1)
theorem ZaU{t:TypeId}{n:Nat}(h:Zbh P t=some n):∃m z,slT P t=some (n,m,z):=by
 unfold Zbh at h;cases hs:ZfL P t with
 | none=>rw[hs]at h;cases h
 | some x=>obtain⟨a,b⟩:=x;rw[hs]at h;cases h;obtain⟨z,hz⟩:=Zey hs;exact⟨b,z,hz⟩
section
variable{E:Type}{enc:E->List Value}{sz:Nat}{s:Value}{xs:List E}
theorem Sl.lenb{t:TypeId}(h:Sl enc sz H s xs)(hu:Zd1 P t=true):Zb7 P t s H=some (.int .i64 xs.length):=by
 obtain⟨e,he⟩:=ZdU hu;exact h.lenq he
theorem Sl.idxb{t:TypeId}{k:IntKind}{i:Int}(h:Sl enc sz H s xs)(ht:Zbh P t=some sz)(h0:0≤i)(h1:i<(xs.length:Int)):ZO P t s (.int k i)=some (elp s sz i.toNat 0):=by
 obtain⟨m,z,hz⟩:=ZaU ht;exact h.idx hz h0 h1
theorem Sl.cutb(h:Sl enc sz H s xs){t:TypeId}(ht:Zbh P t=some sz){lo hi:Option Value}{l r:Nat}(e1:Z4 0 lo=some l)(e2:Z4 xs.length hi=some r)(hl:l≤r)(hr:r≤xs.length) :
  ∃s',ZT P t s lo hi none H=some s'/\Sl enc sz H s' ((xs.take r).drop l):=by
 obtain⟨m,z,hz⟩:=ZaU ht;exact h.drop_take hz e1 e2 hl hr
end
theorem ZC{c:Code}(I:Nat->AAct->AH->Prop)(n0:Nat)(h0:I n0 α H)
  (step:∀n α H,I n α H->∀K:AAct->AH->Prop,(∀n' α' H',n'<n->I n' α' H'->K α' H')->aWp P N c (ZdI K Q) α H):aWp P N (.loop c) Q α H:=by
 intro R hR
 have key:∀n α H,I n α H->R α H:=by
  intro n;induction n using Nat.strongRecOn with
  | _ n ih =>
   intro α H hI;exact hR α H (step n α H hI R λn' α' H' hn hI'=>ih n' hn α' H' hI')
 exact key _ α H h0
theorem Zm{K:AAct->AH->Prop}{id:Nat}(h:Q (.exit id) α H):ZdI K Q (.exit id) α H:=h
theorem ZQ{id:Nat}(h:Q .normal α H):Zfj id Q (.exit id) α H:=by simp only[Zfj,if_true];exact h
theorem Zi7{id id':Nat}(hn:id'≠id)(h:Q (.exit id') α H):Zfj id Q (.exit id') α H:=by simp only[Zfj,if_neg hn];exact h
theorem Zi{K:AAct->AH->Prop}(h:Q .ret α H):ZdI K Q .ret α H:=h
theorem ZM{id:Nat}(h:Q .ret α H):Zfj id Q .ret α H:=h
theorem ZaW{fn:Func}{K:Value->AH->Prop}{vs:List Value}(h:ZdE P α H fn.results.toList=some vs)(k:K (ZgC vs) H):Zgp P fn K .ret α H:=by
 simp only[Zgp,h];exact k
theorem Zek{fn:Func}{K:Value->AH->Prop}{vs:List Value}(h:ZdE P α H fn.results.toList=some vs)(k:K (ZgC vs) H):Zgp P fn K .normal α H:=by
 simp only[Zgp,h];exact k
section seq
variable{o:Oper}{rest:List Oper}
theorem Zb6(v:Value){x:Option Value}(h1:ZbJ P ops o α H=x)(h:x=some v)(k:Zs P ops K rest (α.put o.dst v) H):Zs P ops K (o::rest) α H:=
 ZhH v (h1.trans h) k
theorem s_b(p:Prop)[Decidable p](h:ZbJ P ops o α H=some (.bool (decide p)))(ht:p->Zs P ops K rest (α.put o.dst (.bool true)) H)(hf:¬p->Zs P ops K rest (α.put o.dst (.bool false)) H):Zs P ops K (o::rest) α H:=by
 by_cases hp:p
 ·rw[decide_eq_true hp]at h;exact ZhH _ h (ht hp)
 ·rw[decide_eq_false hp]at h;exact ZhH _ h (hf hp)
theorem s_w{k:IntKind}{x:Int}(y:Int)(h:ZbJ P ops o α H=some (.int k (k.wrap x)))(hw:k.wrap x=y)(kk:Zs P ops K rest (α.put o.dst (.int k y)) H):Zs P ops K (o::rest) α H:=by
 rw[hw]at h;exact ZhH _ h kk
theorem Zop(hw:WF H)(cs:List Value)(hg:Region.wanted o (ZZ ops α)=true)(hc:cls o.op=.new)(h:Zg2 P (ZY α) o.op=some (.row .own cs,Zem))
  (k:∀b H',Ext H H'->b=H.next->Row H' b cs->Zs P ops K rest (α.put o.dst (.pointer (some ⟨b,0,none⟩))) H'):Zs P ops K (o::rest) α H:=
 s_n _ _ hg hc h (k H.next _ (ZdB hw cs).1 rfl (ZdB hw cs).2)
theorem Sl.cells{E:Type}{enc:E->List Value}{sz b o n c:Nat}{ys:List E}(h:Sl enc sz H (.slice (some ⟨b,o,none⟩) n c) ys):n=ys.length/\H.cells b o (ys.length*sz)=some (ys.flatMap enc):=by
 rcases h.is with ⟨e,_⟩|⟨b',o',c',k,cs,e,h2,h3,h4,h5,h6⟩
 ·cases e
 ·cases e
  refine⟨rfl,?_⟩;have hm:ys.length*sz≤c*sz:=Yz _ h4;unfold AH.cells;rw[h3];dsimp only;rw[if_pos Xo];congr 1;have hl:=ZaB h.len;apply List.ext_getElem?;intro i;rw[YY];by_cases hi:i<ys.length*sz
  ·rw[if_pos hi,Yja];have hp:=h.pos;have hq:i / sz<ys.length:=Nat.div_lt_of_lt_mul (by rw[Nat.mul_comm];exact hi);have hx:ys[i / sz]? = some ys[i / sz]:=by simp[hq]
   have hr:=Nat.mod_lt i hp;have he:i=i / sz*sz+i % sz:=(Nat.div_add_mod' i sz).symm;have g1:=h6 _ _ hx _ hr;have g2:=Zbz h.len hx hr;rw[← he]at g2;rw[g2,← g1];congr 1;omega
  ·rw[if_neg hi,YQ Xo]
theorem ZgD{E:Type}{enc:E->List Value}{ys:List E}(h:∀y∈ys,Zy (enc y)=true):Zy (ys.flatMap enc)=true:=by
 unfold Zy;rw[List.all_flatMap];exact List.all_eq_true.2 λy hy=>h y hy
theorem Zlo{E:Type}{enc:E->List Value}{sz:Nat}{s t:Value}{xs ys:List E}{φ:Nat}(m:Nat){at_:Array TypeId}{t0 t1:TypeId}(hw:WF H)(h:Own enc sz H s xs φ)(hy:Sl enc sz H t ys)(h1:∀y∈ys,Zy (enc y)=true)
  (a0:at_[0]? = some t0) (a1:at_[1]? = some t1) (hT':ZfL P t0=some (sz,m)) (hT1':Zd1 P t1=true) (hm:m≠0) (hcap:((xs.length+ys.length)+(xs.length+ys.length) / 4+512)*m≤2 ^ 48) :
  ∃s' H' ψ,Zam P at_ s t H=some (s',H')/\Fr φ H H'/\Own enc sz H' s' (xs++ys) ψ/\(ψ=φ∨ψ=H.next):=by
 obtain⟨z,hT⟩:=Zey hT';obtain⟨e1,hT1⟩:=ZdU hT1';obtain⟨e,i,h2,h3,h4,h5,h6⟩:=ZaH hT;have main:=h.append hw (ys:=ys) hm hcap hy.len h1;rcases hy.is with ⟨rfl,rfl⟩|⟨b,o,c,k,cs,rfl,_⟩
 ·have:Zam P at_ s (.slice none 0 0) H=H.append i.size i.bytes s 0 []:=by
   unfold Zam;rw[a0,a1];simp only[Yk,h4,hT1]
  rw[this,h5,h6];exact main
 ·have hc:=hy.cells.2
  have:Zam P at_ s (.slice (some ⟨b,o,none⟩) ys.length c) H=H.append sz m s ys.length (ys.flatMap enc):=by
   unfold Zam;rw[a0,a1];simp only[Yk,h4,hT1,h5,hc,ZgD h1,if_true,h6]
  rw[this];exact main
end seq
def ZcE(P:Program)(ops:Array Oper)(tbl:List (List Nat))(i:Nat)(rest:List Nat)(α:AAct)(H:AH):Option Value:=
 match ops[i]? with
 | some o=>if Zeo P o.op || !ZgU ops tbl i rest then ZbJ P ops o α H else none
 | none=>none
def Zab(ops:Array Oper)(i:Nat):Option Tmp:=(ops[i]?).bind (·.dst)
def Zjq(ops:Array Oper)(i:Nat)(α:AAct):Bool:=
 match ops[i]? with
 | some o => !Region.wanted o (ZZ ops α)
 | none=>false
section draw
variable{tbl:List (List Nat)}{i:Nat}{rest:List Nat}{fl:List (Nat×AAct×Value)}
theorem Zc8(v:Value)(h:ZcE P ops tbl i rest α H=some v)(k:Zu P ops tbl K rest fl (α.put (Zab ops i) v) H):Zu P ops tbl K (i::rest) fl α H:=by
 unfold ZcE at h;cases ho:ops[i]? with
 | none=>rw[ho]at h;cases h
 | some o =>
  rw[ho]at h;dsimp only at h;split at h
  ·rename_i hf
   have hs:=Ze6 h;refine d_q o v ho hs.1 hs.2.1 hs.2.2 hf ?_;simpa only[Zab,ho,Yk] using k
  ·cases h
theorem Zde(v:Value){x:Option Value}(h1:ZcE P ops tbl i rest α H=x)(h:x=some v)(k:Zu P ops tbl K rest fl (α.put (Zab ops i) v) H):Zu P ops tbl K (i::rest) fl α H:=
 Zc8 v (h1.trans h) k
theorem d_b(p:Prop)[Decidable p](h:ZcE P ops tbl i rest α H=some (.bool (decide p)))(ht:p->Zu P ops tbl K rest fl (α.put (Zab ops i) (.bool true)) H)
  (hf:¬p->Zu P ops tbl K rest fl (α.put (Zab ops i) (.bool false)) H):Zu P ops tbl K (i::rest) fl α H:=by
 by_cases hp:p
 ·rw[decide_eq_true hp]at h;exact Zc8 _ h (ht hp)
 ·rw[decide_eq_false hp]at h;exact Zc8 _ h (hf hp)
theorem d_w{k:IntKind}{x:Int}(y:Int)(h:ZcE P ops tbl i rest α H=some (.int k (k.wrap x)))(hw:k.wrap x=y)(kk:Zu P ops tbl K rest fl (α.put (Zab ops i) (.int k y)) H):Zu P ops tbl K (i::rest) fl α H:=by
 rw[hw]at h;exact Zc8 _ h kk
theorem Zng(h:Zjq ops i α=true)(k:Zu P ops tbl K rest fl (α.put (Zab ops i) undef) H):Zu P ops tbl K (i::rest) fl α H:=by
 unfold Zjq at h;cases ho:ops[i]? with
 | none=>rw[ho]at h;cases h
 | some o =>
  rw[ho]at h;refine d_no o ho (by simpa using h) ?_;simpa only[Zab,ho,Yk] using k
end draw
theorem Zn{x:Int}(h:-9223372036854775808≤x/\x≤9223372036854775807):IntKind.i64.wrap x=x:=by
 rw[IntKind.wrap_i64];omega
theorem Zc2{x:Int}(h:0≤x/\x≤18446744073709551615):IntKind.u64.wrap x=x:=by
 rw[IntKind.wrap_u64];omega
def Zq(k:IntKind)(x:Int):List Value:=[.int k x]
def AH.bump(H:AH):AH:={ H with next:=H.next+1 }
theorem ZnC(h:WF H):Ext H H.bump:=⟨⟨λb hb=>h.fresh b (by have:H.next+1≤b:=hb;omega),h.tok⟩,Nat.le_succ _,λ_ _=>rfl⟩
end Go.Vd
namespace Go.Vd
variable[Pins]
variable{P:Program}{N:Nat}{ops:Array Oper}{K:AAct->AH->Prop}{α:AAct}{H:AH}
theorem Zew{t:Nat}{v:Value}{l:List ResultVar}{vs:List Value}(h:α t=v)(hr:ZdE P α H l=some vs):ZdE P α H (.tmp t::l)=some (v::vs):=by
 simp only[ZdE,hr,Yda,h]
theorem Zan{a:Nat}{t:TypeId}{v:Value}{l:List ResultVar}{vs:List Value}(h:ZbK P t (α a) H=some v)(hr:ZdE P α H l=some vs):ZdE P α H (.cell a t::l)=some (v::vs):=by
 simp only[ZdE,hr,h]
theorem Zae{d:Nat}{k:IntKind}(i:Int)(h:0≤i):Z4 d (some (.int k i))=some i.toNat:=by
 simp only[Z4,h,if_true]
section
variable{o:Oper}{rest:List Oper}
theorem Zmm(p:Prop)[Decidable p](h:ZbJ P ops o α H=some (.bool (!decide p)))(ht:p->Zs P ops K rest (α.put o.dst (.bool false)) H)(hf:¬p->Zs P ops K rest (α.put o.dst (.bool true)) H):Zs P ops K (o::rest) α H:=by
 by_cases hp:p
 ·rw[decide_eq_true hp]at h;exact ZhH _ h (ht hp)
 ·rw[decide_eq_false hp]at h;exact ZhH _ h (hf hp)
end
section
variable{tbl:List (List Nat)}{i:Nat}{rest:List Nat}{fl:List (Nat×AAct×Value)}
theorem d_bn(p:Prop)[Decidable p](h:ZcE P ops tbl i rest α H=some (.bool (!decide p)))(ht:p->Zu P ops tbl K rest fl (α.put (Zab ops i) (.bool false)) H)
  (hf:¬p->Zu P ops tbl K rest fl (α.put (Zab ops i) (.bool true)) H):Zu P ops tbl K (i::rest) fl α H:=by
 by_cases hp:p
 ·rw[decide_eq_true hp]at h;exact Zc8 _ h (ht hp)
 ·rw[decide_eq_false hp]at h;exact Zc8 _ h (hf hp)
end
end Go.Vd
