/- Texts. -/
import Derived.Test.YtlfclppjhkeljaaGreatPwhVdB
import Derived.IntWalk
set_option linter.all false
open Array renaming getElem?_eq_getElem→YH,eq_empty_of_size_eq_zero→YZ
open Bool renaming false_eq_true→Y5
open List renaming getElem?_toArray→YP,getElem?_cons_zero→YM,getElem?_cons_succ→Y7
open Nat renaming le_refl→Yj,zero_add→Y8,mul_le_mul_right→Yz
namespace Go.Vd
variable[Pins]
def Mu.set(μ:Mu)(b:Nat)(p:Pl):Mu:=λx=>if x=b then some p else μ x
theorem Mu.set_self(μ:Mu)(b:Nat)(p:Pl):μ.set b p b=some p:=by simp[Mu.set]
theorem Mu.set_le{μ:Mu}{b:Nat}(h:μ b=none)(p:Pl):Le μ (μ.set b p):=λx q e=>by
 unfold Mu.set;by_cases hx:x=b
 ·subst hx;rw[h]at e;cases e
 ·rw[if_neg hx];exact e
theorem ZdW(w:World)(o:Obj)(k:Nat):(w.alloc o).heap[k]? = if k=w.heap.size then some o else w.heap[k]?:=by
 show (w.heap.push o)[k]? = _;rw[Array.getElem?_push]
theorem Zhh(w:World)(o:Obj):(w.alloc o).heap.size=w.heap.size+1:=by
 show (w.heap.push o).size=_;simp
theorem Rel.push{μ:Mu}{H:AH}{w:World}(h:Rel μ H w)(o:AObj):Rel μ (H.push o) w:=by
 have none':μ H.next=none:=by
  cases e:μ H.next with
  | none=>rfl
  | some p=>have:=(h.lt _ _ e).1;omega
 have old:∀b p,μ b=some p->(H.push o).get b=H.get b:=λb p e=>by
  have:=(h.lt b p e).1;simp[AH.push];omega
 refine⟨λb p e=>⟨Nat.lt_succ_of_lt (h.lt b p e).1,(h.lt b p e).2⟩,λb p e=>by rw[old b p e];exact h.ok b p e,
  λb b' p p' ob ob' e e' hne hb g g'=>?_,λb hb=>?_,h.pin.ro rfl λb cs e=>?_⟩
 ·rw[old b p e]at g;rw[old b' p' e']at g';exact h.apart b b' p p' ob ob' e e' hne hb g g'
 ·have hb':H.next+1≤b:=hb;simp only[AH.push];rw[if_neg Xo];exact h.fresh b Xo
 ·have hlt:b<H.next:=by
   rcases Nat.lt_or_ge b H.next with hlt|hge
   ·exact hlt
   ·rw[h.fresh b hge]at e;cases e
  simp only[AH.push];rw[if_neg Xo];exact e
theorem Rel.realize{μ:Mu}{H:AH}{w:World}(h:Rel μ H w){b:Nat}(hlt:b<H.next)(hn:μ b=none){ob:AObj}(hg:H.get b=some ob)(o:Obj)(exs sz:Nat)
  (hr:ObjRel (μ.set b ⟨w.heap.size,0,exs,sz⟩) (w.alloc o) ⟨w.heap.size,0,exs,sz⟩ ob):Rel (μ.set b ⟨w.heap.size,0,exs,sz⟩) H (w.alloc o):=by
 have hle:=Mu.set_le hn ⟨w.heap.size,0,exs,sz⟩;refine⟨λx p e=>?_,λx p e=>?_,λx y p q ox oy e1 e2 hne hb g1 g2=>?_,h.fresh,λv hv=>?_,λk o' hm=>?_,h.pin.2.2.trans hle⟩
 ·rw[Zhh];unfold Mu.set at e;by_cases hx:x=b
  ·rw[if_pos hx]at e;cases e;subst hx;exact⟨hlt,by dsimp only;omega⟩
  ·rw[if_neg hx]at e;have:=h.lt x p e;exact⟨this.1,Xo⟩
 ·by_cases hx:x=b
  ·subst hx;rw[Mu.set_self]at e;cases e;exact⟨ob,hg,hr⟩
  ·have e':μ x=some p:=by simpa [Mu.set,hx] using e
   obtain⟨o',h1,h2⟩:=h.ok x p e';refine⟨o',h1,h2.congr hle ?_⟩;rw[ZdW,if_neg (by have:=(h.lt x p e').2;omega)]
 ·by_cases hx:x=b
  ·by_cases hy:y=b
   ·exact absurd (hx.trans hy.symm) hne
   ·have e2':μ y=some q:=by simpa [Mu.set,hy] using e2
    subst hx;rw[Mu.set_self]at e1;cases e1;have:=(h.lt y q e2').2;dsimp only at hb;omega
  ·have e1':μ x=some p:=by simpa [Mu.set,hx] using e1
   by_cases hy:y=b
   ·subst hy;rw[Mu.set_self]at e2;cases e2;have:=(h.lt x p e1').2;dsimp only at hb;omega
   ·have e2':μ y=some q:=by simpa [Mu.set,hy] using e2
    exact h.apart x y p q ox oy e1' e2' hne hb g1 g2
 rotate_left
 ·obtain⟨oz,zo,z1,z2⟩:=h.pin.2.1 k o' hm;have hlt:k<w.heap.size:=(Array.getElem?_eq_some_iff.1 z1).1;refine⟨oz,zo,by rw[ZdW,if_neg Xo];exact z1,λx p hx h0=>?_⟩;unfold Mu.set at hx;by_cases hxb:x=b
  ·rw[if_pos hxb]at hx;cases hx;dsimp only at h0;omega
  ·rw[if_neg hxb]at hx;exact z2 x p hx h0
 ·obtain⟨⟨c,ty,fr,h1,h2⟩,h3⟩:=h.pin.1 v hv;have hlt:0<w.heap.size:=(Array.getElem?_eq_some_iff.1 h1).1;refine⟨⟨c,ty,fr,by rw[ZdW,if_neg Xo];exact h1,h2⟩,λx p hx h0=>?_⟩;unfold Mu.set at hx;by_cases hxb:x=b
  ·rw[if_pos hxb]at hx;cases hx;dsimp only at h0;omega
  ·rw[if_neg hxb]at hx;exact h3 x p hx h0
theorem Rel.next_none{μ:Mu}{H:AH}{w:World}(h:Rel μ H w):μ H.next=none:=by
 cases e:μ H.next with
 | none=>rfl
 | some p=>have:=(h.lt _ _ e).1;omega
theorem AH.push_get(H:AH)(o:AObj):(H.push o).get H.next=some o:=by simp[AH.push]
theorem AH.push_old(H:AH)(o:AObj)(b:Nat)(h:b<H.next):(H.push o).get b=H.get b:=by simp[AH.push];omega
theorem Zhb{μ:Mu}{H:AH}{w:World}(h:Rel μ H w)(o:Obj)(ob:AObj)(exs sz:Nat):Keep μ (μ.set H.next ⟨w.heap.size,0,exs,sz⟩) H (H.push ob) w (w.alloc o):=by
 refine⟨Mu.set_le h.next_none _,Nat.le_succ _,rfl,rfl,rfl,Yj _,by rw[Zhh];omega,λk hk _=>by rw[ZdW,if_neg Xo],λb hb hn=>⟨?_,.inl (AH.push_old _ _ _ hb)⟩,λb cs hb=>?_,λb p hp hn=>?_⟩
 ·unfold Mu.set;rw[if_neg Xo];exact hn
 ·rw[AH.push_old _ _ _ ?_];exact hb;rcases Nat.lt_or_ge b H.next with hlt|hge
  ·exact hlt
  ·rw[h.fresh b hge]at hb;cases hb
 ·unfold Mu.set at hp;by_cases hb:b=H.next
  ·rw[if_pos hb]at hp;cases hp;exact .inl (Yj _)
  ·rw[if_neg hb,hn]at hp;cases hp
theorem RowRel.new{μ:Mu}{w:World}{k:Kd}{cs cs':List Value}(ty:TypeId)(rest:Array Value)(exs sz:Nat)(hl:LRel μ cs cs')(h1:∀v∈cs,v.oneCell'=true)
  (ht:Zmy ⟨w.heap.size,0,exs,sz⟩ k) (hs:exs*sz≤rest.size) (hr1:∀v∈rest.toList,∃u,VRel μ u v/\u.oneCell'=true):RowRel μ (w.alloc (.cells (cs'.toArray++rest) ty)) ⟨w.heap.size,0,exs,sz⟩ k cs:=by
 refine⟨⟨cs'.toArray++rest,ty,(0,0),by rw[ZdW,if_pos rfl],?_,λ_=>rfl,λi v hv=>?_⟩,ht,h1,cs'.toArray++rest,ty,(0,0),by rw[ZdW,if_pos rfl],λi hi=>?_⟩
 ·have:=hl.1;simp;omega
 ·obtain⟨v',a,r⟩:=All2.get hl hv;refine⟨v',?_,r⟩;have hlt:=(List.getElem?_eq_some_iff.1 a).1;simp only[Y8];rw[Array.getElem?_append_left (by simpa using hlt)];simpa using a
 ·have hl1:=hl.1;have hi':i<exs*sz:=hi;have hlt:i<rest.size:=Xo;obtain⟨u,r1,r2⟩:=hr1 rest[i] Xs;refine⟨u,rest[i],?_,r1,r2⟩;dsimp only;rw[Array.getElem?_append_right (by simp;omega)];simp only[List.size_toArray];rw[show 0+cs.length+i-cs'.length=i from Xo];exact YH hlt
theorem Zgm(n c:Nat)(h:c<n):Builtin.nextslicecap n c≤n+n / 4+512:=by
 have g:∀r c,c<n->Builtin.growBy n r c≤n+n / 4+512:=by
  intro r;induction r with
  | zero=>intro c hc;simp[Builtin.growBy];omega
  | succ r ih =>
   intro c hc;simp only[Builtin.growBy];rw[if_neg Xo];by_cases h2:c+(c+768) / 4<n
   ·exact ih _ h2
   ·cases r with
    | zero=>simp[Builtin.growBy];omega
    | succ r=>simp only[Builtin.growBy];rw[if_pos Xo];omega
 unfold Builtin.nextslicecap;split
 ·omega
 ·split
  ·omega
  ·exact g 4 c h
def AH.append(H:AH)(sz bytes:Nat)(s:Value)(n:Nat)(vs:List Value):Option (Value×AH):=
 if sz=0∨vs.length≠n*sz then none else
 match s with
 | .slice base len cap =>
  if len+n≤cap then
   match base with
   | none=>if len+n=0 then some (.slice none 0 cap,H) else none
   | some ⟨b,o,none⟩=>if n=0 then some (s,H) else (H.puts b (o+len*sz) vs).map λH'=>(.slice base (len+n) cap,H')
   | some _=>if len+n=0 then some (s,H) else none
  else if bytes=0∨((len+n)+(len+n) / 4+512)*bytes>2 ^ 48 then none else
   match base with
   | none=>if len=0/\cap=0 then some (.slice (some ⟨H.next,0,none⟩) n n,H.push (.row (.loose H.next sz) vs)) else none
   | some ⟨b,o,none⟩ =>
    match H.cells b o (len*sz),H.get b with
    | some old,some (.row (.loose φ sz') cs) =>
     if sz'=sz/\o+cap*sz=cs.length then
      some (.slice (some ⟨H.next,0,none⟩) (len+n) (len+n),(H.kill φ (if len=cap then b else H.next)).push (.row (.loose φ sz) (old++vs)))
     else none
    | some old,some (.row _ _)=>some (.slice (some ⟨H.next,0,none⟩) (len+n) (len+n),H.push (.row (.loose H.next sz) (old++vs)))
    | _,_=>none
   | some _=>if len=0/\cap=0 then some (.slice (some ⟨H.next,0,none⟩) n n,H.push (.row (.loose H.next sz) vs)) else none
 | _=>none
theorem ZL{P:Program}{t:TypeId}{d:TypeDesc}(h:P.underlying t=some d)(w:World):(underlying t).run P w=.ok d w:=by
 simp only[underlying,Sem.run_bind,run_program,Result.andThen_ok,h];rfl
theorem ZcZ{P:Program}{t:TypeId}{i:TypeInfo}(h:P.info? t=some i)(w:World):(typeInfo t).run P w=.ok i w:=by
 simp only[typeInfo,Sem.run_bind,run_program,Result.andThen_ok,h];rfl
theorem ZaQ{P:Program}{t:TypeId}{i:TypeInfo}(h:P.info? t=some i)(w:World):(sizeOf t).run P w=.ok i.size w:=by
 simp only[sizeOf,Sem.run_bind,ZcZ h,Result.andThen_ok];rfl
theorem Zdi{P:Program}{t:TypeId}{i:TypeInfo}{z:Value}(h:P.info? t=some i)(hz:i.zero=some z)(w:World):(zeroValue t).run P w=.ok z w:=by
 simp only[zeroValue,Sem.run_bind,ZcZ h,Result.andThen_ok,hz];rfl
def Zig(P:Program)(w:World)(argTypes:Array TypeId)(size:Nat)(x:Value)(n:Nat)(vs:List Value):Prop:=
 (∃t d,argTypes[1]? = some t/\P.underlying t=some d/\(d=.string∨∃e,d=.slice e))/\(Builtin.lenOf x).run P w=.ok n w /\
  ∀k,(Builtin.firstCells size n x).run P { w with drawn:=k }=.ok vs.toArray { w with drawn:=k }
theorem Zgq(z:Array Value)(n:Nat):(Builtin.zeroCells z n).size=n*z.size:=by simp[Builtin.zeroCells]
theorem ZjZ(P:Program)(w:World)(argTypes:Array TypeId)(ty sType elem:TypeId)(info:TypeInfo)(base:Option Addr)(len cap:Nat)(x:Value)(n:Nat)(vs:List Value)
  (h0:argTypes[0]? = some sType) (hu:P.underlying sType=some (.slice elem)) (hi:P.info? elem=some info) (ha:Zig P w argTypes info.size x n vs) (hroom:len+n≤cap) :
  (Builtin.append_ argTypes ty #[.slice base len cap,x]).run P w =
   ((match base with|some a=>storeCells (a.add (len*info.size)) vs|none=>pure ()).run P w).andThen λ_ w'=>.ok (.slice base (len+n) cap) w':=by
 obtain⟨⟨t,d,h1,h2,h3⟩,h4,h5⟩:=ha;have h5':(Builtin.firstCells info.size n x).run P w=.ok vs.toArray w:=h5 w.drawn;have key:∀(s:Sem Unit),(s >>= λ_=>(pure (Value.slice base (len+n) cap):Sem Value)).run P w=(s.run P w).andThen λ_ w'=>.ok (.slice base (len+n) cap) w':=λs=>Xs
 rcases h3 with rfl|⟨e,rfl⟩
 all_goals
  simp only[Builtin.append_,h0,h1,Sem.run_bind,ZL hu,ZL h2,ZaQ hi,h4,Result.andThen_ok,Sem.run_pure,Y5,if_false,
   YP,YM,Y7,Bool.not_false,if_true]
  simp[hroom,h5']
  cases base <;> simp
theorem Zjw(P:Program)(w:World)(argTypes:Array TypeId)(ty sType elem:TypeId)(info:TypeInfo)(z:Value)(base:Option Addr)(len cap:Nat)(x:Value)(n:Nat)(vs old:List Value)
  (h0:argTypes[0]? = some sType) (hu:P.underlying sType=some (.slice elem)) (hi:P.info? elem=some info) (hz:info.zero=some z) (ha:Zig P w argTypes info.size x n vs) (hroom:cap<len+n)
  (hb:info.bytes≠0) (hcap:((len+n)+(len+n) / 4+512)*info.bytes≤2 ^ 48)
  (hold:∀k,(Builtin.firstCells info.size len (.slice base len cap)).run P { w with drawn:=k }=.ok old.toArray { w with drawn:=k }) :
  ∃c,len+n≤c/\(Builtin.append_ argTypes ty #[.slice base len cap,x]).run P w =
   .ok (.slice (some ⟨w.heap.size,0,none⟩) (len+n) c) (World.alloc { w with drawn:=w.drawn+1 } (.cells ((old++vs).toArray++Builtin.zeroCells z.cells (c-(len+n))) elem)):=by
 obtain⟨⟨t,d,h1,h2,h3⟩,h4,h5⟩:=ha;have h5':=h5 (w.drawn+1);have hold':=hold (w.drawn+1);have hle:=Zgm (len+n) cap hroom
 have hnc:¬Builtin.nextslicecap (len+n) cap*info.bytes>2 ^ 48:=by
  have:Builtin.nextslicecap (len+n) cap*info.bytes≤((len+n)+(len+n) / 4+512)*info.bytes:=Yz _ hle;omega
 have hni:¬len+n≤cap:=Xo;refine⟨len+n+w.tape w.drawn (.appendCap (len+n) cap elem) % (2 ^ 63-(len+n)),Nat.le_add_right _ _,?_⟩;rcases h3 with rfl|⟨e,rfl⟩
 all_goals
  simp only[Builtin.append_,h0,h1,Sem.run_bind,ZL hu,ZL h2,ZaQ hi,ZcZ hi,Zdi hi hz,h4,Result.andThen_ok,Sem.run_pure,Y5,if_false,
   YP,YM,Y7,Bool.not_false,if_true,if_neg hni,Sem.run_ite,false_or,hb,and_false,hnc,run_choose,Question.forced,Question.cut,run_askRoom]
  rw[hold']
  simp only[Result.andThen_ok]
  rw[h5']
  simp only[Result.andThen_ok,newRow,Sem.run_bind,run_newObj,Sem.run_pure,World.alloc]
  simp
theorem Zg7{n:Int}(h0:-9223372036854775808≤n)(h1:n≤9223372036854775807):IntKind.i64.wrap n=n:=by
 exact IntWalk.i64_in n ⟨h0,h1⟩
structure AppendsZ(P:Program)(argTypes:Array TypeId)(info:TypeInfo)(x:Value)(n:Nat):Prop where
 ty:∃t k,argTypes[1]? = some t/\P.underlying t=some (.int k)
 val:∃k,x=.int k n
 small:n*info.bytes≤2 ^ 48
 small':n≤9223372036854775807
theorem Zi4(P:Program)(w:World)(argTypes:Array TypeId)(ty sType elem:TypeId)(info:TypeInfo)(z:Value)(base:Option Addr)(len cap:Nat)(x:Value)(n:Nat)
  (h0:argTypes[0]? = some sType) (hu:P.underlying sType=some (.slice elem)) (hi:P.info? elem=some info) (hz:info.zero=some z) (hzs:z.cells.size=info.size) (ha:AppendsZ P argTypes info x n) (hroom:len+n≤cap) :
  (Builtin.append_ argTypes ty #[.slice base len cap,x]).run P w =
   ((match base with|some a=>storeCells (a.add (len*info.size)) (Builtin.zeroCells z.cells n).toList|none=>pure ()).run P w).andThen λ_ w'=>.ok (.slice base (len+n) cap) w':=by
 obtain⟨⟨t,k,h1,h2⟩,⟨k',rfl⟩,h4,h5⟩:=ha;have hw:IntKind.i64.wrap (n:Int)=n:=Zg7 Xo Xo;have hneg:¬((n:Int)<0):=Xo
 have hbig:¬((n:Int)*(info.bytes:Int)>2 ^ 48):=by
  have:((n*info.bytes:Nat):Int)≤((2 ^ 48:Nat):Int):=Int.ofNat_le.2 h4;simp at this ⊢;exact this
 have hemp:n*info.size=0->(Builtin.zeroCells z.cells n)=#[]:=λh=>by
  apply YZ;rw[Zgq,hzs];exact h
 simp only[Builtin.append_,h0,h1,Sem.run_bind,ZL hu,ZL h2,ZaQ hi,ZcZ hi,Result.andThen_ok,Sem.run_pure,asInt,asIntOf,hw,hneg,hbig,
   YP,YM,Y7,Bool.not_true,if_true,if_false,Y5,Sem.run_ite,Int.toNat_natCast,hroom]
 by_cases he:n*info.size=0
 ·simp only[he,if_true,hemp he,Result.andThen_ok];cases base <;> simp
 ·simp only[he,if_false,Zdi hi hz,Result.andThen_ok];cases base <;> simp
theorem ZiG(P:Program)(w:World)(argTypes:Array TypeId)(ty sType elem:TypeId)(info:TypeInfo)(z:Value)(base:Option Addr)(len cap:Nat)(x:Value)(n:Nat)(old:List Value)
  (h0:argTypes[0]? = some sType) (hu:P.underlying sType=some (.slice elem)) (hi:P.info? elem=some info) (hz:info.zero=some z) (hzs:z.cells.size=info.size) (ha:AppendsZ P argTypes info x n) (hroom:cap<len+n)
  (hb:info.bytes≠0) (hcap:((len+n)+(len+n) / 4+512)*info.bytes≤2 ^ 48)
  (hold:∀k,(Builtin.firstCells info.size len (.slice base len cap)).run P { w with drawn:=k }=.ok old.toArray { w with drawn:=k }) :
  ∃c,len+n≤c/\(Builtin.append_ argTypes ty #[.slice base len cap,x]).run P w =
   .ok (.slice (some ⟨w.heap.size,0,none⟩) (len+n) c) (World.alloc { w with drawn:=w.drawn+1 } (.cells ((old++(Builtin.zeroCells z.cells n).toList).toArray++Builtin.zeroCells z.cells (c-(len+n))) elem)):=by
 obtain⟨⟨t,k,h1,h2⟩,⟨k',rfl⟩,h4,h5⟩:=ha;have hw:IntKind.i64.wrap (n:Int)=n:=Zg7 Xo Xo;have hneg:¬((n:Int)<0):=Xo
 have hbig:¬((n:Int)*(info.bytes:Int)>2 ^ 48):=by
  have:((n*info.bytes:Nat):Int)≤((2 ^ 48:Nat):Int):=Int.ofNat_le.2 h4;simp at this ⊢;exact this
 have hemp:n*info.size=0->(Builtin.zeroCells z.cells n)=#[]:=λh=>by
  apply YZ;rw[Zgq,hzs];exact h
 have hold':=hold (w.drawn+1);have hle:=Zgm (len+n) cap hroom
 have hnc:¬Builtin.nextslicecap (len+n) cap*info.bytes>2 ^ 48:=by
  have:Builtin.nextslicecap (len+n) cap*info.bytes≤((len+n)+(len+n) / 4+512)*info.bytes:=Yz _ hle;omega
 have hni:¬len+n≤cap:=Xo
 have hmax:¬(((len+n:Nat):Int)>IntKind.i64.max):=by
  have h1:(len+n)+(len+n) / 4+512≤((len+n)+(len+n) / 4+512)*info.bytes:=Nat.le_mul_of_pos_right _ Xo;have h2:IntKind.i64.max=9223372036854775807:=by rfl
  rw[h2];omega
 refine⟨len+n+w.tape w.drawn (.appendCap (len+n) cap elem) % (2 ^ 63-(len+n)),Nat.le_add_right _ _,?_⟩
 simp only[Builtin.append_,h0,h1,Sem.run_bind,ZL hu,ZL h2,ZaQ hi,ZcZ hi,Zdi hi hz,Result.andThen_ok,Sem.run_pure,asInt,asIntOf,hw,hneg,hbig,
   YP,YM,Y7,Bool.not_true,if_true,if_false,Y5,Sem.run_ite,Int.toNat_natCast,if_neg hni,hmax,false_and,hnc,run_choose,Question.forced,Question.cut,run_askRoom]
 rw[hold'];by_cases he:n*info.size=0
 ·simp only[he,if_true,hemp he,Result.andThen_ok,newRow,Sem.run_bind,run_newObj,Sem.run_pure,World.alloc];try simp
 ·simp only[he,if_false,Result.andThen_ok,newRow,Sem.run_bind,run_newObj,Sem.run_pure,World.alloc];have:∀(A:Array Value),(old++A.toList).toArray=old.toArray++A:=λA=>by apply Array.ext';simp
  rw[this]
end Go.Vd
