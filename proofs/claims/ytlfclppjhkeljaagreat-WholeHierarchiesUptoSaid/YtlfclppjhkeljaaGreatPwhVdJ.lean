/- Texts. -/
import Derived.Test.YtlfclppjhkeljaaGreatPwhVdI
import GoSem.Machine.Frame
set_option linter.all false
open Bool renaming and_eq_true→YW
open List renaming mem_of_getElem?→YK,eq_nil_of_length_eq_zero→Yx,getElem?_toArray→YP,getElem?_cons_zero→YM,getElem?_cons_succ→Y7
open Nat renaming le_refl→Yj
open Option renaming map_some→Yda,getD_some→Yha
namespace Go.Vd
variable[Pins]
def ZcW(P:Program)(t:TypeId)(a x:Value)(H:AH):Option AH:=
 match a,P.info? t with
 | .pointer (some ⟨b,o,none⟩),some i=>if x.cells.size=i.size/\Zy x.cells.toList=true then H.puts b o x.cells.toList else none
 | _,_=>none
def ZaY(P:Program)(t:TypeId):Option (TypeId×TypeInfo×Value):=
 match P.underlying t with
 | some (.slice e)=>match P.info? e with
  | some i=>match i.zero with
   | some z=>if z.cells.size=i.size/\plain z=true/\Zy z.cells.toList=true then some (e,i,z) else none
   | none=>none
  | none=>none
 | _=>none
def Zam(P:Program)(at_:Array TypeId)(s x:Value)(H:AH):Option (Value×AH):=
 match at_[0]?.bind (ZaY P),at_[1]?.bind P.underlying with
 | some (_,i,_),some (.slice _) =>
  match x with
  | .slice none _ _=>H.append i.size i.bytes s 0 []
  | .slice (some ⟨b,o,none⟩) m _=>match H.cells b o (m*i.size) with
   | some vs=>if Zy vs=true then H.append i.size i.bytes s m vs else none
   | none=>none
  | .slice (some _) 0 0=>H.append i.size i.bytes s 0 []
  | _=>none
 | some (_,i,z),some (.int _) =>
  match x with
  | .int _ n=>if 0≤n/\n≤9223372036854775807/\n.toNat*i.bytes≤2 ^ 48 then H.append i.size i.bytes s n.toNat (Zac z n.toNat) else none
  | _=>none
 | _,_=>none
def Zfv(P:Program)(at_:Array TypeId)(d s:Value)(H:AH):Option (Value×AH):=
 match at_[0]?.bind (ZaY P) with
 | some (_,i,_) =>
  match d,s with
  | .slice da dl _,.slice sa sl _ =>
   if Nat.min sl dl=0 then some (.int .i64 0,H) else
   match da,sa with
   | some ⟨db,dof,none⟩,some ⟨sb,so,none⟩ =>
    match H.cells sb so (Nat.min sl dl*i.size) with
    | some vs=>(H.puts db dof vs).map λH'=>(.int .i64 (Nat.min sl dl:Nat),H')
    | none=>none
   | _,_=>none
  | _,_=>none
 | none=>none
def Zer(P:Program)(at_:Array TypeId)(d:Value)(H:AH):Option AH:=
 match at_[0]?.bind (ZaY P) with
 | some (_,_,z) =>
  match d with
  | .slice none _ _=>some H
  | .slice (some ⟨b,o,none⟩) n _=>if n=0 then some H else H.puts b o (Zac z n)
  | _=>none
 | none=>none
def ZeH(P:Program)(t:TypeId)(m k v:Value)(H:AH):Option AH:=
 match P.underlying t,m with
 | some (.map kt _),.map (some b) =>
  match P.underlying kt,H.get b with
  | some d,some (.map es clock) =>
   if ZgA P kt && Zbq k then
    match ZeG d k es 0 with
    | some (some (i,_))=>some (H.upd b (.map (es.set i (k,v)) clock))
    | some none=>some (H.upd b (.map (es++[(k,v)]) (clock+1)))
    | none=>none
   else none
  | _,_=>none
 | _,_=>none
def Zic(P:Program)(at_:Array TypeId)(m k:Value)(H:AH):Option AH:=
 match at_[0]?.bind P.underlying,m with
 | some (.map kt _),.map (some b) =>
  match P.underlying kt,H.get b with
  | some d,some (.map es clock) =>
   if ZgA P kt then
    match ZeG d k es 0 with
    | some (some (i,_))=>some (H.upd b (.map (es.eraseIdx i) clock))
    | some none=>some (H.upd b (.map es clock))
    | none=>none
   else none
  | _,_=>none
 | _,_=>none
def ZiH(P:Program)(ρ:Operand->Value)(H:AH):Op->Option (Value×AH)
 | .store t a x=>(ZcW P t (ρ a) (ρ x) H).map λH'=>(undef,H')
 | .mapUpdate t m k v=>(ZeH P t (ρ m) (ρ k) (ρ v) H).map λH'=>(undef,H')
 | .insert t m k v=>(ZeH P t (ρ m) (ρ k) (ρ v) H).map λH'=>(undef,H')
 | .call { callee:=.builtin .append,args,argTypes }=>match args.toList with
  | [s,x]=>Zam P argTypes (ρ s) (ρ x) H
  | _=>none
 | .call { callee:=.builtin .copy,args,argTypes }=>match args.toList with
  | [d,s]=>Zfv P argTypes (ρ d) (ρ s) H
  | _=>none
 | .call { callee:=.builtin .clear,args,argTypes }=>match args.toList with
  | [d]=>(Zer P argTypes (ρ d) H).map λH'=>(.tuple #[],H')
  | _=>none
 | .call { callee:=.builtin .delete,args,argTypes }=>match args.toList with
  | [m,k]=>(Zic P argTypes (ρ m) (ρ k) H).map λH'=>(.tuple #[],H')
  | _=>none
 | _=>none
variable{P:Program}{μ:Mu}{H:AH}{w:World}
theorem VRel.unit:VRel μ (.tuple #[]) (.tuple #[]):=.tuple _ _ rfl λi=>by simpa using VRel.nilIface
theorem Zk4{t:TypeId}{a a' x x':Value}{H':AH}(h:Rel μ H w)(ha:VRel μ a a')(hx:VRel μ x x')(hr:ZcW P t a x H=some H') :
  ∃w',(Instr.storeAt t a' x').run P w=.ok () w'/\Rel μ H' w'/\Keep μ μ H H' w w':=by
 unfold ZcW at hr;split at hr
 ·rename_i b o i hi
  cases ha with
  | ptr _ _ p hb =>
   by_cases hc:x.cells.size=i.size/\Zy x.cells.toList=true
   ·rw[if_pos hc]at hr;have hxc:=hx.cells;obtain⟨w',e1,e2,e3⟩:=h.puts hb hr (ARel.toList.1 hxc) (λv hv=>List.all_eq_true.1 hc.2 v hv) P;refine⟨w',?_,e2,e3⟩;have hsz:x'.cells.size=i.size:=by rw[← hxc.1];exact hc.1
    simp only[Instr.storeAt,Instr.sureAddr,Sem.run_bind,Sem.run_pure,Result.andThen_ok,storeVar,ZaQ hi,Sem.run_ite,hsz,ne_eq,not_true_eq_false,if_false];exact e1
   ·rw[if_neg hc]at hr;cases hr
 ·cases hr
theorem ZfC{z:Value}(h:plain z=true)(h1:Zy z.cells.toList=true):∀v∈z.cells.toList,∀μ,∃u,VRel μ u v/\u.oneCell'=true:=by
 intro v hv μ;refine⟨v,?_,List.all_eq_true.1 h1 v hv⟩;cases z with
 | agg cs =>
  have:cs.toList.all Zfa=true:=h;exact Zfw μ (List.all_eq_true.1 this v hv)
 | _ =>
  have:v∈[_]:=hv;rw[List.mem_singleton.1 this];exact Zfw μ h
theorem ZcI{t:TypeId}{e:TypeId}{i:TypeInfo}{z:Value}(h:ZaY P t=some (e,i,z)) :
  P.underlying t=some (.slice e)/\P.info? e=some i/\i.zero=some z/\z.cells.size=i.size/\plain z=true/\Zy z.cells.toList=true:=by
 unfold ZaY at h;split at h
 ·rename_i e' hu
  split at h
  ·rename_i i' hi
   split at h
   ·rename_i z' hz
    split at h
    ·rename_i hc
     cases h
     exact⟨hu,hi,hz,hc.1,hc.2.1,hc.2.2⟩
    ·cases h
   ·cases h
  ·cases h
 ·cases h
theorem Zit{z:Value}(hz:plain z=true)(n:Nat):LRel μ (Zac z n) (Zac z n):=by
 refine⟨rfl,λj a b ha hb=>?_⟩;rw[ha]at hb;cases hb;have hm:=YK ha;obtain⟨l,hl,hal⟩:=List.mem_flatten.1 hm;rw[(List.mem_replicate.1 hl).2]at hal;obtain⟨q,hq⟩:=List.mem_iff_getElem?.1 hal;exact (ARel.toList.1 (ZaT μ hz).cells).2 q a a hq hq
theorem Zir{z:Value}(hz:Zy z.cells.toList=true)(n:Nat):∀v∈Zac z n,v.oneCell'=true:=by
 intro a hm;obtain⟨l,hl,hal⟩:=List.mem_flatten.1 hm;rw[(List.mem_replicate.1 hl).2]at hal;exact List.all_eq_true.1 hz a hal
theorem Zj6{at_:Array TypeId}{ty:TypeId}{s s' x x' r:Value}{H':AH}(h:Rel μ H w)(hs:VRel μ s s')(hx:VRel μ x x')(hr:Zam P at_ s x H=some (r,H')) :
  ∃r' w' μ',(Builtin.append_ at_ ty #[s',x']).run P w=.ok r' w'/\VRel μ' r r'/\Rel μ' H' w'/\Keep μ μ' H H' w w':=by
 unfold Zam at hr;split at hr
 ·rename_i e i z d he hd
  obtain⟨t0,h0,he⟩:=Option.bind_eq_some_iff.1 he;obtain⟨t1,h1,hd⟩:=Option.bind_eq_some_iff.1 hd;obtain⟨hu,hi,hz,hzs,hzp,hz1⟩:=ZcI he
  have runs:∀n vs',Zig P w at_ i.size x' n vs'->AppRuns P w at_ ty e i z x' n vs':=λn vs' ha =>
   ⟨λbase len cap hle=>ZjZ P w at_ ty t0 e i base len cap x' n vs' h0 hu hi ha hle,
    λbase len cap old hlt hb hc ho=>Zjw P w at_ ty t0 e i z base len cap x' n vs' old h0 hu hi hz ha hlt hb hc ho⟩
  split at hr
  ·rename_i m c
   cases hx
   exact h.append hzs (ZfC hzp hz1) hs hr (runs 0 [] ⟨⟨t1,_,h1,hd,.inr ⟨_,rfl⟩⟩,rfl,λk=>rfl⟩) .nil Xs
  ·rename_i b o m c
   cases hc:H.cells b o (m*i.size) with
   | none=>rw[hc]at hr;cases hr
   | some vs =>
    rw[hc]at hr;dsimp only at hr;by_cases hone:Zy vs=true
    ·rw[if_pos hone]at hr;cases hx with
     | slice _ _ _ _ p hb =>
      obtain⟨vs',e1,e2,e3,_⟩:=h.cells hb hc P;exact h.append hzs (ZfC hzp hz1) hs hr (runs m vs' ⟨⟨t1,_,h1,hd,.inr ⟨_,rfl⟩⟩,rfl,λk=>e1 _ rfl⟩) e2 (λv hv=>List.all_eq_true.1 hone v hv)
     | sliceEnd _ _ o' p hb =>
      have hvs:vs=[]:=Yx (by rw[(AH.cells_get hc).1];omega);subst hvs
      exact h.append hzs (ZfC hzp hz1) hs hr (runs 0 [] ⟨⟨t1,_,h1,hd,.inr ⟨_,rfl⟩⟩,rfl,λk=>by
       show (loadCells _ (0*i.size)).run P _=_;rw[Nat.zero_mul];rfl⟩) .nil Xs
    ·rw[if_neg hone]at hr;cases hr
  ·rename_i ad hne
   have run0:∀a',x'=.slice (some a') 0 0->∃r' w' μ',(Builtin.append_ at_ ty #[s',x']).run P w=.ok r' w'/\VRel μ' r r'/\Rel μ' H' w'/\Keep μ μ' H H' w w':=by
    intro a' ex;subst ex
    exact h.append hzs (ZfC hzp hz1) hs hr (runs 0 [] ⟨⟨t1,_,h1,hd,.inr ⟨_,rfl⟩⟩,rfl,λk=>by
       show (loadCells _ (0*i.size)).run P _=_;rw[Nat.zero_mul];rfl⟩) .nil Xs
   cases hx with
   | slice b o _ _ p hb=>exact absurd rfl (hne b o)
   | sliceEnd _ _ o' p hb=>exact run0 _ rfl
   | void a'=>exact run0 _ rfl
  ·cases hr
 ·rename_i e i z d he hd
  obtain⟨t0,h0,he⟩:=Option.bind_eq_some_iff.1 he;obtain⟨t1,h1,hd⟩:=Option.bind_eq_some_iff.1 hd;obtain⟨hu,hi,hz,hzs,hzp,hz1⟩:=ZcI he;split at hr
  ·rename_i k n
   by_cases hc:0≤n/\n≤9223372036854775807/\n.toNat*i.bytes≤2 ^ 48
   ·rw[if_pos hc]at hr;cases hx
    have ha:AppendsZ P at_ i (.int k n) n.toNat:=⟨⟨t1,_,h1,hd⟩,⟨k,by rw[Int.toNat_of_nonneg hc.1]⟩,hc.2.2,Xo⟩;have hzc:(Builtin.zeroCells z.cells n.toNat).toList=Zac z n.toNat:=Zf1 _ _;refine h.append (elem:=e) hzs (ZfC hzp hz1) hs hr (vs':=Zac z n.toNat) ⟨λbase len cap hle=>?_,λbase len cap old hlt hb hcp ho=>?_⟩ (Zit hzp _) (Zir hz1 _)
    ·rw[Zi4 P w at_ ty t0 e i z base len cap _ n.toNat h0 hu hi hz hzs ha hle,hzc];try (cases base <;> rfl)
    ·have:=ZiG P w at_ ty t0 e i z base len cap _ n.toNat old h0 hu hi hz hzs ha hlt hb hcp ho;rw[hzc]at this;exact this
   ·rw[if_neg hc]at hr;cases hr
  ·cases hr
 ·cases hr
theorem Zls{at_:Array TypeId}{ty:TypeId}{d d' s s' r:Value}{H':AH}(h:Rel μ H w)(hd:VRel μ d d')(hs:VRel μ s s')(hr:Zfv P at_ d s H=some (r,H')) :
  ∃r' w',(Builtin.copy_ at_ ty #[d',s']).run P w=.ok r' w'/\VRel μ r r'/\Rel μ H' w'/\Keep μ μ H H' w w':=by
 unfold Zfv at hr;split at hr
 ·rename_i e i z he
  obtain⟨t0,h0,he⟩:=Option.bind_eq_some_iff.1 he;obtain⟨hu,hi,hz,hzs,hzp,hz1⟩:=ZcI he;split at hr
  ·rename_i da dl dc sa sl sc
   obtain⟨da',dc',rfl⟩:∃da' dc',d'=.slice da' dl dc':=by cases hd <;> exact⟨_,_,rfl⟩
   obtain⟨sa',sc',rfl⟩:∃sa' sc',s'=.slice sa' sl sc':=by cases hs <;> exact⟨_,_,rfl⟩
   have run:∀(vs:List Value),(Builtin.firstCells i.size (Nat.min sl dl) (.slice sa' sl sc')).run P w=.ok vs.toArray w ->
     (Builtin.copy_ at_ ty #[.slice da' dl dc',.slice sa' sl sc']).run P w=((match da' with|some a=>storeCells a vs|none=>pure ()).run P w).andThen λ_ w'=>.ok (.int .i64 (Nat.min sl dl:Nat)) w':=by
    intro vs hv;simp only[Builtin.copy_,h0,Sem.run_bind,ZL hu,ZaQ hi,Result.andThen_ok,Sem.run_pure,YP,YM,Y7,Builtin.lenOf,hv];cases da'
    ·rfl
    ·simp only[Sem.run_bind,Sem.run_pure];rfl
   by_cases hm:Nat.min sl dl=0
   ·rw[if_pos hm]at hr;cases hr
    have hf:(Builtin.firstCells i.size (Nat.min sl dl) (.slice sa' sl sc')).run P w=.ok ([]:List Value).toArray w:=by
     rw[hm];cases sa' with
     | none=>rfl
     | some a=>show (loadCells a (0*i.size)).run P w=_;rw[Nat.zero_mul];rfl
    refine⟨.int .i64 0,w,?_,.int _ _,h,.refl _ _ _⟩;rw[run [] hf,hm];cases da' <;> rfl
   ·rw[if_neg hm]at hr;split at hr
    ·rename_i db dof sb so
     cases hc:H.cells sb so (Nat.min sl dl*i.size) with
     | none=>rw[hc]at hr;cases hr
     | some vs =>
      rw[hc]at hr;dsimp only at hr;cases hp:H.puts db dof vs with
      | none=>rw[hp]at hr;cases hr
      | some H1 =>
       rw[hp]at hr;cases hr;cases hs with
       | sliceEnd=>exact absurd Xs hm
       | slice _ _ _ _ p hb =>
        cases hd with
        | sliceEnd=>exact absurd Xs hm
        | slice _ _ _ _ q hq =>
         obtain⟨vs',e1,e2,e3,e4⟩:=h.cells hb hc P;obtain⟨w',f1,f2,f3⟩:=h.puts hq hp e2 e4 P;refine⟨_,w',?_,.int _ _,f2,f3⟩;rw[run vs' (e1 w rfl)];dsimp only;rw[f1];rfl
    ·cases hr
  ·cases hr
 ·cases hr
theorem Zkk{at_:Array TypeId}{ty:TypeId}{d d':Value}{H':AH}(h:Rel μ H w)(hd:VRel μ d d')(hr:Zer P at_ d H=some H') :
  ∃w',(Builtin.clear_ at_ ty #[d']).run P w=.ok (.tuple #[]) w'/\Rel μ H' w'/\Keep μ μ H H' w w':=by
 unfold Zer at hr;split at hr
 ·rename_i e i z he
  obtain⟨t0,h0,he⟩:=Option.bind_eq_some_iff.1 he;obtain⟨hu,hi,hz,hzs,hzp,hz1⟩:=ZcI he;split at hr
  ·cases hd;cases hr
   refine⟨w,?_,h,.refl _ _ _⟩;simp only[Builtin.clear_,h0,Sem.run_bind,ZL hu,Result.andThen_ok,YP,YM,Sem.run_pure]
  ·rename_i b o n c
   by_cases hn:n=0
   ·rw[if_pos hn]at hr;cases hr;obtain⟨a',c',rfl⟩:∃a' c',d'=.slice (some a') 0 c':=by subst hn;cases hd <;> exact⟨_,_,rfl⟩
    refine⟨w,?_,h,.refl _ _ _⟩;simp only[Builtin.clear_,h0,Sem.run_bind,ZL hu,Result.andThen_ok,YP,YM,Sem.run_pure]
   ·rw[if_neg hn]at hr;cases hd with
    | sliceEnd=>exact absurd rfl hn
    | slice _ _ _ _ p hb =>
     obtain⟨w',f1,f2,f3⟩:=h.puts hb hr (Zit hzp n) (Zir hz1 n) P;refine⟨w',?_,f2,f3⟩;obtain⟨m,rfl⟩:∃m,n=m+1:=⟨n - 1,Xo⟩;simp only[Builtin.clear_,h0,Sem.run_bind,ZL hu,Result.andThen_ok,YP,YM,Zdi hi hz];rw[show (Builtin.zeroCells z.cells (m+1)).toList=Zac z (m+1) from Zf1 _ _,f1];rfl
  ·cases hr
 ·cases hr
theorem Rel.setMap{b:Nat}{p:Pl}{es es1:List (Value×Value)}{clock clock1:Nat}{es1':Array MapEntry}(h:Rel μ H w)(hb:μ b=some p)(hg:H.get b=some (.map es clock))
  (he:All2 (λ(e:Value×Value) (e':MapEntry)=>VRel μ e.1 e'.key/\VRel μ e.2 e'.val) es1 es1'.toList) :
  (setObj p.blk (.map es1' clock1)).run P w=.ok () (ZcQ w p.blk (.map es1' clock1))/\Rel μ (H.upd b (.map es1 clock1)) (ZcQ w p.blk (.map es1' clock1)) /\
   Keep μ μ H (H.upd b (.map es1 clock1)) w (ZcQ w p.blk (.map es1' clock1)):=by
 obtain⟨o,g1,g2⟩:=h.ok b p hb;rw[hg]at g1;cases g1;obtain⟨es',e1,_⟩:=g2;have hlt:=(h.lt b p hb).2;have ups:(H.upd b (.map es1 clock1)).get b=some (.map es1 clock1):=by simp[AH.upd]
 have upn:∀x,x≠b->(H.upd b (.map es1 clock1)).get x=H.get x:=λx hx=>by simp[AH.upd,hx]
 refine⟨by simp only[setObj,Sem.run,e1];rfl,⟨λx q hx=>?_,λx q hx=>?_,λx y q q' ox oy hx hy hne hq gx gy=>?_,λx hx=>?_,h.pin.keep ?k⟩,?k⟩
 ·rw[Zeg];exact h.lt x q hx
 ·by_cases hxb:x=b
  ·subst hxb;rw[hb]at hx;cases hx;exact⟨_,ups,es1',by rw[ZaV hlt,if_pos rfl],he⟩
  ·obtain⟨ox,o1,o2⟩:=h.ok x q hx;rw[upn x hxb];refine⟨ox,o1,?_⟩;by_cases hblk:q.blk=p.blk
   ·have hs:=h.apart b x p q _ _ hb hx (Ne.symm hxb) hblk.symm hg o1;cases ox with
    | dead=>trivial
    | map _ _=>exact hs.elim
    | row _ _=>exact hs.elim
   ·exact o2.congr (.refl _) (by rw[ZaV hlt,if_neg hblk])
 ·have old:∀y oy,(H.upd b (.map es1 clock1)).get y=some oy->∃oy0,H.get y=some oy0/\(oy=oy0∨(y=b/\oy0=.map es clock/\oy=.map es1 clock1)):=by
   intro y oy hy;by_cases hyb:y=b
   ·subst hyb;rw[ups]at hy;cases hy;exact⟨_,hg,.inr ⟨rfl,rfl,rfl⟩⟩
   ·rw[upn y hyb]at hy;exact⟨_,hy,.inl rfl⟩
  obtain⟨ox0,x0,hx0⟩:=old x ox gx;obtain⟨oy0,y0,hy0⟩:=old y oy gy;have hs:=h.apart x y q q' _ _ hx hy hne hq x0 y0;rcases hx0 with rfl|⟨_,rfl,rfl⟩
  ·rcases hy0 with rfl|⟨_,rfl,rfl⟩
   ·exact hs
   ·cases ox with
    | dead=>trivial
    | map _ _=>exact hs.elim
    | row k _=>cases k <;> exact hs.elim
  ·rcases hy0 with rfl|⟨_,rfl,rfl⟩
   ·cases oy with
    | dead=>trivial
    | map _ _=>exact hs.elim
    | row k _=>exact hs.elim
   ·exact hs.elim
 ·have hxb:x≠b:=λe=>by
   subst e;have:=h.fresh x hx;rw[hg]at this;cases this
  rw[upn x hxb];exact h.fresh x hx
 ·refine⟨.refl μ,Yj _,rfl,rfl,rfl,Yj _,by rw[Zeg];exact Yj _,λj hj hro=>?_,λx _ hx=>⟨hx,.inl (upn x λe=>by subst e;rw[hx]at hb;cases hb)⟩,λx cs hx=>?_,λx q hx hx0=>by rw[hx0]at hx;cases hx⟩
  ·rw[ZaV hlt];by_cases hjp:j=p.blk
   ·obtain⟨cs',e⟩:=hro b p hb hjp.symm;rw[hg]at e;cases e
   ·rw[if_neg hjp]
  ·rw[upn x λe=>by subst e;rw[hg]at hx;cases hx];exact hx
theorem ZnG{d:TypeDesc}{k:Value}:∀(es:List (Value×Value)) (i j:Nat) (v:Value),ZeG d k es i=some (some (j,v))->i≤j/\∃e,es[j-i]? = some e/\Instr.sameNow d k e.1=some true:=by
 intro es;induction es with
 | nil=>intro i j v h;simp[ZeG]at h
 | cons e es ih =>
  intro i j v h;simp only[ZeG]at h;split at h
  ·rename_i hs;cases h;exact⟨Yj _,e,Xs,hs⟩
  ·obtain⟨a,e',b,c⟩:=ih (i+1) j v h;refine⟨Xo,e',?_,c⟩;rw[show j-i=(j-(i+1))+1 from Xo,Y7];exact b
  ·cases h
theorem ZkO{a b:ByteArray}(h:(a == b)=true):a=b:=by
 have h2:(a.data == b.data)=true:=h;have h3:a.data=b.data:=eq_of_beq h2;cases a;cases b;cases h3;rfl
theorem ZhJ{d:TypeDesc}{k x:Value}(h:Instr.sameNow d k x=some true):Instr.sameBits 10000 x k=true/\x=k:=by
 unfold Instr.sameNow at h;split at h
 ·rename_i k1 a k2 b
  split at h
  ·rename_i hk
   simp at h;subst hk;subst h;exact⟨by simp[Instr.sameBits],rfl⟩
  ·cases h
 ·have h:=Option.some.inj h;obtain rfl:=ZkO h;exact⟨by simpa [Instr.sameBits] using h,rfl⟩
 ·simp at h;subst h;exact⟨by simp[Instr.sameBits],rfl⟩
 ·cases h
theorem Zhr{t:TypeId}{m m' k k' v v':Value}{H':AH}(h:Rel μ H w)(hm:VRel μ m m')(hk:VRel μ k k')(hv:VRel μ v v')(hr:ZeH P t m k v H=some H') :
  ∃w',(Instr.mapUpdate t m' k' v').run P w=.ok () w'/\Rel μ H' w'/\Keep μ μ H H' w w':=by
 unfold ZeH at hr;split at hr
 ·rename_i kt et b hu
  cases hm with
  | map _ p hb =>
   split at hr
   ·rename_i d es clock hd hg
    by_cases hc:(ZgA P kt && Zbq k)=true
    ·rw[if_pos hc]at hr;simp only[YW]at hc;have hkk:=Zgs hc.2 hk;subst hkk;obtain⟨o,g1,g2⟩:=h.ok b p hb;rw[hg]at g1;cases g1;obtain⟨es',e1,e2⟩:=g2;have hgo:(getObj p.blk).run P w=.ok (.map es' clock) w:=by simp only[getObj,Sem.run,e1]
     split at hr
     ·rename_i i v0 hf
      cases hr
      obtain⟨r',f1,f2⟩:=Ze1 hk es es'.toList 0 _ e2 hf;cases r' with
      | none=>exact f2.elim
      | some x =>
       obtain⟨i',v0'⟩:=x;obtain⟨rfl,_⟩:=f2;obtain⟨_,e,he,hs⟩:=ZnG es 0 i v0 hf;rw[Nat.sub_zero]at he;obtain⟨e',he',hrel⟩:=All2.get e2 he;obtain⟨_,hxk⟩:=ZhJ hs
       have hke:e'.key=k':=by
        have:=Zgs (by rw[hxk];exact hc.2) hrel.1;rw[this,hxk]
       have hei:es'[i]? = some e':=by simpa using he'
       have hsb:Instr.sameBits 10000 e'.key k'=true:=by
        rw[hke];have:=(ZhJ hs).1;rw[hxk]at this;exact this
       have hes:All2 (λ(e:Value×Value) (e':MapEntry)=>VRel μ e.1 e'.key/\VRel μ e.2 e'.val) (es.set i (k',v)) (es'.modify i λe=>{ e with key:=k',val:=v' }).toList:=by
        have hl:=e2.1;refine⟨by simpa using hl,λj a c ha hcj=>?_⟩;simp only[List.getElem?_set,Array.toList_modify,List.getElem?_modify]at ha hcj;by_cases hj:i=j
        ·subst hj;rw[if_pos rfl]at ha;split at ha
         ·cases ha
          rw[he']at hcj;simp at hcj;subst hcj;exact⟨hk,hv⟩
         ·cases ha
        ·rw[if_neg hj]at ha;simp[hj]at hcj;exact e2.2 j a c ha (by simpa using hcj)
       obtain⟨s1,s2,s3⟩:=h.setMap (P:=P) (clock1:=clock) hb hg hes;refine⟨_,?_,s2,s3⟩;simp only[Instr.mapUpdate,Sem.run_bind,ZL hu,Result.andThen_ok,hgo,Zc6 hc.1,ZdG hd f1,hei,Yda,Yha,Instr.keyThatStays,hsb,if_true,Sem.run_pure,s1]
     ·rename_i hf
      cases hr
      obtain⟨r',f1,f2⟩:=Ze1 hk es es'.toList 0 _ e2 hf;cases r' with
      | some x=>exact f2.elim
      | none =>
       have hes:All2 (λ(e:Value×Value) (e':MapEntry)=>VRel μ e.1 e'.key/\VRel μ e.2 e'.val) (es++[(k',v)]) (es'.push { key:=k',val:=v',born:=clock }).toList:=by
        rw[Array.toList_push];exact e2.append (.cons ⟨hk,hv⟩ .nil)
       obtain⟨s1,s2,s3⟩:=h.setMap (P:=P) (clock1:=clock+1) hb hg hes;refine⟨_,?_,s2,s3⟩;simp only[Instr.mapUpdate,Sem.run_bind,ZL hu,Result.andThen_ok,hgo,Zc6 hc.1,ZdG hd f1,s1]
     ·cases hr
    ·rw[if_neg hc]at hr;cases hr
   ·cases hr
 ·cases hr
theorem ZjW{at_:Array TypeId}{ty:TypeId}{m m' k k':Value}{H':AH}(h:Rel μ H w)(hm:VRel μ m m')(hk:VRel μ k k')(hr:Zic P at_ m k H=some H') :
  ∃w',(Builtin.delete_ at_ ty #[m',k']).run P w=.ok (.tuple #[]) w'/\Rel μ H' w'/\Keep μ μ H H' w w':=by
 unfold Zic at hr;split at hr
 ·rename_i kt et b hu
  obtain⟨t0,h0,hu⟩:=Option.bind_eq_some_iff.1 hu;cases hm with
  | map _ p hb =>
   split at hr
   ·rename_i d es clock hd hg
    by_cases hc:ZgA P kt=true
    ·rw[if_pos hc]at hr;obtain⟨o,g1,g2⟩:=h.ok b p hb;rw[hg]at g1;cases g1;obtain⟨es',e1,e2⟩:=g2;have hgo:(getObj p.blk).run P w=.ok (.map es' clock) w:=by simp only[getObj,Sem.run,e1]
     split at hr
     ·rename_i i v0 hf
      cases hr
      obtain⟨r',f1,f2⟩:=Ze1 hk es es'.toList 0 _ e2 hf;cases r' with
      | none=>exact f2.elim
      | some x =>
       obtain⟨i',v0'⟩:=x;obtain⟨rfl,_⟩:=f2
       have hes:All2 (λ(e:Value×Value) (e':MapEntry)=>VRel μ e.1 e'.key/\VRel μ e.2 e'.val) (es.eraseIdx i) (es'.eraseIdxIfInBounds i).toList:=by
        rw[Array.toList_eraseIdxIfInBounds];have hl:=e2.1;refine⟨by simp only[List.length_eraseIdx,hl],λj a c ha hcj=>?_⟩;rw[List.getElem?_eraseIdx]at ha hcj;split at ha
        ·rename_i hj;rw[if_pos hj]at hcj;exact e2.2 j a c ha hcj
        ·rename_i hj;rw[if_neg hj]at hcj;exact e2.2 _ a c ha hcj
       obtain⟨s1,s2,s3⟩:=h.setMap (P:=P) (clock1:=clock) hb hg hes;refine⟨_,?_,s2,s3⟩;simp only[Builtin.delete_,h0,YP,YM,Y7,Sem.run_bind,ZL hu,Result.andThen_ok,hgo,Zc6 hc,ZdG hd f1,s1,Sem.run_pure]
     ·rename_i hf
      cases hr
      obtain⟨r',f1,f2⟩:=Ze1 hk es es'.toList 0 _ e2 hf;cases r' with
      | some x=>exact f2.elim
      | none =>
       obtain⟨s1,s2,s3⟩:=h.setMap (P:=P) (clock1:=clock) hb hg e2;refine⟨_,?_,s2,s3⟩;simp only[Builtin.delete_,h0,YP,YM,Y7,Sem.run_bind,ZL hu,Result.andThen_ok,hgo,Zc6 hc,ZdG hd f1,s1,Sem.run_pure]
     ·cases hr
    ·rw[if_neg hc]at hr;cases hr
   ·cases hr
 ·cases hr
theorem Zmt{s:Sem Unit}{w w':World}(h:s.run P w=.ok () w'):(do s;pure Next.skip:Sem Next).run P w=.ok .skip w':=by
 simp only[Sem.run_bind,h,Result.andThen_ok,Sem.run_pure]
theorem ZjQ{ρ ρ':Operand->Value}{o:Oper}{r:Value}{H':AH}(h:Rel μ H w)(hρ:∀x∈o.op.operands,VRel μ (ρ x) (ρ' x))(hr:ZiH P ρ H o.op=some (r,H')) :
  ∃n r' w' μ',(execOp ρ' o).run P w=.ok n w'/\(n=.value r'∨(n=.skip/\r'=undef))/\VRel μ' r r'/\Rel μ' H' w'/\Keep μ μ' H H' w w':=by
 obtain⟨dst,op,type,pos,after,guard⟩:=o;dsimp only at hρ hr
 have args2:∀{args:Array Operand} {a b:Operand},args.toList=[a,b]->args.map ρ'=#[ρ' a,ρ' b]:=by
  intro args a b hl;apply Array.ext';simp[hl]
 have args1:∀{args:Array Operand} {a:Operand},args.toList=[a]->args.map ρ'=#[ρ' a]:=by
  intro args a hl;apply Array.ext';simp[hl]
 have mem:∀{args:Array Operand} {l:List Operand} {x:Operand},args.toList=l->x∈l->x∈args:=by
  intro args l x hl hx;rw[← hl]at hx;simpa using hx
 unfold ZiH at hr;split at hr
 ·rename_i t a x
  cases hs:ZcW P t (ρ a) (ρ x) H with
  | none=>rw[hs]at hr;cases hr
  | some H1 =>
   rw[hs]at hr;cases hr;obtain⟨w',e1,e2,e3⟩:=Zk4 h (hρ a (by simp[Op.operands])) (hρ x (by simp[Op.operands])) hs;exact⟨.skip,undef,w',μ,Zmt e1,.inr ⟨rfl,rfl⟩,.unit,e2,e3⟩
 ·rename_i t m k v
  cases hs:ZeH P t (ρ m) (ρ k) (ρ v) H with
  | none=>rw[hs]at hr;cases hr
  | some H1 =>
   rw[hs]at hr;cases hr;obtain⟨w',e1,e2,e3⟩:=Zhr h (hρ m (by simp[Op.operands])) (hρ k (by simp[Op.operands])) (hρ v (by simp[Op.operands])) hs;exact⟨.skip,undef,w',μ,Zmt e1,.inr ⟨rfl,rfl⟩,.unit,e2,e3⟩
 ·rename_i t m k v
  cases hs:ZeH P t (ρ m) (ρ k) (ρ v) H with
  | none=>rw[hs]at hr;cases hr
  | some H1 =>
   rw[hs]at hr;cases hr;obtain⟨w',e1,e2,e3⟩:=Zhr h (hρ m (by simp[Op.operands])) (hρ k (by simp[Op.operands])) (hρ v (by simp[Op.operands])) hs;exact⟨.skip,undef,w',μ,Zmt e1,.inr ⟨rfl,rfl⟩,.unit,e2,e3⟩
 ·rename_i args argTypes
  split at hr
  ·rename_i s x hl
   obtain⟨r',w',μ',e1,e2,e3,e4⟩:=Zj6 (ty:=type) h (hρ s (by simp[Op.operands,Call.operands];exact mem hl Xs)) (hρ x (by simp[Op.operands,Call.operands];exact mem hl Xs)) hr;exact⟨.value r',r',w',μ',Ze4 (by show (Builtin.append_ argTypes type (args.map ρ')).run P w=_;rw[args2 hl];exact e1),.inl rfl,e2,e3,e4⟩
  ·cases hr
 ·rename_i args argTypes
  split at hr
  ·rename_i d s hl
   obtain⟨r',w',e1,e2,e3,e4⟩:=Zls (ty:=type) h (hρ d (by simp[Op.operands,Call.operands];exact mem hl Xs)) (hρ s (by simp[Op.operands,Call.operands];exact mem hl Xs)) hr;exact⟨.value r',r',w',μ,Ze4 (by show (Builtin.copy_ argTypes type (args.map ρ')).run P w=_;rw[args2 hl];exact e1),.inl rfl,e2,e3,e4⟩
  ·cases hr
 ·rename_i args argTypes
  split at hr
  ·rename_i d hl
   cases hs:Zer P argTypes (ρ d) H with
   | none=>rw[hs]at hr;cases hr
   | some H1 =>
    rw[hs]at hr;cases hr;obtain⟨w',e1,e2,e3⟩:=Zkk (ty:=type) h (hρ d (by simp[Op.operands,Call.operands];exact mem hl Xs)) hs;exact⟨.value (.tuple #[]),_,w',μ,Ze4 (by show (Builtin.clear_ argTypes type (args.map ρ')).run P w=_;rw[args1 hl];exact e1),.inl rfl,.unit,e2,e3⟩
  ·cases hr
 ·rename_i args argTypes
  split at hr
  ·rename_i m k hl
   cases hs:Zic P argTypes (ρ m) (ρ k) H with
   | none=>rw[hs]at hr;cases hr
   | some H1 =>
    rw[hs]at hr;cases hr;obtain⟨w',e1,e2,e3⟩:=ZjW (ty:=type) h (hρ m (by simp[Op.operands,Call.operands];exact mem hl Xs)) (hρ k (by simp[Op.operands,Call.operands];exact mem hl Xs)) hs;exact⟨.value (.tuple #[]),_,w',μ,Ze4 (by show (Builtin.delete_ argTypes type (args.map ρ')).run P w=_;rw[args2 hl];exact e1),.inl rfl,.unit,e2,e3⟩
  ·cases hr
 ·cases hr
end Go.Vd
