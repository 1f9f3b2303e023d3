/- Texts. -/
import Derived.Test.YtlfclppjhkeljaaGreatPwhWs
import Derived.Calls
import Derived.Below
import Derived.Laws.Sem
set_option linter.all false
open Array renaming getD_eq_getD_getElem?→YD,getElem?_eq_getElem→YH,getElem?_eq_none→Yca
open List renaming getElem?_append→Yba
open Nat renaming le_refl→Yj
open Option renaming getD_some→Yha
namespace Go.Vd
structure Pl where
 blk:Nat
 off:Nat
 exs:Nat
 sz:Nat
abbrev Mu:=Nat->Option Pl
def Le(μ μ':Mu):Prop:=∀b p,μ b=some p->μ' b=some p
theorem Le.refl(μ:Mu):Le μ μ:=λ_ _ h=>h
theorem Le.trans{a b c:Mu}(h:Le a b)(k:Le b c):Le a c:=λ_ _ e=>k _ _ (h _ _ e)
inductive VRel(μ:Mu):Value->Value->Prop
 | bool (b:Bool):VRel μ (.bool b) (.bool b)
 | int (k:IntKind) (n:Int):VRel μ (.int k n) (.int k n)
 | string (s:ByteArray):VRel μ (.string s) (.string s)
 | ptrNil:VRel μ (.pointer none) (.pointer none)
 | ptr (b o:Nat) (p:Pl):μ b=some p->VRel μ (.pointer (some ⟨b,o,none⟩)) (.pointer (some ⟨p.blk,p.off+o,none⟩))
 | sliceNil:VRel μ (.slice none 0 0) (.slice none 0 0)
 | slice (b o n c:Nat) (p:Pl):μ b=some p->VRel μ (.slice (some ⟨b,o,none⟩) n c) (.slice (some ⟨p.blk,p.off+o,none⟩) n (c+p.exs))
 | sliceEnd (b o o':Nat) (p:Pl):μ b=some p->VRel μ (.slice (some ⟨b,o,none⟩) 0 0) (.slice (some ⟨p.blk,o',none⟩) 0 0)
 | void (a:Addr):VRel μ (.slice (some ⟨0,0,some 0⟩) 0 0) (.slice (some a) 0 0)
 | mapNil:VRel μ (.map none) (.map none)
 | map (b:Nat) (p:Pl):μ b=some p->VRel μ (.map (some b)) (.map (some p.blk))
 | func (fn:Fn) (a a' c c':Array Value):a.size=a'.size->(∀i,VRel μ (a.getD i .nilIface) (a'.getD i .nilIface)) ->
   c.size=c'.size->(∀i,VRel μ (c.getD i .nilIface) (c'.getD i .nilIface))->VRel μ (.func fn a c) (.func fn a' c')
 | nilFunc:VRel μ .nilFunc .nilFunc
 | iface (t:TypeId) (v v':Value):VRel μ v v'->VRel μ (.iface t v) (.iface t v')
 | nilIface:VRel μ .nilIface .nilIface
 | agg (a a':Array Value):a.size=a'.size->(∀i,VRel μ (a.getD i .nilIface) (a'.getD i .nilIface))->VRel μ (.agg a) (.agg a')
 | tuple (a a':Array Value):a.size=a'.size->(∀i,VRel μ (a.getD i .nilIface) (a'.getD i .nilIface))->VRel μ (.tuple a) (.tuple a')
theorem VRel.mono{μ μ':Mu}(h:Le μ μ'){v v':Value}(r:VRel μ v v'):VRel μ' v v':=by
 induction r with
 | bool b=>exact .bool b
 | int k n=>exact .int k n
 | string s=>exact .string s
 | ptrNil=>exact .ptrNil
 | ptr b o p e=>exact .ptr b o p (h _ _ e)
 | sliceNil=>exact .sliceNil
 | slice b o n c p e=>exact .slice b o n c p (h _ _ e)
 | sliceEnd b o o' p e=>exact .sliceEnd b o o' p (h _ _ e)
 | void a=>exact .void a
 | mapNil=>exact .mapNil
 | map b p e=>exact .map b p (h _ _ e)
 | func fn a a' c c' e _ e2 _ i1 i2=>exact .func fn a a' c c' e i1 e2 i2
 | nilFunc=>exact .nilFunc
 | iface t v v' _ i=>exact .iface t v v' i
 | nilIface=>exact .nilIface
 | agg a a' e _ i=>exact .agg a a' e i
 | tuple a a' e _ i=>exact .tuple a a' e i
def ARel(μ:Mu)(a a':Array Value):Prop:=a.size=a'.size/\∀i,VRel μ (a.getD i .nilIface) (a'.getD i .nilIface)
def All2{α β:Type}(R:α->β->Prop)(l:List α)(l':List β):Prop:=
 l.length=l'.length/\∀(i:Nat) a b,l[i]? = some a->l'[i]? = some b->R a b
def LRel(μ:Mu)(a a':List Value):Prop:=All2 (VRel μ) a a'
theorem All2.nil{α β:Type}{R:α->β->Prop}:All2 R [] []:=⟨rfl,λ_ _ _ h=>by simp at h⟩
theorem All2.cons{α β:Type}{R:α->β->Prop}{a:α}{b:β}{l:List α}{l':List β}(h:R a b)(t:All2 R l l'):All2 R (a::l) (b::l'):=by
 refine⟨by simp[t.1],λi x y hx hy=>?_⟩;cases i with
 | zero=>simp at hx hy;subst hx;subst hy;exact h
 | succ i=>exact t.2 i x y (by simpa using hx) (by simpa using hy)
theorem All2.head{α β:Type}{R:α->β->Prop}{a:α}{b:β}{l:List α}{l':List β}(h:All2 R (a::l) (b::l')):R a b:=h.2 0 a b rfl rfl
theorem All2.tail{α β:Type}{R:α->β->Prop}{a:α}{b:β}{l:List α}{l':List β}(h:All2 R (a::l) (b::l')):All2 R l l':=
 ⟨by simpa using h.1,λi x y hx hy=>h.2 (i+1) x y (by simpa using hx) (by simpa using hy)⟩
theorem All2.imp{α β:Type}{R S:α->β->Prop}{l:List α}{l':List β}(h:All2 R l l')(k:∀a b,R a b->S a b):All2 S l l':=
 ⟨h.1,λi a b ha hb=>k _ _ (h.2 i a b ha hb)⟩
theorem All2.append{α β:Type}{R:α->β->Prop}{l m:List α}{l' m':List β}(h:All2 R l l')(k:All2 R m m'):All2 R (l++m) (l'++m'):=by
 refine⟨by simp[h.1,k.1],λi a b ha hb=>?_⟩;rw[Yba]at ha hb;by_cases hi:i<l.length
 ·rw[if_pos hi]at ha;rw[if_pos (h.1▸hi)]at hb;exact h.2 i a b ha hb
 ·rw[if_neg hi]at ha;rw[if_neg (h.1▸hi)]at hb;exact k.2 _ a b ha (by rw[h.1];exact hb)
theorem All2.get{α β:Type}{R:α->β->Prop}{l:List α}{l':List β}(r:All2 R l l'){i:Nat}{v:α}(h:l[i]? = some v):∃v',l'[i]? = some v'/\R v v':=by
 have hlt:i<l.length:=(List.getElem?_eq_some_iff.1 h).1;have h2:i<l'.length:=r.1▸hlt;exact⟨l'[i],by simp[h2],r.2 i _ _ h (by simp[h2])⟩
theorem ARel.mono{μ μ':Mu}(h:Le μ μ'){a a':Array Value}(r:ARel μ a a'):ARel μ' a a':=⟨r.1,λi=>(r.2 i).mono h⟩
theorem ARel.toList{μ:Mu}{a a':Array Value}:ARel μ a a'↔LRel μ a.toList a'.toList:=by
 unfold ARel LRel;constructor
 ·rintro⟨h,hi⟩;refine⟨by simpa using h,λi x y hx hy=>?_⟩;have:=hi i;rw[Array.getElem?_toList]at hx hy;simpa [YD,hx,hy] using this
 ·rintro⟨h,hi⟩;have h':a.size=a'.size:=by simpa only[Array.length_toList] using h
  refine⟨h',λi=>?_⟩;simp only[YD];by_cases hlt:i<a.size
  ·have h2:i<a'.size:=h'▸hlt;simp only[YH hlt,YH h2,Yha];exact hi i _ _ (by simp[hlt]) (by simp[h2])
  ·rw[Yca Xo,Yca Xo];exact .nilIface
theorem LRel.mono{μ μ':Mu}(h:Le μ μ'){a a':List Value}(r:LRel μ a a'):LRel μ' a a':=All2.imp r λ_ _ x=>x.mono h
theorem VRel.cells{μ:Mu}{v v':Value}(r:VRel μ v v'):ARel μ v.cells v'.cells:=by
 cases r with
 | agg a a' e i=>exact⟨e,i⟩
 | _=>exact⟨rfl,λi=>by cases i <;> first|(constructor <;> assumption)|exact .nilIface|constructor⟩
theorem VRel.one{μ:Mu}{v v':Value}(r:VRel μ v v'):v'.oneCell'=v.oneCell':=by cases r <;> rfl
inductive Kd
 | ro
 | own
 | loose (φ sz:Nat)
 deriving DecidableEq
inductive AObj
 | row (k:Kd) (cs:List Value)
 | map (es:List (Value×Value)) (clock:Nat)
 | dead
structure AH where
 get:Nat->Option AObj
 next:Nat
def Zmy(p:Pl):Kd->Prop
 | .loose _ sz=>p.sz=sz
 | _=>p.exs=0
structure RowRel(μ:Mu)(w:World)(p:Pl)(k:Kd)(cs:List Value):Prop where
 row:∃c ty fr,w.heap[p.blk]? = some (.cells c ty fr)/\p.off+cs.length+p.exs*p.sz≤c.size/\(k≠.ro->fr=(0,0)) /\
  ∀(i:Nat) v,cs[i]? = some v->∃v',c[p.off+i]? = some v'/\VRel μ v v'
 tight:Zmy p k
 one:∀v∈cs,v.oneCell'=true
 spare:∃c ty fr,w.heap[p.blk]? = some (.cells c ty fr)/\∀i,i<p.exs*p.sz->∃v v',c[p.off+cs.length+i]? = some v'/\VRel μ v v'/\v.oneCell'=true
def ZpL(μ:Mu)(w:World)(p:Pl)(es:List (Value×Value))(clock:Nat):Prop:=
 ∃es':Array MapEntry,w.heap[p.blk]? = some (.map es' clock)/\All2 (λ(e:Value×Value) (e':MapEntry)=>VRel μ e.1 e'.key/\VRel μ e.2 e'.val) es es'.toList
def ObjRel(μ:Mu)(w:World)(p:Pl):AObj->Prop
 | .row k cs=>RowRel μ w p k cs
 | .map es clock=>ZpL μ w p es clock
 | .dead=>True
def Share:AObj->AObj->Prop
 | .dead,_=>True
 | _,.dead=>True
 | .row .ro _,.row .ro _=>True
 | .row (.loose φ _) _,.row (.loose ψ _) _=>φ=ψ
 | _,_=>False
theorem Share.symm{a b:AObj}(h:Share a b):Share b a:=by
 cases a with
 | dead=>cases b <;> trivial
 | map _ _=>cases b <;> simp_all [Share]
 | row k cs =>
  cases b with
  | dead=>trivial
  | map _ _=>cases k <;> simp_all [Share]
  | row k' cs'=>cases k <;> cases k' <;> simp_all [Share]
theorem Share.row{k:Kd}{a a':List Value}{o:AObj}(h:Share (.row k a) o):Share (.row k a') o:=by
 cases o with
 | dead=>cases k <;> trivial
 | map _ _=>cases k <;> exact h
 | row k' b=>cases k <;> cases k' <;> exact h
def ZhF:Option Value:=none
class Pins where
 l:List (Nat×(Obj->Prop))
 base:Mu
instance noPins:Pins:=⟨[],λ_=>none⟩
variable[Pins]
def PinOk(μ:Mu)(H:AH)(w:World):Prop:=
 (∀v,ZhF=some v->(∃c ty fr,w.heap[0]? = some (.cells c ty fr)/\c[0]? = some v)/\∀b p,μ b=some p->p.blk=0->∃cs,H.get b=some (.row .ro cs)) /\
  (∀k φ,(k,φ)∈Pins.l->∃o,φ o/\w.heap[k]? = some o/\∀b p,μ b=some p->p.blk≠k)/\Le Pins.base μ
structure Rel(μ:Mu)(H:AH)(w:World):Prop where
 lt:∀b p,μ b=some p->b<H.next/\p.blk<w.heap.size
 ok:∀b p,μ b=some p->∃o,H.get b=some o/\ObjRel μ w p o
 apart:∀b b' p p' o o',μ b=some p->μ b'=some p'->b≠b'->p.blk=p'.blk->H.get b=some o->H.get b'=some o'->Share o o'
 fresh:∀b,H.next≤b->H.get b=none
 pin:PinOk μ H w
structure Keep(μ μ':Mu)(H H':AH)(w w':World):Prop where
 le:Le μ μ'
 next:H.next≤H'.next
 os:w'.os=w.os
 tape:w'.tape=w.tape
 output:w'.output=w.output
 drw:w.drawn≤w'.drawn
 size:w.heap.size≤w'.heap.size
 block:∀k,k<w.heap.size->(∀b p,μ b=some p->p.blk=k->∃cs,H.get b=some (.row .ro cs))->w'.heap[k]? = w.heap[k]?
 away:∀b,b<H.next->μ b=none->μ' b=none/\(H'.get b=H.get b∨H'.get b=some .dead)
 roKept:∀b cs,H.get b=some (.row .ro cs)->H'.get b=some (.row .ro cs)
 newBlk:∀b p,μ' b=some p->μ b=none->w.heap.size≤p.blk∨∃b0 p0,μ b0=some p0/\p0.blk=p.blk/\∀cs,H.get b0≠some (.row .ro cs)
theorem Keep.refl(μ:Mu)(H:AH)(w:World):Keep μ μ H H w w:=
 ⟨.refl μ,Yj _,rfl,rfl,rfl,Yj _,Yj _,λ_ _ _=>rfl,λ_ _ h=>⟨h,.inl rfl⟩,λ_ _ h=>h,λb p h h0=>by rw[h0]at h;cases h⟩
theorem PinOk.ro{μ:Mu}{H H':AH}{w w':World}(h:PinOk μ H w)(hw:w'.heap=w.heap)(hr:∀b cs,H.get b=some (.row .ro cs)->H'.get b=some (.row .ro cs)):PinOk μ H' w':=by
 refine⟨λv hv=>?_,λk o hm=>by rw[hw];exact h.2.1 k o hm,h.2.2⟩;obtain⟨h1,h2⟩:=h.1 v hv;rw[hw];exact⟨h1,λb p hb h0=>let ⟨cs,h3⟩:=h2 b p hb h0;⟨cs,hr _ _ h3⟩⟩
theorem PinOk.keep{μ μ':Mu}{H H':AH}{w w':World}(h:PinOk μ H w)(k:Keep μ μ' H H' w w'):PinOk μ' H' w':=by
 refine⟨λv hv=>?_,λq o hm=>?_,h.2.2.trans k.le⟩;rotate_left
 ·obtain⟨o',eo,e1,e2⟩:=h.2.1 q o hm;have hlt:q<w.heap.size:=(Array.getElem?_eq_some_iff.1 e1).1;refine⟨o',eo,(k.block q hlt λb p hb h0=>absurd h0 (e2 b p hb)).trans e1,λb p hb h0=>?_⟩;cases e:μ b with
  | some r =>
   have:=k.le b r e;rw[hb]at this;cases this;exact e2 b p e h0
  | none =>
   rcases k.newBlk b p hb e with h5|⟨b0,p0,e0,e1,_⟩
   ·omega
   ·exact e2 b0 p0 e0 (e1.trans h0)
 obtain⟨⟨c,ty,fr,h1,h2⟩,h3⟩:=h.1 v hv;have hlt:0<w.heap.size:=(Array.getElem?_eq_some_iff.1 h1).1;refine⟨⟨c,ty,fr,(k.block 0 hlt h3).trans h1,h2⟩,λb p hb h0=>?_⟩;cases e:μ b with
 | some q =>
  have:=k.le b q e;rw[hb]at this;cases this;obtain⟨cs,h4⟩:=h3 b p e h0;exact⟨cs,k.roKept _ _ h4⟩
 | none =>
  rcases k.newBlk b p hb e with h5|⟨b0,p0,e0,e1,e2⟩
  ·omega
  ·obtain⟨cs,h4⟩:=h3 b0 p0 e0 Xo;exact absurd h4 (e2 cs)
end Go.Vd
