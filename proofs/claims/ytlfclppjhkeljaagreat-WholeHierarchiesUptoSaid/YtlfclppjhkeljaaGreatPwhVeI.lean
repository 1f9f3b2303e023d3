/- Texts. -/
import Derived.Test.YtlfclppjhkeljaaGreatPwhVeK
import Derived.Test.YtlfclppjhkeljaaGreatPwhVeN
set_option linter.all false
open List renaming getElem?_append_left→YF,getElem?_append_right→YV,length_append→Yy,eq_nil_of_length_eq_zero→Yx
open Nat renaming le_refl→Yj,mul_le_mul_right→Yz
namespace Go.Vd
variable[Pins]
section
variable{P:Program}{H H':AH}{E:Type}{enc:E->List Value}{sz:Nat}{s s' t:Value}{xs:List E}{fp:Fp}{φ:Nat}
def AH.lone(H:AH)(φ b:Nat):AH:=(H.kill φ b).upd b .dead
theorem AH.lone_self(H:AH)(φ b:Nat):(H.lone φ b).get b=some .dead:=by simp[AH.lone,AH.upd]
theorem AH.lone_ne(H:AH)(φ b:Nat){x:Nat}(hx:x≠b):(H.lone φ b).get x=(H.kill φ b).get x:=by simp[AH.lone,AH.upd,hx]
theorem AH.lone_or(H:AH)(φ b x:Nat):(H.lone φ b).get x=H.get x∨(H.lone φ b).get x=some .dead:=by
 by_cases hx:x=b
 ·subst hx;exact .inr (H.lone_self φ x)
 ·rw[H.lone_ne φ b hx];exact H.kill_or φ b x
theorem Rel.spread{μ:Mu}{w:World}(h:Rel μ H w){b:Nat}{p:Pl}{k:Kd}{cs:List Value}(hb:μ b=some p)(hg:H.get b=some (.row k cs))(hk:(k=.own/\φ=b)∨k=.loose φ sz) :
  ∃J,J.length=p.exs*p.sz/\Zy J=true/\Rel (μ.set H.next ⟨p.blk,p.off,0,1⟩) ((H.lone φ b).push (.row .own (cs++J))) w /\
   Keep μ (μ.set H.next ⟨p.blk,p.off,0,1⟩) H ((H.lone φ b).push (.row .own (cs++J))) w w:=by
 obtain⟨ob,e1,e2⟩:=h.ok b p hb;rw[hg]at e1;cases e1;obtain⟨⟨c,ty,fr,g1,g2,g3,g4⟩,g5,g6,c2,ty2,fr2,s1,s2⟩:=e2;rw[g1]at s1;cases s1;have hro:k≠.ro:=by rcases hk with ⟨rfl,_⟩|rfl <;> simp
 have hfr:=g3 hro;subst hfr;have hnn:=h.next_none;have hbl:=(h.lt b p hb).1;have hlt:=(h.lt b p hb).2;have hle:=Mu.set_le hnn (p:=⟨p.blk,p.off,0,1⟩);have hbn:b≠H.next:=Xo
 -- the cells of the room
 have hJ:∀n,n≤p.exs*p.sz->∃J:List Value,J.length=n/\∀i v,J[i]? = some v->∃v',c[p.off+cs.length+i]? = some v'/\VRel μ v v'/\v.oneCell'=true:=by
  intro n;induction n with
  | zero=>exact λ_=>⟨[],rfl,λi v hv=>by simp at hv⟩
  | succ n ih =>
   intro hn;obtain⟨J,j1,j2⟩:=ih Xo;obtain⟨v,v',a1,a2,a3⟩:=s2 n Xo;refine⟨J++[v],by simp[j1],λi u hu=>?_⟩;by_cases hi:i<J.length
   ·rw[YF hi]at hu;exact j2 i u hu
   ·rw[YV Xo]at hu
    have hi2:i-J.length=0:=by
     have:=(List.getElem?_eq_some_iff.1 hu).1;simp at this;omega
    rw[hi2]at hu;cases hu
    exact⟨v',by rw[show i=n from Xo];exact a1,a2,a3⟩
 obtain⟨J,j1,j2⟩:=hJ _ (Yj _);refine⟨J,j1,List.all_eq_true.2 λv hv=>?_,?_⟩
 ·obtain⟨i,hi⟩:=List.mem_iff_getElem?.1 hv;obtain⟨_,_,_,a⟩:=j2 i v hi;exact a
 generalize hK:H.lone φ b=K;have hKn:K.next=H.next:=by rw[← hK];rfl
 have hKb:K.get b=some .dead:=by rw[← hK];exact H.lone_self φ b
 have hKo:∀x,K.get x=H.get x∨K.get x=some .dead:=λx=>by rw[← hK];exact H.lone_or φ b x
 have hkn:∀x,x≠H.next->(K.push (.row .own (cs++J))).get x=K.get x:=λx hx=>by
  show (if x=K.next then _ else _)=_;rw[hKn,if_neg hx]
 have hks:(K.push (.row .own (cs++J))).get H.next=some (.row .own (cs++J)):=by rw[← hKn];exact AH.push_get K _
 have other:∀x q,μ x=some q->q.blk=p.blk->K.get x=some .dead:=by
  intro x q hx hblk;by_cases hxb:x=b
  ·subst hxb;exact hKb
  obtain⟨ox,o1,_⟩:=h.ok x q hx;have hs:Share (.row k cs) ox:=h.apart b x p q _ _ hb hx (Ne.symm hxb) hblk.symm hg o1;rw[← hK,H.lone_ne φ b hxb];cases ox with
  | dead =>
   rcases H.kill_or φ b x with e|e
   ·rw[e];exact o1
   ·exact e
  | map _ _=>rcases hk with ⟨rfl,_⟩|rfl <;> simp[Share]at hs
  | row k' cs' =>
   rcases hk with ⟨rfl,_⟩|rfl
   ·cases k' <;> simp[Share]at hs
   ·cases k' with
    | ro=>simp[Share]at hs
    | own=>simp[Share]at hs
    | loose ψ sz' =>
     have:φ=ψ:=hs;subst this;exact H.kill_loose φ b x sz' cs' o1 hxb
 have wk:∀x {o':AObj},K.get x=some o'->o'=.dead∨∃o,H.get x=some o/\(o'=o∨∃k a a',o=.row k a/\o'=.row k a'):=λx o' e=>by
  rcases hKo x with e1|e1
  ·exact .inr ⟨o',by rw[← e1];exact e,.inl rfl⟩
  ·rw[e1]at e;cases e;exact .inl rfl
 refine⟨⟨λx q hx=>?_,λx q hx=>?_,λx y q q' ox oy hx hy hne hq gx gy=>?_,λx hx=>?_,h.pin.keep ?k⟩,?k⟩
 ·by_cases hxn:x=H.next
  ·subst hxn;rw[Mu.set_self]at hx;cases hx;exact⟨by show _<K.next+1;omega,hlt⟩
  ·have hx':μ x=some q:=by simpa [Mu.set,hxn] using hx
   exact⟨by show _<K.next+1;have:=(h.lt x q hx').1;omega,(h.lt x q hx').2⟩
 ·by_cases hxn:x=H.next
  ·subst hxn;rw[Mu.set_self]at hx;cases hx;refine⟨_,hks,⟨⟨c,ty,(0,0),g1,?_,λ_=>rfl,λi v hi=>?_⟩,rfl,λv hm=>?_,c,ty,(0,0),g1,λi hi=>absurd hi (by show ¬i<0*1;omega)⟩⟩
   ·show p.off+(cs++J).length+0*1≤c.size;rw[Yy,j1];omega
   ·by_cases hi1:i<cs.length
    ·rw[YF hi1]at hi;obtain⟨v',a,rr⟩:=g4 i v hi;exact⟨v',a,rr.mono hle⟩
    ·rw[YV Xo]at hi;obtain⟨v',a,rr,_⟩:=j2 _ v hi;exact⟨v',by rw[← a];congr 1;show p.off+i=_;omega,rr.mono hle⟩
   ·rcases List.mem_append.1 hm with hm|hm
    ·exact g6 v hm
    ·obtain⟨i,hi⟩:=List.mem_iff_getElem?.1 hm;obtain⟨_,_,_,a⟩:=j2 i v hi;exact a
  ·have hx':μ x=some q:=by simpa [Mu.set,hxn] using hx
   rw[hkn x hxn];obtain⟨ox,o1,o2⟩:=h.ok x q hx';rcases hKo x with e|e
   ·exact⟨ox,e.trans o1,o2.congr hle rfl⟩
   ·exact⟨.dead,e,trivial⟩
 ·by_cases hxn:x=H.next
  ·by_cases hyn:y=H.next
   ·exact absurd (hxn.trans hyn.symm) hne
   ·subst hxn;rw[Mu.set_self]at hx;cases hx;have hy':μ y=some q':=by simpa [Mu.set,hyn] using hy
    rw[hkn y hyn,other y q' hy' hq.symm]at gy;cases gy;exact Share.symm trivial
  ·have hx':μ x=some q:=by simpa [Mu.set,hxn] using hx
   rw[hkn x hxn]at gx;by_cases hyn:y=H.next
   ·subst hyn;rw[Mu.set_self]at hy;cases hy;rw[other x q hx' hq]at gx;cases gx;trivial
   ·have hy':μ y=some q':=by simpa [Mu.set,hyn] using hy
    rw[hkn y hyn]at gy;exact Share.old h hx' hy' hne hq (wk x gx) (wk y gy)
 ·have hx1:K.next+1≤x:=hx;have hn:=h.fresh x Xo;rw[hkn x Xo];rcases hKo x with e|e
  ·rw[e];exact hn
  ·have hxb:x≠b:=Xo;rw[← hK,H.lone_ne φ b hxb]at e;rw[H.kill_none φ b x hn]at e;cases e
 ·refine⟨hle,by show _≤K.next+1;omega,rfl,rfl,rfl,Yj _,Yj _,λ_ _ _=>rfl,λx hx hxn=>⟨?_,?_⟩,λx cs' hx=>?_,λx q hx hx0=>?_⟩
  ·unfold Mu.set;rw[if_neg Xo];exact hxn
  ·rw[hkn x Xo];exact hKo x
  ·have hxb:x≠b:=λe=>by rw[e,hg]at hx;cases hx;exact hro rfl
   rw[hkn x ?_]
   ·rw[← hK,H.lone_ne φ b hxb];exact H.kill_ro φ b x cs' hx
   ·intro e;rw[e,h.fresh _ (Yj _)]at hx;cases hx
  ·by_cases hxn:x=H.next
   ·subst hxn;rw[Mu.set_self]at hx;cases hx;exact .inr ⟨b,p,hb,rfl,λcs' e=>by rw[hg]at e;cases e;exact hro rfl⟩
   ·have hx':μ x=some q:=by simpa [Mu.set,hxn] using hx
    rw[hx']at hx0;cases hx0
theorem ZoX(hw:WF H){b:Nat}{k:Kd}{cs:List Value}(hb:b<H.next)(hg:H.get b=some (.row k cs))(hk:(k=.own/\φ=b)∨k=.loose φ sz):Fr φ H (H.lone φ b):=by
 refine⟨⟨λx hx=>?_,λx=>?_⟩,Yj _,λx hx hn=>?_⟩
 ·have hx':H.next≤x:=hx;rw[H.lone_ne φ b Xo];exact (ZgQ hw φ b).wf.fresh x hx'
 ·by_cases hxb:x=b
  ·subst hxb;unfold ZI;rw[H.lone_self];exact Yj _
  ·have:ZI (H.lone φ b) x=ZI (H.kill φ b) x:=by unfold ZI;rw[H.lone_ne φ b hxb]
   rw[this];exact (ZgQ hw φ b).wf.tok x
 ·have hxb:x≠b:=λe=>by
   subst e;apply hn;unfold ZI;rw[hg];rcases hk with ⟨rfl,h⟩|rfl
   ·exact h.symm
   ·rfl
  rw[H.lone_ne φ b hxb];exact (ZgQ hw φ b).same x hx hn
theorem ACalls.spread{f:FuncId}{rest:List Value}{K:Value->AH->Prop}(hw:WF H)(h:Ow enc sz H s xs fp)
  (h0:xs=[]->s=.slice none 0 0->ACalls P f (s::rest).toArray H K) (h1:xs=[]->ACalls P f (ZbN::rest).toArray H K)
  (h2:∀(H2:AH) (b c:Nat) (R:List Value),FrS fp H H2->b=H.next->H2.next=H.next+1->H2.get b=some (.row .own R)->R.length=c*sz->Zy R=true->xs.length≤c->(∀i x,xs[i]? = some x->∀j,j<sz->R[i*sz+j]? = (enc x)[j]?) ->
   ACalls P f (.slice (some ⟨b,0,none⟩) xs.length c::rest).toArray H2 K):ACalls P f (s::rest).toArray H K:=by
 rcases h.is with ⟨hs0,hx⟩|⟨φ,hφ,hown⟩
 ·rcases hs0 with rfl|rfl
  ·exact h0 hx rfl
  ·exact h1 hx
 rcases hown.is with ⟨rfl,hx⟩|⟨b,c,k,cs,rfl,hb,hg,hk,hc1,hc2,hcell⟩
 ·exact h0 hx rfl
 intro μ w args' hr ha;have hal:=ARel.toList.1 ha
 -- the first argument
 obtain⟨s',rest',rfl,hs,hrest⟩:∃s' rest',args'=(s'::rest').toArray/\VRel μ (.slice (some ⟨b,0,none⟩) xs.length c) s'/\LRel μ rest rest':=by
  rcases hq:args'.toList with _|⟨s',rest'⟩
  ·rw[hq]at hal;have:=hal.1;simp at this
  ·rw[hq]at hal;refine⟨s',rest',by apply Array.ext';rw[hq],?_,?_⟩
   ·exact All2.head (l:=rest) (l':=rest') (show All2 (VRel μ) (.slice (some ⟨b,0,none⟩) xs.length c::rest) (s'::rest') from by have h9:=hal;simp only[List.toList_toArray]at h9;exact h9)
   ·exact All2.tail (a:=.slice (some ⟨b,0,none⟩) xs.length c) (b:=s') (show All2 (VRel μ) (.slice (some ⟨b,0,none⟩) xs.length c::rest) (s'::rest') from by have h9:=hal;simp only[List.toList_toArray]at h9;exact h9)
 have void':∀(a:Addr),xs=[]->s'=.slice (some a) 0 0->Calls P f (s'::rest').toArray w λe w'=>∃v v' H' μ',e=.returned v'/\K v H'/\VRel μ' v v'/\Rel μ' H' w'/\Keep μ μ' H H' w w':=λa hx e=>by
  subst e;refine h1 hx μ w _ hr ?_;rw[ARel.toList];exact .cons (.void a) hrest
 generalize hn:xs.length=n at *;cases hs with
 | sliceEnd _ _ o' p hbp=>exact void' _ (Yx hn) rfl
 | slice _ _ _ _ p hbp =>
  obtain⟨J,j1,j2,j3,j4⟩:=hr.spread (φ:=φ) (sz:=sz) hbp hg hk
  have hsz:p.exs*p.sz=p.exs*sz:=by
   obtain⟨o',e1,e2⟩:=hr.ok b p hbp;rw[hg]at e1;cases e1;have ht:=e2.tight;rcases hk with ⟨rfl,_⟩|rfl
   ·have:p.exs=0:=ht;rw[this,Nat.zero_mul,Nat.zero_mul]
   ·have:p.sz=sz:=ht;rw[this]
  have hone:Zy cs=true:=by
   obtain⟨o',e1,e2⟩:=hr.ok b p hbp;rw[hg]at e1;cases e1;exact List.all_eq_true.2 e2.one
  have hF:=ZoX hw hb hg hk
  have hF2:FrS fp H ((H.lone φ b).push (.row .own (cs++J))):=
   (hF.trans ((Zdj hF.wf _ (λψ z cs e=>by cases e)).toFr φ) hw).frS hφ
  have key:=h2 ((H.lone φ b).push (.row .own (cs++J))) H.next (c+p.exs) (cs++J) hF2 rfl rfl (AH.push_get (H.lone φ b) _) (by rw[Yy,j1,hsz,← hc2,Nat.add_mul]) (by unfold Zy at *;rw[List.all_append,hone,j2];rfl) Xo (λi x hx j hj=>by
   have hi:=(List.getElem?_eq_some_iff.1 hx).1;have hmi:(i+1)*sz≤c*sz:=Yz _ Xo;have hms:(i+1)*sz=i*sz+sz:=Nat.succ_mul _ _;rw[YF Xo];exact hcell i x hx j hj)
  have hv:VRel (μ.set H.next ⟨p.blk,p.off,0,1⟩) (.slice (some ⟨H.next,0,none⟩) n (c+p.exs)) (.slice (some ⟨p.blk,p.off+0,none⟩) n (c+p.exs)):=by
   have:=VRel.slice (μ:=μ.set H.next ⟨p.blk,p.off,0,1⟩) H.next 0 n (c+p.exs) _ (Mu.set_self _ _ _);simpa using this
  have hcall:=key _ w (.slice (some ⟨p.blk,p.off+0,none⟩) n (c+p.exs)::rest').toArray j3 (by
   rw[ARel.toList];exact .cons hv (hrest.mono j4.le))
  refine hcall.mono ?_;rintro e w' ⟨v,v',H',μ',e1,e2,e3,e4,e5⟩;exact⟨v,v',H',μ',e1,e2,e3,e4,j4.trans e5⟩
end
end Go.Vd
