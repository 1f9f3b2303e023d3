/- Texts. -/
import Derived.Test.YtlfclppjhkeljaaGreatPwhVdC
set_option linter.all false
open List renaming getElem?_append→Yba,length_take→YG,getElem?_take→YY,mem_of_mem_take→YN,getElem?_drop→Yja,mem_of_mem_drop→Y1,take_append_drop→YT,getElem_mem→Yia,length_append→Yy,getElem?_append_left→YF,getElem?_append_right→YV,getElem?_eq_getElem→Yn
open Nat renaming mul_le_mul_right→Yz,le_refl→Yj,le_trans→YL,lt_of_lt_of_le→YJ
namespace Go.Vd
variable[Pins]
theorem AH.kill_or(H:AH)(φ k x:Nat):(H.kill φ k).get x=H.get x∨(H.kill φ k).get x=some .dead:=by
 rcases H.kill_cases φ k x with e|⟨e,_⟩
 ·exact .inl e
 ·exact .inr e
theorem AH.kill_keep(H:AH)(φ k:Nat):(H.kill φ k).get k=H.get k:=by
 rcases H.kill_cases φ k k with e|⟨_,e,_⟩
 ·exact e
 ·exact absurd rfl e
theorem AH.kill_none(H:AH)(φ k x:Nat)(h:H.get x=none):(H.kill φ k).get x=none:=by
 rcases H.kill_cases φ k x with e|⟨_,_,_,_,e⟩
 ·rw[e];exact h
 ·rw[h]at e;cases e
theorem AH.kill_ro(H:AH)(φ k x:Nat)(cs:List Value)(h:H.get x=some (.row .ro cs)):(H.kill φ k).get x=some (.row .ro cs):=by
 rcases H.kill_cases φ k x with e|⟨_,_,_,_,e⟩
 ·rw[e];exact h
 ·rw[h]at e;cases e
theorem Share.weak{o o' q q':AObj}(h:Share o o')(e:q=o∨q=.dead)(e':q'=o'∨q'=.dead):Share q q':=by
 rcases e with rfl|rfl
 ·rcases e' with rfl|rfl
  ·exact h
  ·exact Share.symm trivial
 ·trivial
theorem Rel.kill{μ:Mu}{H:AH}{w:World}(h:Rel μ H w)(φ k:Nat):Rel μ (H.kill φ k) w:=by
 refine⟨h.lt,λb p e=>?_,λb b' p p' o o' e e' hne hb g g'=>?_,λb hb=>H.kill_none φ k b (h.fresh b hb),h.pin.ro rfl λb cs e=>H.kill_ro φ k b cs e⟩
 ·obtain⟨o,h1,h2⟩:=h.ok b p e;rcases H.kill_or φ k b with e|e
  ·exact⟨o,e.trans h1,h2⟩
  ·exact⟨.dead,e,trivial⟩
 ·obtain⟨o0,h1,_⟩:=h.ok b p e;obtain⟨o0',h1',_⟩:=h.ok b' p' e';refine Share.weak (h.apart b b' p p' o0 o0' e e' hne hb h1 h1') ?_ ?_
  ·rcases H.kill_or φ k b with x|x
   ·rw[x,h1]at g;cases g;exact .inl rfl
   ·rw[x]at g;cases g;exact .inr rfl
  ·rcases H.kill_or φ k b' with x|x
   ·rw[x,h1']at g';cases g';exact .inl rfl
   ·rw[x]at g';cases g';exact .inr rfl
def Zfz(cs:List Value)(n:Nat)(J:List Value):List Value:=cs.take n++J
def AH.worn(H:AH)(φ sz b n:Nat)(cs J:List Value):AH:=(H.kill φ b).upd b (.row (.loose φ sz) (Zfz cs n J))
theorem ZhP{cs J:List Value}{n:Nat}(h:n+J.length=cs.length):(Zfz cs n J).length=cs.length:=by
 simp[Zfz];omega
theorem ZmX{cs J:List Value}{n:Nat}(h:n+J.length=cs.length)(i:Nat):(Zfz cs n J)[i]? = if i<n then cs[i]? else J[i-n]?:=by
 unfold Zfz;rw[Yba,YG,YY];by_cases h1:i<n
 ·rw[if_pos Xo,if_pos h1,if_pos h1]
 ·rw[if_neg Xo,if_neg h1];congr 1;omega
theorem Znf{cs J:List Value}(h:∀v∈cs,v.oneCell'=true)(n:Nat)(k:∀v∈J,v.oneCell'=true):∀v∈Zfz cs n J,v.oneCell'=true:=by
 intro v hv;rcases List.mem_append.1 hv with hv|hv
 ·exact h v (YN hv)
 ·exact k v hv
def ovl(cs:List Value)(n:Nat)(vs:List Value):List Value:=(vs++cs.drop (n+vs.length)).take (cs.length-n)
theorem Zmq{cs:List Value}{n:Nat}(vs:List Value)(h:n≤cs.length):n+(ovl cs n vs).length=cs.length:=by
 simp[ovl];omega
theorem Zox{cs:List Value}{n:Nat}(vs:List Value)(i:Nat):(ovl cs n vs)[i]? = if i<cs.length-n then (if i<vs.length then vs[i]? else cs[n+i]?) else none:=by
 unfold ovl;rw[YY,Yba];by_cases h1:i<cs.length-n
 ·rw[if_pos h1,if_pos h1];by_cases h2:i<vs.length
  ·rw[if_pos h2,if_pos h2]
  ·rw[if_neg h2,if_neg h2,Yja];congr 1;omega
 ·rw[if_neg h1,if_neg h1]
theorem ZoR{cs:List Value}(n:Nat){vs:List Value}(h:∀v∈cs,v.oneCell'=true)(k:∀v∈vs,v.oneCell'=true):∀v∈ovl cs n vs,v.oneCell'=true:=by
 intro v hv;rcases List.mem_append.1 (YN hv) with hv|hv
 ·exact k v hv
 ·exact h v (Y1 hv)
theorem AH.worn_self(H:AH)(φ sz b n:Nat)(cs J:List Value):(H.worn φ sz b n cs J).get b=some (.row (.loose φ sz) (Zfz cs n J)):=by simp[AH.worn,AH.upd]
theorem AH.worn_ne(H:AH)(φ sz b n:Nat)(cs J:List Value){x:Nat}(hx:x≠b):(H.worn φ sz b n cs J).get x=(H.kill φ b).get x:=by simp[AH.worn,AH.upd,hx]
theorem AH.worn_or{H:AH}{φ sz b n:Nat}{cs J:List Value}(hg:H.get b=some (.row (.loose φ sz) cs))(x:Nat){o':AObj}(h:(H.worn φ sz b n cs J).get x=some o') :
  o'=.dead∨∃o,H.get x=some o/\(o'=o∨∃k a a',o=.row k a/\o'=.row k a'):=by
 by_cases hx:x=b
 ·subst hx;rw[AH.worn_self]at h;cases h;exact .inr ⟨_,hg,.inr ⟨_,_,_,rfl,rfl⟩⟩
 ·rw[AH.worn_ne _ _ _ _ _ _ _ hx]at h;rcases H.kill_or φ b x with e|e
  ·exact .inr ⟨o',by rw[← e];exact h,.inl rfl⟩
  ·rw[e]at h;cases h;exact .inl rfl
theorem AH.worn_ro{H:AH}{φ sz b n:Nat}{cs J c2:List Value}(hg:H.get b=some (.row (.loose φ sz) cs))(x:Nat)(h:H.get x=some (.row .ro c2)):(H.worn φ sz b n cs J).get x=some (.row .ro c2):=by
 have hx:x≠b:=λe=>by rw[e,hg]at h;cases h
 rw[AH.worn_ne _ _ _ _ _ _ _ hx];exact H.kill_ro φ b x c2 h
theorem AH.worn_id{H:AH}{φ sz b n:Nat}{cs:List Value}(hg:H.get b=some (.row (.loose φ sz) cs)):H.worn φ sz b n cs (cs.drop n)=H.kill φ b:=by
 unfold AH.worn AH.upd Zfz;rw[YT]
 have:(λx=>if x=b then some (AObj.row (.loose φ sz) cs) else (H.kill φ b).get x)=(H.kill φ b).get:=by
  funext x;by_cases hx:x=b
  ·subst hx;rw[if_pos rfl,H.kill_keep,hg]
  ·rw[if_neg hx]
 rw[this]
theorem Share.old{H:AH}{μ:Mu}{w:World}(h:Rel μ H w){x y:Nat}{q q':Pl}{ox oy:AObj}(hx:μ x=some q)(hy:μ y=some q')(hne:x≠y)(hq:q.blk=q'.blk)
  (gx:ox=.dead∨∃o,H.get x=some o/\(ox=o∨∃k a a',o=.row k a/\ox=.row k a')) (gy:oy=.dead∨∃o,H.get y=some o/\(oy=o∨∃k a a',o=.row k a/\oy=.row k a')):Share ox oy:=by
 rcases gx with rfl|⟨o1,h1,h2⟩
 ·trivial
 rcases gy with rfl|⟨o2,h3,h4⟩
 ·exact Share.symm trivial
 have hs:=h.apart x y q q' _ _ hx hy hne hq h1 h3
 have hs2:Share ox o2:=by
  rcases h2 with rfl|⟨k,a,a',rfl,rfl⟩
  ·exact hs
  ·exact hs.row
 rcases h4 with rfl|⟨k,a,a',rfl,rfl⟩
 ·exact hs2
 ·exact hs2.symm.row.symm
theorem Rel.growJ{μ:Mu}{H:AH}{w:World}(h:Rel μ H w){b o len cap n sz φ:Nat}{p:Pl}{cs old vs vs':List Value}(hb:μ b=some p)(hg:H.get b=some (.row (.loose φ sz) cs))
  (hc:cs.length=o+cap*sz) (hsz:0<sz) (ho:H.cells b o (len*sz)=some old) (hvn:vs.length=n*sz) (hcap:cap<len+n) (hroom:len+n≤cap+p.exs) (hv:LRel μ vs vs') (h1:∀v∈vs,v.oneCell'=true) (P:Program) :
  ∃w',(storeCells ⟨p.blk,p.off+o+len*sz,none⟩ vs').run P w=.ok () w' /\
   Rel (μ.set H.next ⟨p.blk,p.off+o,cap+p.exs-(len+n),sz⟩) ((H.worn φ sz b (o+len*sz) cs (ovl cs (o+len*sz) vs)).push (.row (.loose φ sz) (old++vs))) w' /\
   Keep μ (μ.set H.next ⟨p.blk,p.off+o,cap+p.exs-(len+n),sz⟩) H ((H.worn φ sz b (o+len*sz) cs (ovl cs (o+len*sz) vs)).push (.row (.loose φ sz) (old++vs))) w w':=by
 obtain⟨ob,e1,e2⟩:=h.ok b p hb;rw[hg]at e1;cases e1;obtain⟨⟨c,ty,fr,g1,g2,g3,g4⟩,g5,g6,c2,ty2,fr2,s1,s2⟩:=e2;rw[g1]at s1;cases s1;have hfr:=g3 Xs;subst hfr;have hpsz:p.sz=sz:=g5;rw[hpsz,hc]at g2
 have hold:old=(cs.drop o).take (len*sz)/\o+len*sz≤cs.length:=by
  unfold AH.cells at ho;rw[hg]at ho;dsimp only at ho;by_cases hle:o+len*sz≤cs.length
  ·rw[if_pos hle]at ho;cases ho;exact⟨rfl,hle⟩
  ·rw[if_neg hle]at ho;cases ho
 obtain⟨hold,hle⟩:=hold
 have hlc:len≤cap:=by
  rw[hc]at hle;exact Nat.le_of_mul_le_mul_right Xo hsz
 have hol:old.length=len*sz:=by rw[hold];simp;omega
 have m1:(len+n)*sz≤(cap+p.exs)*sz:=Yz _ hroom;have m2:(len+n)*sz=len*sz+n*sz:=Nat.add_mul _ _ _;have m3:(cap+p.exs)*sz=cap*sz+p.exs*sz:=Nat.add_mul _ _ _;have m4:(cap+p.exs-(len+n))*sz=(cap+p.exs)*sz-(len+n)*sz:=Nat.sub_mul _ _ _
 have one':∀v∈vs',v.oneCell'=true:=by
  intro v hm;obtain⟨i,hi⟩:=List.mem_iff_getElem?.1 hm;have hlt:=(List.getElem?_eq_some_iff.1 hi).1;have hlt2:i<vs.length:=by rw[hv.1];exact hlt
  have:=hv.2 i vs[i] v (by simp[hlt2]) hi;rw[this.one];exact h1 _ (Yia hlt2)
 have hvl:=hv.1;obtain⟨c',r,s,gc⟩:=ZgG P p.blk (p.off+o+len*sz) ty vs' 0 w c g1 Xo one';have hlt:p.blk<w.heap.size:=(h.lt b p hb).2;have hnn:=h.next_none;have hle':=Mu.set_le hnn (p:=⟨p.blk,p.off+o,cap+p.exs-(len+n),sz⟩);have hbn:b≠H.next:=λe=>by rw[e,hnn]at hb;cases hb
 have hJ:=Zmq vs hle;have hJ1:=ZoR (o+len*sz) g6 h1;generalize hK:H.worn φ sz b (o+len*sz) cs (ovl cs (o+len*sz) vs)=K at *;have hKn:K.next=H.next:=by rw[← hK];rfl
 have hkn:∀x,x≠H.next->(K.push (.row (.loose φ sz) (old++vs))).get x=K.get x:=λx hx=>by
  show (if x=K.next then _ else _)=_;rw[hKn,if_neg hx]
 have hks:(K.push (.row (.loose φ sz) (old++vs))).get H.next=some (.row (.loose φ sz) (old++vs)):=by rw[← hKn];exact AH.push_get K _
 have hKb:K.get b=some (.row (.loose φ sz) (Zfz cs (o+len*sz) (ovl cs (o+len*sz) vs))):=by rw[← hK];exact AH.worn_self _ _ _ _ _ _ _
 have hKx:∀x,x≠b->K.get x=(H.kill φ b).get x:=λx hx=>by rw[← hK];exact AH.worn_ne _ _ _ _ _ _ _ hx
 have hKo:∀x {o':AObj},K.get x=some o'->o'=.dead∨∃o,H.get x=some o/\(o'=o∨∃k a a',o=.row k a/\o'=.row k a'):=λx o' h=>by rw[← hK]at h;exact AH.worn_or hg x h
 have other:∀x q,μ x=some q->x≠b->q.blk=p.blk->K.get x=some .dead:=by
  intro x q hx hxb hblk;rw[hKx x hxb];obtain⟨ox,o1,_⟩:=h.ok x q hx;have hs:Share (.row (.loose φ sz) cs) ox:=h.apart b x p q _ _ hb hx (Ne.symm hxb) hblk.symm hg o1;cases ox with
  | dead =>
   rcases H.kill_or φ b x with e|e
   ·rw[e];exact o1
   ·exact e
  | map _ _=>simp[Share]at hs
  | row k' cs' =>
   cases k' with
   | ro=>simp[Share]at hs
   | own=>simp[Share]at hs
   | loose ψ sz' =>
    have:φ=ψ:=hs;subst this;exact H.kill_loose φ b x sz' cs' o1 hxb
 refine⟨_,r,⟨λx q hx=>?_,λx q hx=>?_,λx y q q' ox oy hx hy hne hq gx gy=>?_,λx hx=>?_,h.pin.keep ?k⟩,?k⟩
 ·rw[Zeg];by_cases hxn:x=H.next
  ·subst hxn;rw[Mu.set_self]at hx;cases hx;exact⟨by show _<K.next+1;omega,hlt⟩
  ·have hx':μ x=some q:=by simpa [Mu.set,hxn] using hx
   exact⟨by show _<K.next+1;have:=(h.lt x q hx').1;omega,(h.lt x q hx').2⟩
 ·by_cases hxn:x=H.next
  ·subst hxn;rw[Mu.set_self]at hx;cases hx;refine⟨_,hks,⟨⟨c',ty,(0,0),by rw[ZaV hlt,if_pos rfl],?_,λ_=>rfl,λi v hi=>?_⟩,rfl,λv hm=>?_,c',ty,(0,0),by rw[ZaV hlt,if_pos rfl],λi hi=>?_⟩⟩
   ·dsimp only;rw[s,Yy,hol,hvn,m4];omega
   ·dsimp only;rw[gc];by_cases hi1:i<len*sz
    ·rw[if_pos Xo];rw[YF Xo]at hi;rw[hold,YY,if_pos hi1,Yja]at hi;obtain⟨v',a,rr⟩:=g4 (o+i) v hi;exact⟨v',by rw[Nat.add_assoc];exact a,rr.mono hle'⟩
    ·rw[if_neg Xo];rw[YV Xo,hol]at hi;have hlt2:=(List.getElem?_eq_some_iff.1 hi).1;rw[if_pos Xo];obtain⟨v',a,rr⟩:=All2.get hv hi;exact⟨v',by rw[show p.off+o+i-(p.off+o+len*sz+0)=i-len*sz from Xo];exact a,rr.mono hle'⟩
   ·rcases List.mem_append.1 hm with hm|hm
    ·rw[hold]at hm;exact g6 v (Y1 (YN hm))
    ·exact h1 v hm
   ·dsimp only at hi ⊢;have m5:cap*sz≤(len+n)*sz:=Yz _ Xo;rw[m4]at hi;rw[Yy,hol,hvn,gc,if_neg Xo,if_neg Xo];rw[hpsz]at s2;obtain⟨u,v',a,b,b2⟩:=s2 (p.off+o+(len*sz+n*sz)+i - (p.off+cs.length)) Xo;exact⟨u,v',by rw[← a];congr 1;omega,b.mono hle',b2⟩
  ·have hx':μ x=some q:=by simpa [Mu.set,hxn] using hx
   rw[hkn x hxn];obtain⟨ox,o1,o2⟩:=h.ok x q hx';by_cases hblk:q.blk=p.blk
   ·by_cases hxb:x=b
    ·subst hxb;rw[hb]at hx';cases hx';rw[hg]at o1;cases o1;refine⟨_,hKb,⟨⟨c',ty,(0,0),by rw[ZaV hlt,if_pos rfl],by rw[s,hpsz,ZhP hJ,hc];exact g2,λ_=>rfl,λi v hi=>?_⟩,g5,Znf g6 _ hJ1,c',ty,(0,0),by rw[ZaV hlt,if_pos rfl],λi hi=>?_⟩⟩
     case refine_2 =>
      rw[ZhP hJ,gc,if_neg Xo];split
      ·have hj:p.off+cs.length+i-(p.off+o+len*sz+0)<vs'.length:=Xo;have hj2:p.off+cs.length+i-(p.off+o+len*sz+0)<vs.length:=Xo;exact⟨vs[p.off+cs.length+i-(p.off+o+len*sz+0)],_,Yn hj,(hv.2 _ _ _ (Yn hj2) (Yn hj)).mono hle',h1 _ (Yia hj2)⟩
      ·obtain⟨u,v',a,b,b2⟩:=s2 i hi;exact⟨u,v',a,b.mono hle',b2⟩
     rw[ZmX hJ]at hi;split at hi
     ·obtain⟨v',a,rr⟩:=g4 i v hi;exact⟨v',by rw[gc,if_pos Xo];exact a,rr.mono hle'⟩
     ·rename_i hi1
      rw[Zox]at hi;split at hi
      ·rename_i hi2
       rw[gc,if_neg Xo];split at hi
       ·rename_i hi3
        rw[if_pos Xo];obtain⟨v',a,rr⟩:=All2.get hv hi;exact⟨v',by rw[← a];congr 1;omega,rr.mono hle'⟩
       ·rename_i hi3
        rw[if_neg Xo];obtain⟨v',a,rr⟩:=g4 _ v hi;exact⟨v',by rw[← a];congr 1;omega,rr.mono hle'⟩
      ·cases hi
    ·exact⟨.dead,other x q hx' hxb hblk,trivial⟩
   ·have hxb:x≠b:=λe=>hblk (by rw[e,hb]at hx';cases hx';rfl);rw[hKx x hxb];rcases H.kill_or φ b x with e|e
    ·exact⟨ox,e.trans o1,o2.congr hle' (by rw[ZaV hlt,if_neg hblk])⟩
    ·exact⟨.dead,e,trivial⟩
 ·by_cases hxn:x=H.next
  ·by_cases hyn:y=H.next
   ·exact absurd (hxn.trans hyn.symm) hne
   ·subst hxn;rw[Mu.set_self]at hx;cases hx;have hy':μ y=some q':=by simpa [Mu.set,hyn] using hy
    rw[hks]at gx;cases gx;rw[hkn y hyn]at gy;dsimp only at hq;by_cases hyb:y=b
    ·subst hyb;rw[hKb]at gy;cases gy;exact rfl
    ·rw[other y q' hy' hyb hq.symm]at gy;cases gy;exact Share.symm trivial
  ·have hx':μ x=some q:=by simpa [Mu.set,hxn] using hx
   rw[hkn x hxn]at gx;by_cases hyn:y=H.next
   ·subst hyn;rw[Mu.set_self]at hy;cases hy;rw[hks]at gy;cases gy;dsimp only at hq;by_cases hxb:x=b
    ·subst hxb;rw[hKb]at gx;cases gx;exact rfl
    ·rw[other x q hx' hxb hq]at gx;cases gx;trivial
   ·have hy':μ y=some q':=by simpa [Mu.set,hyn] using hy
    rw[hkn y hyn]at gy;exact Share.old h hx' hy' hne hq (hKo x gx) (hKo y gy)
 ·have hx1:K.next+1≤x:=hx;rw[hkn x Xo];have hn:=h.fresh x Xo;have hxb:x≠b:=λe=>by rw[e,hg]at hn;cases hn
  rw[hKx x hxb];exact H.kill_none φ b x hn
 ·refine⟨hle',by show _≤K.next+1;omega,rfl,rfl,rfl,Yj _,by rw[Zeg];exact Yj _,λj hj hro'=>?_,λx hx hxn=>⟨?_,?_⟩,λx cs' hx=>?_,λx q hx hx0=>?_⟩
  ·rw[ZaV hlt];by_cases hjp:j=p.blk
   ·obtain⟨cs',e⟩:=hro' b p hb hjp.symm;rw[hg]at e;cases e
   ·rw[if_neg hjp]
  ·unfold Mu.set;rw[if_neg Xo];exact hxn
  ·have hxb:x≠b:=λe=>by rw[e,hb]at hxn;cases hxn
   rw[hkn x Xo,hKx x hxb];exact H.kill_or φ b x
  ·rw[hkn x ?_]
   ·rw[← hK];exact AH.worn_ro hg x hx
   ·intro e;rw[e,h.fresh _ (Yj _)]at hx;cases hx
  ·by_cases hxn:x=H.next
   ·subst hxn;rw[Mu.set_self]at hx;cases hx;exact .inr ⟨b,p,hb,rfl,λcs' e=>by rw[hg]at e;cases e⟩
   ·have hx':μ x=some q:=by simpa [Mu.set,hxn] using hx
    rw[hx']at hx0;cases hx0
theorem Rel.off{μ:Mu}{H:AH}{w:World}(h:Rel μ H w){b:Nat}{p:Pl}(hb:μ b=some p)(hro:∀cs,H.get b≠some (.row .ro cs)):Rel μ (H.upd b .dead) w:=by
 have hlt:=(h.lt b p hb).1;refine⟨h.lt,λx q e=>?_,λx y q q' ox oy ex ey hne hq gx gy=>?_,λx hx=>?_,h.pin.ro rfl λx cs e=>?_⟩
 ·by_cases hx:x=b
  ·exact⟨.dead,by simp[AH.upd,hx],trivial⟩
  ·obtain⟨o,h1,h2⟩:=h.ok x q e;exact⟨o,by simp[AH.upd,hx,h1],h2⟩
 ·refine Share.old h ex ey hne hq ?_ ?_
  ·by_cases hx:x=b
   ·simp[AH.upd,hx]at gx;exact .inl gx.symm
   ·simp[AH.upd,hx]at gx;exact .inr ⟨ox,gx,.inl rfl⟩
  ·by_cases hy:y=b
   ·simp[AH.upd,hy]at gy;exact .inl gy.symm
   ·simp[AH.upd,hy]at gy;exact .inr ⟨oy,gy,.inl rfl⟩
 ·have hx':H.next≤x:=hx;simp only[AH.upd];rw[if_neg Xo];exact h.fresh x hx'
 ·have hx:x≠b:=λe2=>by subst e2;exact hro _ e
  simp[AH.upd,hx,e]
theorem Keep.off{μ μ':Mu}{H0 H:AH}{w0 w:World}(k:Keep μ μ' H0 H w0 w){b:Nat}{p:Pl}(hb:μ b=some p)(hro:∀cs,H0.get b≠some (.row .ro cs)):Keep μ μ' H0 (H.upd b .dead) w0 w:=by
 refine⟨k.le,k.next,k.os,k.tape,k.output,k.drw,k.size,k.block,λx hx hn=>?_,λx cs e=>?_,k.newBlk⟩
 ·have hne:x≠b:=λe=>by subst e;rw[hb]at hn;cases hn
  obtain⟨a1,a2⟩:=k.away x hx hn;refine⟨a1,?_⟩;simp only[AH.upd];rw[if_neg hne];exact a2
 ·have hx:x≠b:=λe2=>by subst e2;exact hro _ e
  simp only[AH.upd];rw[if_neg hx];exact k.roKept x cs e
theorem AH.worn_off{H:AH}{b φ sz n:Nat}{cs J:List Value}{o:AObj}(hg:H.get b=some (.row (.loose φ sz) cs))(hb:b<H.next)(hf:∀x,H.next≤x->H.get x=none) :
  ((H.worn φ sz b n cs J).push o).upd b .dead=(H.kill φ H.next).push o:=by
 unfold AH.upd AH.push
 have:(λx=>if x=b then some AObj.dead else if x=(H.worn φ sz b n cs J).next then some o else (H.worn φ sz b n cs J).get x)=λx=>if x=(H.kill φ H.next).next then some o else (H.kill φ H.next).get x:=by
  funext x;have e1:(H.worn φ sz b n cs J).next=H.next:=rfl;have e2:(H.kill φ H.next).next=H.next:=rfl;rw[e1,e2];by_cases hx:x=b
  ·subst hx;rw[if_pos rfl,if_neg Xo,H.kill_loose φ H.next x sz cs hg Xo]
  ·rw[if_neg hx];by_cases hn:x=H.next
   ·rw[if_pos hn,if_pos hn]
   ·rw[if_neg hn,if_neg hn,AH.worn_ne _ _ _ _ _ _ _ hx];unfold AH.kill;dsimp only;split
    ·rename_i ψ z c e
     by_cases hψ:ψ=φ
     ·rw[if_pos ⟨hψ,hx⟩,if_pos ⟨hψ,hn⟩]
     ·rw[if_neg (λk=>hψ k.1),if_neg (λk=>hψ k.1)]
    ·rfl
 rw[this];rfl
theorem Keep.trans{μ1 μ2 μ3:Mu}{H1 H2 H3:AH}{w1 w2 w3:World}(h:Keep μ1 μ2 H1 H2 w1 w2)(k:Keep μ2 μ3 H2 H3 w2 w3):Keep μ1 μ3 H1 H3 w1 w3:=by
 refine⟨h.le.trans k.le,YL h.next k.next,k.os.trans h.os,k.tape.trans h.tape,k.output.trans h.output,YL h.drw k.drw,YL h.size k.size,λj hj hro=>?_,λb hb hn=>?_,λb cs hb=>k.roKept b cs (h.roKept b cs hb),λb p h3 h1=>?_⟩
 ·refine (k.block j (YJ hj h.size) λb p hb hp=>?_).trans (h.block j hj hro);cases e:μ1 b with
  | some q =>
   have:=h.le b q e;rw[hb]at this;cases this;obtain⟨cs,hc⟩:=hro b p e hp;exact⟨cs,h.roKept b cs hc⟩
  | none =>
   rcases h.newBlk b p hb e with hge|⟨b0,p0,e0,e1,e2⟩
   ·omega
   ·obtain⟨cs,hc⟩:=hro b0 p0 e0 (e1.trans hp);exact absurd hc (e2 cs)
 ·obtain⟨a1,a2⟩:=h.away b hb hn;obtain⟨c1,c2⟩:=k.away b (YJ hb h.next) a1;refine⟨c1,?_⟩;rcases c2 with c2|c2
  ·rcases a2 with a2|a2
   ·exact .inl (c2.trans a2)
   ·exact .inr (c2.trans a2)
  ·exact .inr c2
 ·cases e:μ2 b with
  | none =>
   rcases k.newBlk b p h3 e with hge|⟨b0,p0,e0,e1,e2⟩
   ·exact .inl (YL h.size hge)
   ·cases e':μ1 b0 with
    | some q =>
     have:=h.le b0 q e';rw[e0]at this;cases this;exact .inr ⟨b0,p0,e',e1,λcs hc=>e2 cs (h.roKept b0 cs hc)⟩
    | none =>
     rcases h.newBlk b0 p0 e0 e' with hge|⟨b1,p1,x0,x1,x2⟩
     ·exact .inl Xo
     ·exact .inr ⟨b1,p1,x0,x1.trans e1,x2⟩
  | some q =>
   have:=k.le b q e;rw[h3]at this;cases this;exact h.newBlk b p e h1
end Go.Vd
