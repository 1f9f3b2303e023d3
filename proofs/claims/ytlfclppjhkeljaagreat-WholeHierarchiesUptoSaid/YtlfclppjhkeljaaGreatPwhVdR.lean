/- Texts. -/
import Derived.Test.YtlfclppjhkeljaaGreatPwhVdQ
set_option linter.all false
open Bool renaming and_eq_true→YW
open List renaming eq_nil_of_length_eq_zero→Yx,length_nil→Yt,length_append→Yy,length_take→YG,getElem?_append→Yba,getElem?_take→YY,getElem?_append_left→YF,replicate→Ym,mem_of_getElem?→YK,mem_of_mem_take→YN,mem_of_mem_drop→Y1
open Nat renaming le_refl→Yj,le_trans→YL,lt_of_lt_of_le→YJ,lt_succ_self→YI,zero_add→Y8,mul_le_mul_right→Yz
namespace Go.Vd
variable[Pins]
variable{P:Program}{H H':AH}{E:Type}{enc:E->List Value}{sz:Nat}{s:Value}{xs ys:List E}{φ:Nat}
theorem ZgQ(hw:WF H)(φ k:Nat):Fr φ H (H.kill φ k):=by
 refine⟨⟨λb hb=>H.kill_none φ k b (hw.fresh b hb),λb=>?_⟩,Yj _,λb hb ht=>?_⟩
 ·rcases H.kill_cases φ k b with e|⟨e,_⟩
  ·have:ZI (H.kill φ k) b=ZI H b:=by unfold ZI;rw[e]
   rw[this];exact hw.tok b
  ·unfold ZI;rw[e];exact Yj _
 ·rcases H.kill_cases φ k b with e|⟨_,_,sz,cs,e⟩
  ·exact e
  ·unfold ZI at ht;rw[e]at ht;exact absurd rfl ht
theorem Fr.trans{A B C:AH}{φ:Nat}(h:Fr φ A B)(k:Fr φ B C)(_:WF A):Fr φ A C:=by
 refine⟨k.wf,YL h.next k.next,λb hb ht=>?_⟩;have e:=h.same b hb ht;have:ZI B b=ZI A b:=by unfold ZI;rw[e]
 exact (k.same b (YJ hb h.next) (by rw[this];exact ht)).trans e
theorem AH.puts_own{H:AH}{b o:Nat}{cs vs:List Value}(hg:H.get b=some (.row .own cs))(hl:o+vs.length≤cs.length):H.puts b o vs=some (H.upd b (.row .own (Zaa cs o vs))):=by
 simp only[AH.puts,hg,if_pos hl]
theorem AH.puts_loose{H:AH}{b o φ sz:Nat}{cs vs:List Value}(hg:H.get b=some (.row (.loose φ sz) cs))(hl:o+vs.length≤cs.length):H.puts b o vs=some ((H.kill φ b).upd b (.row (.loose φ sz) (Zaa cs o vs))):=by
 simp only[AH.puts,hg,if_pos hl]
theorem Zm9{A B:AH}{b:Nat}{ob:AObj}{φ:Nat}(h:Fr φ A B)(_:WF A)(hb:b<A.next)(ht:ZI A b=φ)(hob:ZI (B.upd b ob) b=φ)(hle:φ≤b):Fr φ A (B.upd b ob):=by
 refine⟨⟨λx hx=>?_,λx=>?_⟩,h.next,λx hx hn=>?_⟩
 ·have hx':B.next≤x:=hx;have:x≠b:=λe=>by subst e;have:=h.next;omega
  simp only[AH.upd,if_neg this];exact h.wf.fresh x hx'
 ·by_cases hx:x=b
  ·subst hx;rw[hob];exact hle
  ·have:ZI (B.upd b ob) x=ZI B x:=by unfold ZI AH.upd;dsimp only;rw[if_neg hx]
   rw[this];exact h.wf.tok x
 ·have:x≠b:=λe=>hn (by rw[e];exact ht);simp only[AH.upd,if_neg this];exact h.same x hx hn
theorem Zf6(hw:WF H){b o:Nat}{k:Kd}{cs vs:List Value}(hb:b<H.next)(hg:H.get b=some (.row k cs))(hk:(k=.own/\φ=b)∨k=.loose φ sz)(hl:o+vs.length≤cs.length) :
  ∃H',H.puts b o vs=some H'/\Fr φ H H'/\H'.next=H.next/\H'.get b=some (.row k (Zaa cs o vs)):=by
 rcases hk with ⟨rfl,rfl⟩|rfl
 ·refine⟨_,AH.puts_own hg hl,Zm9 ((Ext.refl hw).toFr φ) hw hb (by simp[ZI,hg]) (by simp[ZI,AH.upd]) (Yj _),rfl,by simp[AH.upd]⟩
 ·have ht:ZI H b=φ:=by simp[ZI,hg]
  refine⟨_,AH.puts_loose hg hl,Zm9 (ZgQ hw φ b) hw hb ht (by simp[ZI,AH.upd]) (by rw[← ht];exact hw.tok b),rfl,by simp[AH.upd]⟩
theorem Own.append(hw:WF H)(h:Own enc sz H s xs φ){bytes:Nat}(hb:bytes≠0)(hcap:((xs.length+ys.length)+(xs.length+ys.length) / 4+512)*bytes≤2 ^ 48)(hl:∀y∈ys,(enc y).length=sz)(h1:∀y∈ys,Zy (enc y)=true) :
  ∃s' H' ψ,H.append sz bytes s ys.length (ys.flatMap enc)=some (s',H')/\Fr φ H H'/\Own enc sz H' s' (xs++ys) ψ/\(ψ=φ∨ψ=H.next):=by
 have hsz:=h.pos;have hvl:(ys.flatMap enc).length=ys.length*sz:=ZaB hl;have hmem:∀x∈xs++ys,(enc x).length=sz:=λx hx=>(List.mem_append.1 hx).elim (h.len x) (hl x);have hmem1:∀x∈xs++ys,Zy (enc x)=true:=λx hx=>(List.mem_append.1 hx).elim (h.one x) (h1 x);have hcond:¬(sz=0∨(ys.flatMap enc).length≠ys.length*sz):=Xo;have hby:¬(bytes=0∨((xs.length+ys.length)+(xs.length+ys.length) / 4+512)*bytes>2 ^ 48):=Xo;rcases h.is with ⟨rfl,rfl⟩|⟨b,c,k,cs,rfl,hb2,hg,hk,hc1,hc2,hcell⟩
 ·by_cases hy:ys.length=0
  ·have:ys=[]:=Yx hy;subst this;refine⟨.slice none 0 0,H,φ,?_,(Ext.refl hw).toFr φ,by simpa using h,.inl rfl⟩;unfold AH.append;rw[if_neg hcond];simp
  ·refine⟨.slice (some ⟨H.next,0,none⟩) ys.length ys.length,H.push (.row (.loose H.next sz) (ys.flatMap enc)),H.next,?_,(Zdj hw _ (λψ z cs e=>by cases e;exact Yj _)).toFr φ,
    ⟨hsz,by simpa using hl,by simpa using h1,YI _,.inr ⟨H.next,ys.length,_,_,Xs,YI _,AH.push_get _ _,.inr rfl,Xs,hvl.symm,λi x hx j hj=>Zbz hl (by simpa using hx) hj⟩⟩,.inr rfl⟩
   unfold AH.append;rw[if_neg hcond];simp only[Yt,Y8]at hby ⊢;rw[if_neg Xo,if_neg hby];simp
 ·have hm1:xs.length*sz≤c*sz:=Yz _ hc1
  have hlen:(cs.take (xs.length*sz)++ys.flatMap enc).length=(xs.length+ys.length)*sz:=by
   rw[Yy,YG,Nat.min_eq_left Xo,hvl,Nat.add_mul]
  have hsp:∀(ws:List Value),ws.length=(ys.length)*sz->∀i x,(xs++ys)[i]? = some x->∀j,j<sz->(cs.take (xs.length*sz)++ys.flatMap enc++ws)[i*sz+j]? = (enc x)[j]?:=by
   intro ws _ i x hx j hj;rw[List.append_assoc,Yba,YG,Nat.min_eq_left Xo];rw[Yba]at hx;by_cases hi:i<xs.length
   ·rw[if_pos hi]at hx;have hmi:(i+1)*sz≤xs.length*sz:=Yz _ hi;have hms:(i+1)*sz=i*sz+sz:=Nat.succ_mul _ _;rw[if_pos Xo,YY,if_pos Xo];exact hcell i x hx j hj
   ·rw[if_neg hi]at hx;have hlt:=(List.getElem?_eq_some_iff.1 hx).1;have hmi:xs.length*sz≤i*sz:=Yz _ Xo;have hms:(i-xs.length)*sz=i*sz-xs.length*sz:=Nat.sub_mul _ _ _;have hmu:(i-xs.length+1)*sz≤ys.length*sz:=Yz _ hlt;have hmv:(i-xs.length+1)*sz=(i-xs.length)*sz+sz:=Nat.succ_mul _ _;rw[if_neg Xo,YF Xo];rw[show i*sz+j-xs.length*sz=(i-xs.length)*sz+j from Xo];exact Zbz hl hx hj
  by_cases hroom:xs.length+ys.length≤c
  ·by_cases hy:ys.length=0
   ·have:ys=[]:=Yx hy;subst this;refine⟨.slice (some ⟨b,0,none⟩) xs.length c,H,φ,?_,(Ext.refl hw).toFr φ,by simpa using h,.inl rfl⟩;unfold AH.append;rw[if_neg hcond];dsimp only;rw[if_pos hroom];simp
   ·have hmr:(xs.length+ys.length)*sz≤c*sz:=Yz _ hroom;have hma:(xs.length+ys.length)*sz=xs.length*sz+ys.length*sz:=Nat.add_mul _ _ _;obtain⟨H',p1,p2,p3,p4⟩:=Zf6 (o:=xs.length*sz) (vs:=ys.flatMap enc) (φ:=φ) (sz:=sz) hw hb2 hg hk Xo;refine⟨.slice (some ⟨b,0,none⟩) (xs.length+ys.length) c,H',φ,?_,p2,⟨hsz,hmem,hmem1,by rw[p3];exact h.lt,.inr ⟨b,c,k,_,Xs,by rw[p3];exact hb2,p4,hk,by simpa using hroom,?_,?_⟩⟩,.inl rfl⟩
    ·unfold AH.append;rw[if_neg hcond];dsimp only;rw[if_pos hroom,if_neg hy,Y8,p1];rfl
    ·rw[ZcH Xo];exact hc2
    ·intro i x hx j hj;unfold Zaa;have hi:=(List.getElem?_eq_some_iff.1 hx).1;have hmi:(i+1)*sz≤(xs.length+ys.length)*sz:=Yz _ (by rw[Yy]at hi;exact hi);have hms:(i+1)*sz=i*sz+sz:=Nat.succ_mul _ _;rw[YF (by rw[hlen];omega)];have:=hsp (Ym (ys.length*sz) undef) Xs i x hx j hj;rw[YF (by rw[hlen];omega)]at this;exact this
  ·have hcells:H.cells b 0 (xs.length*sz)=some (cs.take (xs.length*sz)):=by
    unfold AH.cells;rw[hg];dsimp only;rw[if_pos Xo];simp
   have hnew:∀(k':Kd) (H1:AH),H1.next=H.next->(k'=.loose φ sz∨k'=.loose H.next sz)->∀i x,(xs++ys)[i]? = some x->∀j,j<sz->(cs.take (xs.length*sz)++ys.flatMap enc)[i*sz+j]? = (enc x)[j]?:=by
    intro k' H1 _ _ i x hx j hj;have:=hsp (Ym (ys.length*sz) undef) Xs i x hx j hj;have hi:=(List.getElem?_eq_some_iff.1 hx).1;have hmi:(i+1)*sz≤(xs.length+ys.length)*sz:=Yz _ (by rw[Yy]at hi;exact hi);have hms:(i+1)*sz=i*sz+sz:=Nat.succ_mul _ _;have hma:(xs.length+ys.length)*sz=xs.length*sz+ys.length*sz:=Nat.add_mul _ _ _;rw[YF (by rw[hlen];omega)]at this;exact this
   rcases hk with ⟨rfl,rfl⟩|rfl
   ·refine⟨.slice (some ⟨H.next,0,none⟩) (xs.length+ys.length) (xs.length+ys.length),H.push (.row (.loose H.next sz) (cs.take (xs.length*sz)++ys.flatMap enc)),H.next,?_,
     (Zdj hw _ (λψ z cs e=>by cases e;exact Yj _)).toFr _,⟨hsz,hmem,hmem1,YI _,.inr ⟨H.next,xs.length+ys.length,_,_,Xs,YI _,AH.push_get _ _,.inr rfl,Xs,hlen.symm,hnew (.loose H.next sz) H rfl (.inr rfl)⟩⟩,.inr rfl⟩
    unfold AH.append;rw[if_neg hcond];dsimp only;rw[if_neg hroom,if_neg hby,hcells,hg]
   ·have hkf:=ZgQ hw φ (if xs.length=c then b else H.next);have hlt:=h.lt
    have hpf:Fr φ H ((H.kill φ (if xs.length=c then b else H.next)).push (.row (.loose φ sz) (cs.take (xs.length*sz)++ys.flatMap enc))):=
     hkf.trans ((Zdj hkf.wf _ (λψ z cs e=>by cases e;exact Nat.le_of_lt hlt)).toFr φ) hw
    refine⟨.slice (some ⟨H.next,0,none⟩) (xs.length+ys.length) (xs.length+ys.length),_,φ,?_,hpf,
     ⟨hsz,hmem,hmem1,Nat.lt_succ_of_lt hlt,.inr ⟨H.next,xs.length+ys.length,.loose φ sz,cs.take (xs.length*sz)++ys.flatMap enc,Xs,YI _,AH.push_get (H.kill φ _) _,.inr rfl,Xs,hlen.symm,hnew (.loose φ sz) H rfl (.inl rfl)⟩⟩,.inl rfl⟩
    unfold AH.append;rw[if_neg hcond];dsimp only;rw[if_neg hroom,if_neg hby,hcells,hg];dsimp only;rw[if_pos ⟨rfl,Xo⟩]
theorem Own.put(hw:WF H)(h:Own enc sz H s xs φ){i off:Nat}{x y:E}{vs:List Value}(hx:xs[i]? = some x)(hl:off+vs.length≤sz)(hy:enc y=Zaa (enc x) off vs)(h1:Zy vs=true) :
  ∃b o H',elp s sz i off=.pointer (some ⟨b,o,none⟩)/\H.puts b o vs=some H'/\Fr φ H H'/\H'.next=H.next/\Own enc sz H' s (xs.set i y) φ:=by
 have hi:i<xs.length:=(List.getElem?_eq_some_iff.1 hx).1;rcases h.is with ⟨rfl,rfl⟩|⟨b,c,k,cs,rfl,hb2,hg,hk,hc1,hc2,hcell⟩
 ·simp at hx
 ·have hmi:(i+1)*sz≤c*sz:=Yz _ Xo;have hms:(i+1)*sz=i*sz+sz:=Nat.succ_mul _ _;have hex:=h.len x (YK hx);obtain⟨H',p1,p2,p3,p4⟩:=Zf6 (o:=i*sz+off) (vs:=vs) (φ:=φ) (sz:=sz) hw hb2 hg hk Xo;have hmem:∀z∈xs.set i y,z∈xs∨z=y:=λz hz=>List.mem_or_eq_of_mem_set hz;refine⟨b,i*sz+off,H',by simp[elp],p1,p2,p3,⟨h.pos,λz hz=>?_,λz hz=>?_,by rw[p3];exact h.lt,.inr ⟨b,c,k,_,Xs,by rw[p3];exact hb2,p4,hk,by simpa using hc1,?_,λj z hz q hq=>?_⟩⟩⟩
  ·rcases hmem z hz with hz|rfl
   ·exact h.len z hz
   ·rw[hy,ZcH Xo];exact hex
  ·rcases hmem z hz with hz|rfl
   ·exact h.one z hz
   ·rw[hy];unfold Zaa Zy;rw[List.all_append,List.all_append,YW,YW];have hxo:=h.one x (YK hx);unfold Zy at hxo h1;exact⟨⟨List.all_eq_true.2 λv hv=>List.all_eq_true.1 hxo v (YN hv),h1⟩,List.all_eq_true.2 λv hv=>List.all_eq_true.1 hxo v (Y1 hv)⟩
  ·rw[ZcH Xo];exact hc2
  ·rw[Zfh Xo];rw[List.getElem?_set]at hz;by_cases hj:i=j
   ·subst hj;rw[if_pos rfl]at hz;simp[hi]at hz;subst hz;rw[hy,Zfh Xo];by_cases q1:q<off
    ·rw[if_pos Xo,if_pos q1];exact hcell i x hx q hq
    ·rw[if_neg Xo,if_neg q1];by_cases q2:q<off+vs.length
     ·rw[if_pos Xo,if_pos q2];congr 1;omega
     ·rw[if_neg Xo,if_neg q2];exact hcell i x hx q hq
   ·rw[if_neg hj]at hz;rcases Nat.lt_or_gt_of_ne hj with hlt|hgt
    ·have hm2:(i+1)*sz≤j*sz:=Yz _ hlt;rw[if_neg Xo,if_neg Xo];exact hcell j z hz q hq
    ·have hm2:(j+1)*sz≤i*sz:=Yz _ hgt;have hm3:(j+1)*sz=j*sz+sz:=Nat.succ_mul _ _;rw[if_pos Xo];exact hcell j z hz q hq
end Go.Vd
