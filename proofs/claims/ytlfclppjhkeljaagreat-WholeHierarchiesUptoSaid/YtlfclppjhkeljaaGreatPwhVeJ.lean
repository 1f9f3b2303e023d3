/- Texts. -/
import Derived.Test.YtlfclppjhkeljaaGreatPwhVeI
set_option linter.all false
open List renaming mem_of_mem_take→YN,length_take→YG,take_append_drop→YT,mem_of_mem_drop→Y1,eq_nil_of_length_eq_zero→Yx,length_nil→Yt,getElem?_take→YY,getElem?_map→Yfa,getElem?_eq_getElem→Yn,mem_of_getElem?→YK,getElem?_eq_none→YQ,length_map→YB,mem_append_left→YC,getElem?_append_left→YF,replicate→Ym,length_replicate→Y6
open Nat renaming mul_le_mul_right→Yz,lt_of_lt_of_le→YJ,le_trans→YL,le_refl→Yj,lt_succ_self→YI
open Option renaming map_some→Yda,bind_some→Yk
namespace Go.Vd
variable[Pins]
section
variable{P:Program}{H H':AH}{E:Type}{enc:E->List Value}{sz:Nat}{b φ:Nat}{k:Kd}{css us:List (List Value)}{xs:List E}{fp:Fp}{s:Value}
structure Rw(H:AH)(b:Nat)(k:Kd)(sz:Nat)(css:List (List Value)):Prop where
 lt:b<H.next
 pos:0<sz
 get:H.get b=some (.row k (css.flatMap id))
 len:∀x∈css,x.length=sz
theorem ZjM{n:Nat}(hl:∀x∈css,x.length=sz)(hn:n≤css.length):(css.flatMap id).take (n*sz)=(css.take n).flatMap id:=by
 have h1:((css.take n).flatMap id).length=n*sz:=by
  rw[ZaB (enc:=id) (sz:=sz) λx hx=>hl x (YN hx),YG,Nat.min_eq_left hn]
 conv=>lhs;rw[← YT n css,List.flatMap_append,← h1]
 exact List.take_left
theorem ZjH{n:Nat}(hl:∀x∈css,x.length=sz)(hn:n≤css.length):(css.flatMap id).drop (n*sz)=(css.drop n).flatMap id:=by
 have h1:((css.take n).flatMap id).length=n*sz:=by
  rw[ZaB (enc:=id) (sz:=sz) λx hx=>hl x (YN hx),YG,Nat.min_eq_left hn]
 conv=>lhs;rw[← YT n css,List.flatMap_append,← h1]
 exact List.drop_left
theorem Rw.cells(h:Rw H b k sz css){o n:Nat}(hn:o+n≤css.length):H.cells b (o*sz) (n*sz)=some (((css.drop o).take n).flatMap id):=by
 have hl:=ZaB (enc:=id) (sz:=sz) h.len;have hm:=Yz sz hn;rw[Nat.add_mul]at hm;unfold AH.cells;rw[h.get];dsimp only;rw[if_pos (by rw[hl];exact hm),ZjH h.len Xo,ZjM (λx hx=>h.len x (Y1 hx)) (by rw[List.length_drop];omega)]
theorem Rw.put(hw:WF H)(h:Rw H b k sz css)(hk:(k=.own/\φ=b)∨k=.loose φ sz){o:Nat}(hl:∀x∈us,x.length=sz)(ho:o+us.length≤css.length) :
  ∃H',H.puts b (o*sz) (us.flatMap id)=some H'/\Fr φ H H'/\H'.next=H.next/\Rw H' b k sz (css.take o++us++css.drop (o+us.length)):=by
 have hlc:=ZaB (enc:=id) (sz:=sz) h.len;have hlu:=ZaB (enc:=id) (sz:=sz) hl;have hm:=Yz sz ho;rw[Nat.add_mul]at hm;obtain⟨H',p1,p2,p3,p4⟩:=Zf6 (o:=o*sz) (vs:=us.flatMap id) (φ:=φ) (sz:=sz) hw h.lt h.get hk (by rw[hlc,hlu];exact hm)
 have he:Zaa (css.flatMap id) (o*sz) (us.flatMap id)=(css.take o++us++css.drop (o+us.length)).flatMap id:=by
  unfold Zaa;rw[hlu,← Nat.add_mul,List.flatMap_append,List.flatMap_append,ZjM h.len Xo,ZjH h.len Xo]
 refine⟨H',p1,p2,p3,by rw[p3];exact h.lt,h.pos,by rw[p4,he],λx hx=>?_⟩;rcases List.mem_append.1 hx with hx|hx
 ·rcases List.mem_append.1 hx with hx|hx
  ·exact h.len x (YN hx)
  ·exact hl x hx
 ·exact h.len x (Y1 hx)
theorem Rw.fr{W:Fp}(h:Rw H b k sz css)(f:FrS W H H')(hn:ZI H b∉W):Rw H' b k sz css:=
 ⟨YJ h.lt f.next,h.pos,(f.same b h.lt hn).trans h.get,h.len⟩
theorem Rw.slo(h:Rw H b k sz css){t:TypeId}{kk:IntKind}{i:Int}{n c:Nat}(ht:Zbh P t=some sz)(h0:0≤i)(h1:i≤(n:Int))(h2:n≤c)(h3:i<(c:Int)) :
  ZT P t (.slice (some ⟨b,0,none⟩) n c) (some (.int kk i)) none none H=some (.slice (some ⟨b,i.toNat*sz,none⟩) (n-i.toNat) (c-i.toNat)):=by
 obtain⟨m,z,hT⟩:=ZaU ht;obtain⟨e,inf,hu,hi,hel,hs,hb⟩:=ZaH hT;unfold ZT;simp only[hu,hi,Z4,h0,if_true,h.get];rw[if_pos Xo,if_pos (.inr Xo),hs];simp
theorem Rw.slo0(h:Rw H b k sz css)(hk:k≠.ro){t:TypeId}{kk:IntKind}{i:Int}{n c:Nat}(ht:Zbh P t=some sz)(h0:0≤i)(h1:i≤(n:Int))(h2:n≤c) :
  ∃v,ZT P t (.slice (some ⟨b,0,none⟩) n c) (some (.int kk i)) none none H=some v:=by
 by_cases h3:i<(c:Int)
 ·exact⟨_,h.slo ht h0 h1 h2 h3⟩
 obtain⟨m,z,hT⟩:=ZaU ht;obtain⟨e,inf,hu,hi,hel,hs,hb⟩:=ZaH hT;unfold ZT;simp only[hu,hi,Z4,h0,if_true,h.get];rw[if_pos Xo];split
 ·exact⟨_,rfl⟩
 ·exact⟨_,rfl⟩
theorem Rw.shi(h:Rw H b k sz css){t:TypeId}{kk:IntKind}{i:Int}{n c:Nat}(ht:Zbh P t=some sz)(h0:0≤i)(h2:i≤(c:Int)) :
  ZT P t (.slice (some ⟨b,0,none⟩) n c) none (some (.int kk i)) none H=some (.slice (some ⟨b,0,none⟩) i.toNat c):=by
 obtain⟨m,z,hT⟩:=ZaU ht;obtain⟨e,inf,hu,hi,hel,hs,hb⟩:=ZaH hT;unfold ZT;simp only[hu,hi,Z4,h0,if_true,h.get];rw[if_pos Xo];split <;> simp
theorem Rw.sboth(h:Rw H b k sz css){t:TypeId}{k1 k2:IntKind}{i j:Int}{n c:Nat}(ht:Zbh P t=some sz)(h0:0≤i)(h1:i≤j)(h2:j≤(c:Int))(h3:i<(c:Int)) :
  ZT P t (.slice (some ⟨b,0,none⟩) n c) (some (.int k1 i)) (some (.int k2 j)) none H=some (.slice (some ⟨b,i.toNat*sz,none⟩) (j.toNat-i.toNat) (c-i.toNat)):=by
 obtain⟨m,z,hT⟩:=ZaU ht;obtain⟨e,inf,hu,hi,hel,hs,hb⟩:=ZaH hT;unfold ZT;simp only[hu,hi,Z4,h0,if_true,h.get,show 0≤j by omega];rw[if_pos Xo,if_pos (.inr Xo),hs];simp
theorem Rw.cap(h:Rw H b .own sz css){t:TypeId}{n c:Nat}(hu:Zd1 P t=true):Ziy P t (.slice (some ⟨b,0,none⟩) n c) H=some (.int .i64 c):=by
 obtain⟨e,hu⟩:=ZdU hu;unfold Ziy;simp only[hu,h.get]
theorem Rw.copy{at_:Array TypeId}{t0:TypeId}{m o n1 c1 b2 o2 n2 c2:Nat}(hw:WF H)(h:Rw H b k sz css)(hk:(k=.own/\φ=b)∨k=.loose φ sz)(a0:at_[0]? = some t0)(hT':ZfL P t0=some (sz,m))
  (hc:H.cells b2 o2 (us.length*sz)=some (us.flatMap id)) (hu:us.length=min n2 n1) (hl:∀x∈us,x.length=sz) (ho:o+us.length≤css.length) :
  ∃H',Zfv P at_ (.slice (some ⟨b,o*sz,none⟩) n1 c1) (.slice (some ⟨b2,o2,none⟩) n2 c2) H=some (.int .i64 ((us.length:Nat):Int),H')/\Fr φ H H'/\H'.next=H.next/\Rw H' b k sz (css.take o++us++css.drop (o+us.length)):=by
 obtain⟨z,hT⟩:=Zey hT';obtain⟨e,i,hu1,hi,hel,hs,hb⟩:=ZaH hT;have hu0:at_[0]?.bind (ZaY P)=some (e,i,z):=by rw[a0];exact hel
 have hu':Nat.min n2 n1=us.length:=hu.symm;by_cases h0:us.length=0
 ·obtain rfl:=Yx h0;refine⟨H,?_,(Ext.refl hw).toFr φ,rfl,by simpa using h⟩;unfold Zfv;rw[hu0];simp only[hu',Yt,if_true];rfl
 ·obtain⟨H',p1,p2,p3,p4⟩:=h.put hw hk hl ho;refine⟨H',?_,p2,p3,p4⟩;unfold Zfv;rw[hu0];simp only[hu',if_neg h0,hs,hc];simp only[p1,Yda]
theorem chunk{n:Nat}{R:List Value}(h:R.length=n*sz):∃css:List (List Value),css.length=n/\(∀x∈css,x.length=sz)/\css.flatMap id=R:=by
 induction n generalizing R with
 | zero=>exact⟨[],rfl,(λx hx=>by cases hx),by rw[Yx (l:=R) Xo];rfl⟩
 | succ n ih =>
  rw[Nat.succ_mul]at h;obtain⟨css,h1,h2,h3⟩:=ih (R:=R.drop sz) (by rw[List.length_drop,h];omega);refine⟨R.take sz::css,by simp[h1],λx hx=>?_,by rw[List.flatMap_cons,h3];exact YT ..⟩;rcases List.mem_cons.1 hx with rfl|hx
  ·rw[YG,h];omega
  ·exact h2 x hx
theorem Rw.of{R:List Value}{c:Nat}(hb:b<H.next)(hp:0<sz)(hg:H.get b=some (.row k R))(hc:R.length=c*sz)(hl:xs.length≤c)(hxl:∀x∈xs,(enc x).length=sz)
  (hcell:∀i x,xs[i]? = some x->∀j,j<sz->R[i*sz+j]? = (enc x)[j]?):∃J,Rw H b k sz (xs.map enc++J)/\xs.length+J.length=c:=by
 obtain⟨css,h1,h2,h3⟩:=chunk hc
 have ht:css.take xs.length=xs.map enc:=by
  refine List.ext_getElem? λi=>?_;by_cases hi:i<xs.length
  ·rw[YY,if_pos hi,Yfa];have hx:=Yn hi;have hx':=Yn (l:=css) (i:=i) Xo;rw[hx,hx'];have l1:=h2 _ (YK hx');have l2:=hxl _ (YK hx);show some _=some _;congr 1;refine List.ext_getElem? λj=>?_;by_cases hj:j<sz
   ·have e1:=hcell i _ hx j hj;have e2:=Zbz (enc:=id) h2 hx' hj;rw[h3,e1]at e2;exact e2.symm
   ·rw[YQ Xo,YQ Xo]
  ·rw[YQ (by rw[YG];omega),YQ (by rw[YB];omega)]
 refine⟨css.drop xs.length,⟨hb,hp,by rw[← ht,YT,h3];exact hg,by rw[← ht,YT];exact h2⟩,by rw[List.length_drop];omega⟩
theorem Rw.ow(h:Rw H b k sz css)(hk:(k=.own/\φ=b)∨k=.loose φ sz){J:List (List Value)}{n c:Nat}(hx:css=xs.map enc++J)(h1:∀x∈xs,Zy (enc x)=true)(hφ:φ<H.next)(hn:xs.length=n)(hc:css.length=c) :
  Ow enc sz H (.slice (some ⟨b,0,none⟩) n c) xs [φ]:=by
 subst hn;subst hc;have hl:∀x∈xs,(enc x).length=sz:=λx hm=>h.len _ (by rw[hx];exact YC _ (List.mem_map_of_mem hm));refine⟨λt ht=>by rw[List.mem_singleton.1 ht];exact hφ,h.pos,.inr ⟨φ,List.mem_singleton.2 rfl,h.pos,hl,h1,hφ,.inr ⟨b,css.length,k,_,rfl,h.lt,h.get,hk,by rw[hx];simp,(ZaB (enc:=id) h.len).symm,λi x hi j hj=>?_⟩⟩⟩;have hi':=(List.getElem?_eq_some_iff.1 hi).1;have:css[i]? = some (enc x):=by rw[hx,YF (by simpa using hi'),Yfa,hi];rfl
 exact Zbz (enc:=id) h.len this hj
theorem Rw.grow{at_:Array TypeId}{t0 t1:TypeId}{m n c:Nat}{kk ki:IntKind}{z:Int}(hw:WF H)(h:Rw H b .own sz css)(a0:at_[0]? = some t0)(a1:at_[1]? = some t1)(hT':ZfL P t0=some (sz,m))(hI:P.underlying t1=some (.int kk))
  (hz:0≤z) (hn:n≤css.length) (hc:c<n+z.toNat) (hm:m≠0) (hcap:((n+z.toNat)+(n+z.toNat) / 4+512)*m≤2 ^ 48) :
  ∃H' zs,Zam P at_ (.slice (some ⟨b,0,none⟩) n c) (.int ki z) H=some (.slice (some ⟨H.next,0,none⟩) (n+z.toNat) (n+z.toNat),H')/\Ext H H'/\H'.next=H.next+1/\Rw H' H.next (.loose H.next sz) sz (css.take n++Ym z.toNat zs):=by
 obtain⟨z0,hT⟩:=Zey hT';obtain⟨e,i,hu1,hi,hel,hs,hb⟩:=ZaH hT
 have hzl:z0.cells.toList.length=sz:=by
  unfold ZaY at hel;rw[hu1]at hel;dsimp only at hel;rw[hi]at hel;dsimp only at hel;split at hel
  ·split at hel
   ·rename_i hh;cases hel;rw[← hs];simpa using hh.1
   ·cases hel
  ·cases hel
 have hcl:=h.cells (o:=0) (n:=n) Xo;rw[Nat.zero_mul,List.drop_zero]at hcl;have hzz:Zac z0 z.toNat=(Ym z.toNat z0.cells.toList).flatMap id:=by unfold Zac;rw[List.flatMap_id]
 have hzn:(Zac z0 z.toNat).length=z.toNat*sz:=by
  rw[hzz,ZaB (enc:=id) (sz:=sz) λx hx=>by rw[(List.mem_replicate.1 hx).2];exact hzl,Y6]
 have hmz:(n+z.toNat)*m≤2 ^ 48:=YL (Yz _ Xo) hcap;have hzm:z.toNat*m≤2 ^ 48:=YL (Yz _ Xo) hmz;have hz1:z.toNat≤z.toNat*m:=Nat.le_mul_of_pos_right _ Xo;refine⟨H.push (.row (.loose H.next sz) ((css.take n).flatMap id++Zac z0 z.toNat)),z0.cells.toList,?_,Zdj hw _ (λφ sz cs e=>by cases e;exact Yj _),rfl,YI _,h.pos,?_,λx hx=>?_⟩
 ·unfold Zam;rw[a0,a1];simp only[Yk,hel,hI,hs,hb];rw[if_pos ⟨hz,Xo,hzm⟩];unfold AH.append;rw[if_neg (by have:=h.pos;omega)];dsimp only;rw[if_neg Xo,if_neg Xo,hcl,h.get]
 ·rw[AH.push_get,List.flatMap_append,hzz]
 ·rcases List.mem_append.1 hx with hx|hx
  ·exact h.len x (YN hx)
  ·rw[(List.mem_replicate.1 hx).2];exact hzl
end
end Go.Vd
