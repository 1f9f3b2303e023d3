/- Texts. -/
import Derived.Test.YtlfclppjhkeljaaGreatPwhVdP
set_option linter.all false
open List renaming length_nil→Yt,getElem?_take→YY,getElem?_drop→Yja,getD_eq_getElem?_getD→Yl,mem_of_getElem?→YK,mem_of_mem_take→YN,mem_of_mem_drop→Y1,getElem?_append→Yba,mem_cons_self→Yw,mem_cons_of_mem→Ys,length_append→Yy,length_cons→Yp
open Nat renaming le_refl→Yj,lt_of_lt_of_le→YJ,lt_succ_self→YI,mul_le_mul_right→Yz,zero_add→Y8
namespace Go.Vd
variable[Pins]
variable{P:Program}{H H' H0 H1:AH}
def ZI(H:AH)(b:Nat):Nat:=
 match H.get b with
 | some (.row (.loose φ _) _)=>φ
 | _=>b
structure WF(H:AH):Prop where
 fresh:∀b,H.next≤b->H.get b=none
 tok:∀b,ZI H b≤b
structure Ext(H H':AH):Prop where
 wf:WF H'
 next:H.next≤H'.next
 same:∀b,b<H.next->H'.get b=H.get b
structure Fr(φ:Nat)(H H':AH):Prop where
 wf:WF H'
 next:H.next≤H'.next
 same:∀b,b<H.next->ZI H b≠φ->H'.get b=H.get b
theorem Ext.refl(h:WF H):Ext H H:=⟨h,Yj _,λ_ _=>rfl⟩
theorem Ext.toFr(h:Ext H H')(φ:Nat):Fr φ H H':=⟨h.wf,h.next,λb hb _=>h.same b hb⟩
structure Row(H:AH)(b:Nat)(cs:List Value):Prop where
 lt:b<H.next
 row:H.get b=some (.row .own cs)
theorem Row.ext{b:Nat}{cs:List Value}(h:Row H b cs)(k:Ext H H'):Row H' b cs:=⟨YJ h.lt k.next,(k.same b h.lt).trans h.row⟩
theorem Row.tok{b:Nat}{cs:List Value}(h:Row H b cs):ZI H b=b:=by simp[ZI,h.row]
def ZeJ(P:Program)(t:TypeId)(cs:List Value)(o:Nat):Option Value:=
 match P.underlying t,P.info? t with
 | some d,some i=>if ZgZ d then (if o+i.size≤cs.length then some (.agg ((cs.drop o).take i.size).toArray) else none) else cs[o]?
 | _,_=>none
theorem ZjT{t:TypeId}{b o:Nat}{k:Kd}{cs:List Value}(h:H.get b=some (.row k cs)):ZbK P t (.pointer (some ⟨b,o,none⟩)) H=ZeJ P t cs o:=by
 simp only[ZbK,ZeJ,AH.cells,AH.cell,h];cases P.underlying t with
 | none=>rfl
 | some d =>
  cases P.info? t with
  | none=>rfl
  | some i =>
   dsimp only;split
   ·split <;> rfl
   ·rfl
theorem Row.ld{b o:Nat}{cs:List Value}{t:TypeId}{v:Value}(h:Row H b cs)(hv:ZeJ P t cs o=some v):ZbK P t (.pointer (some ⟨b,o,none⟩)) H=some v:=by
 rw[ZjT h.row];exact hv
theorem Zdj(h:WF H)(ob:AObj)(ht:∀φ sz cs,ob=.row (.loose φ sz) cs->φ≤H.next):Ext H (H.push ob):=by
 refine⟨⟨λb hb=>?_,λb=>?_⟩,Nat.le_succ _,λb hb=>AH.push_old _ _ _ hb⟩
 ·have hb':H.next+1≤b:=hb;simp only[AH.push];rw[if_neg Xo];exact h.fresh b Xo
 ·by_cases hb:b=H.next
  ·subst hb;unfold ZI;rw[AH.push_get];cases ob with
   | row k cs=>cases k <;> first|exact Yj _|exact ht _ _ _ rfl
   | map _ _=>exact Yj _
   | dead=>exact Yj _
  ·have:ZI (H.push ob) b=ZI H b:=by unfold ZI AH.push;dsimp only;rw[if_neg hb]
   rw[this];exact h.tok b
theorem ZdB(h:WF H)(cs:List Value):Ext H (H.push (.row .own cs))/\Row (H.push (.row .own cs)) H.next cs:=
 ⟨Zdj h _ (λ_ _ _ e=>by cases e),YI _,AH.push_get _ _⟩
theorem Row.put{b o:Nat}{cs vs:List Value}(h:Row H b cs)(hw:WF H)(hl:o+vs.length≤cs.length) :
  ∃H',H.puts b o vs=some H'/\Fr b H H'/\Row H' b (Zaa cs o vs)/\H'.next=H.next:=by
 refine⟨H.upd b (.row .own (Zaa cs o vs)),by simp only[AH.puts,h.row,if_pos hl],⟨⟨λx hx=>?_,λx=>?_⟩,Yj _,λx hx ht=>?_⟩,⟨h.lt,by simp[AH.upd]⟩,rfl⟩
 ·have:x≠b:=λe=>by subst e;have:=h.lt;have hx':H.next≤x:=hx;omega
  simp only[AH.upd,if_neg this];exact hw.fresh x hx
 ·by_cases hx:x=b
  ·subst hx;simp[ZI,AH.upd]
  ·have:ZI (H.upd b (.row .own (Zaa cs o vs))) x=ZI H x:=by unfold ZI AH.upd;dsimp only;rw[if_neg hx]
   rw[this];exact hw.tok x
 ·have:x≠b:=λe=>by subst e;exact ht h.tok
  simp only[AH.upd,if_neg this]
structure Sl{E:Type}(enc:E->List Value)(sz:Nat)(H:AH)(s:Value)(xs:List E):Prop where
 pos:0<sz
 len:∀x∈xs,(enc x).length=sz
 is:(s=.slice none 0 0/\xs=[])∨∃b o c k cs,s=.slice (some ⟨b,o,none⟩) xs.length c/\b<H.next/\H.get b=some (.row k cs)/\xs.length≤c/\o+c*sz≤cs.length /\
  ∀i x,xs[i]? = some x->∀j,j<sz->cs[o+i*sz+j]? = (enc x)[j]?
variable{E:Type}{enc:E->List Value}{sz:Nat}{s:Value}{xs:List E}
def elp(s:Value)(sz i off:Nat):Value:=
 match s with
 | .slice (some ⟨b,o,none⟩) _ _=>.pointer (some ⟨b,o+i*sz+off,none⟩)
 | v=>v
theorem Sl.lenq{t e:TypeId}(h:Sl enc sz H s xs)(hu:P.underlying t=some (.slice e)):Zb7 P t s H=some (.int .i64 xs.length):=by
 rcases h.is with ⟨rfl,rfl⟩|⟨b,o,c,kd,cs,rfl,_⟩ <;> simp only[Zb7,hu,Yt] <;> rfl
def slT(P:Program)(t:TypeId):Option (Nat×Nat×Value):=(ZaY P t).map λx=>(x.2.1.size,x.2.1.bytes,x.2.2)
theorem ZaH{t:TypeId}{n m:Nat}{z:Value}(h:slT P t=some (n,m,z)):∃e i,P.underlying t=some (.slice e)/\P.info? e=some i/\ZaY P t=some (e,i,z)/\i.size=n/\i.bytes=m:=by
 unfold slT at h;cases he:ZaY P t with
 | none=>rw[he]at h;cases h
 | some x =>
  obtain⟨e,i,z'⟩:=x;rw[he]at h;cases h;obtain⟨h1,h2,_⟩:=ZcI he;exact⟨e,i,h1,h2,rfl,rfl,rfl⟩
theorem Sl.idx{t:TypeId}{m:Nat}{z:Value}{k:IntKind}{i:Int}(h:Sl enc sz H s xs)(ht:slT P t=some (sz,m,z))(h0:0≤i)(h1:i<(xs.length:Int)) :
  ZO P t s (.int k i)=some (elp s sz i.toNat 0):=by
 obtain⟨e,inf,hu,hi,_,hs,_⟩:=ZaH ht;rcases h.is with ⟨rfl,rfl⟩|⟨b,o,c,kd,cs,rfl,_⟩
 ·simp at h1;omega
 ·unfold ZO;rw[hu];simp only[hi,hs,h0,h1,and_self,if_true,elp,Nat.add_zero]
theorem ZnJ{t:TypeId}{cs ws:List Value}{p off:Nat}{v:Value}(hl:p+ws.length≤cs.length)(h:∀j,j<ws.length->cs[p+j]? = ws[j]?)(hv:ZeJ P t ws off=some v):ZeJ P t cs (p+off)=some v:=by
 unfold ZeJ at *;split at hv
 ·rename_i d i hd hi
  split at hv
  ·rename_i ha
   rw[if_pos ha];split at hv
   ·rename_i hle
    cases hv
    rw[if_pos Xo]
    have:(cs.drop (p+off)).take i.size=(ws.drop off).take i.size:=by
     apply List.ext_getElem?;intro j;simp only[YY,Yja];split
     ·rename_i hj;rw[Nat.add_assoc];exact h (off+j) Xo
     ·rfl
    rw[this]
   ·cases hv
  ·rename_i ha
   rw[if_neg ha];have:=(List.getElem?_eq_some_iff.1 hv).1;rw[h off this];exact hv
 ·cases hv
def gt[Inhabited E](xs:List E)(i:Int):E:=xs.getD i.toNat default
theorem ZbG[Inhabited E]{i:Int}(h0:0≤i)(h1:i<(xs.length:Int)):xs[i.toNat]? = some (gt xs i):=by
 have:i.toNat<xs.length:=Xo;simp[gt,Yl,this]
theorem ZbU[Inhabited E]{i:Int}(h0:0≤i)(h1:i<(xs.length:Int)):gt xs i∈xs:=YK (ZbG h0 h1)
theorem Zdh[Inhabited E]{i:Nat}(h1:i<xs.length):gt xs (i:Int)=xs[i]:=by
 simp[gt,Yl,h1]
theorem Sl.at_(h:Sl enc sz H s xs){i:Nat}{x:E}(hx:xs[i]? = some x):∃b o c k cs,s=.slice (some ⟨b,o,none⟩) xs.length c/\b<H.next/\H.get b=some (.row k cs)/\xs.length≤c/\o+c*sz≤cs.length /\
  o+i*sz+(enc x).length≤cs.length/\∀j,j<(enc x).length->cs[o+i*sz+j]? = (enc x)[j]?:=by
 rcases h.is with ⟨rfl,rfl⟩|⟨b,o,c,kd,cs,h1,h2,h3,h4,h5,h6⟩
 ·simp at hx
 ·have hlt:i<xs.length:=(List.getElem?_eq_some_iff.1 hx).1;have hl:=h.len x (YK hx);have hm:(i+1)*sz≤c*sz:=Yz _ Xo;have hm2:(i+1)*sz=i*sz+sz:=Nat.succ_mul _ _;refine⟨b,o,c,kd,cs,h1,h2,h3,h4,h5,Xo,λj hj=>h6 i x hx j Xo⟩
theorem Sl.ld[Inhabited E]{t:TypeId}{i:Int}{off:Nat}{v:Value}(h:Sl enc sz H s xs)(h0:0≤i)(h1:i<(xs.length:Int))(hv:ZeJ P t (enc (gt xs i)) off=some v) :
  ZbK P t (elp s sz i.toNat off) H=some v:=by
 obtain⟨b,o,c,kd,cs,rfl,h2,h3,h4,h5,h6,h7⟩:=h.at_ (ZbG h0 h1);simp only[elp];rw[ZjT h3];exact ZnJ h6 h7 hv
theorem Sl.fld{t:TypeId}{i:Int}{off f:Nat}{fs:Array Field}{fd:Field}{inf:TypeInfo}(h:Sl enc sz H s xs)(h0:0≤i)(h1:i<(xs.length:Int))(hu:P.underlying t=some (.struct fs))(hf:fs[f]? = some fd)
  (hi:P.info? fd.type=some inf) (hz:inf.size≠0):Zz P t (elp s sz i.toNat off) f=some (elp s sz i.toNat (off+fd.offset)):=by
 rcases h.is with ⟨rfl,rfl⟩|⟨b,o,c,kd,cs,rfl,_⟩
 ·simp at h1;omega
 ·simp only[elp,Zz,hu,hf,hi,if_neg hz,Nat.add_assoc]
def Zkg(P:Program)(t:TypeId)(f:Nat):Option Nat:=
 match P.underlying t with
 | some (.struct fs)=>match fs[f]? with
  | some fd=>match P.info? fd.type with
   | some i=>if i.size=0 then none else some fd.offset
   | none=>none
  | none=>none
 | _=>none
theorem Sl.fldq{t:TypeId}{i:Int}{off f d:Nat}(h:Sl enc sz H s xs)(h0:0≤i)(h1:i<(xs.length:Int))(hf:Zkg P t f=some d):Zz P t (elp s sz i.toNat off) f=some (elp s sz i.toNat (off+d)):=by
 unfold Zkg at hf;split at hf
 ·rename_i fs hu
  split at hf
  ·rename_i fd hfd
   split at hf
   ·rename_i inf hi
    split at hf
    ·cases hf
    ·rename_i hz
     cases hf
     exact h.fld h0 h1 hu hfd hi hz
   ·cases hf
  ·cases hf
 ·cases hf
theorem Sl.drop_take(h:Sl enc sz H s xs){t:TypeId}{m:Nat}{z:Value}(ht:slT P t=some (sz,m,z)){lo hi:Option Value}{l r:Nat}(e1:Z4 0 lo=some l)(e2:Z4 xs.length hi=some r)(hl:l≤r)(hr:r≤xs.length) :
  ∃s',ZT P t s lo hi none H=some s'/\Sl enc sz H s' ((xs.take r).drop l):=by
 obtain⟨e,inf,hu,hinf,_,hs,_⟩:=ZaH ht;rcases h.is with ⟨rfl,rfl⟩|⟨b,o,c,kd,cs,rfl,h2,h3,h4,h5,h6⟩
 ·simp at hr;subst hr;have hl0:l=0:=Xo;subst hl0;refine⟨.slice none 0 0,?_,⟨h.pos,Xs,.inl ⟨rfl,rfl⟩⟩⟩;unfold ZT;have e2':Z4 0 hi=some 0:=by simpa using e2
  simp only[hu,hinf,e1,e2',Yj,and_self,if_true]
 ·have hlen:((xs.take r).drop l).length=r-l:=by simp;omega
  have hsub:∀i x,((xs.take r).drop l)[i]? = some x->xs[l+i]? = some x:=by
   intro i x hx;rw[Yja,YY]at hx;split at hx
   ·exact hx
   ·cases hx
  have hmem:∀x∈(xs.take r).drop l,(enc x).length=sz:=λx hx=>h.len x (YN (Y1 hx));by_cases hm:(AObj.row kd cs).isLoose=true∨l<c
  ·refine⟨.slice (some ⟨b,o+l*sz,none⟩) (r-l) (c-l),?_,⟨h.pos,hmem,.inr ⟨b,o+l*sz,c-l,kd,cs,by rw[hlen],h2,h3,Xo,?_,λi x hx j hj=>?_⟩⟩⟩
   ·unfold ZT;simp only[hu,hinf,e1,e2,h3];rw[if_pos ⟨hl,Xo⟩,if_pos hm,hs]
   ·rw[Nat.sub_mul];have:l*sz≤c*sz:=Yz _ Xo;omega
   ·have:=h6 (l+i) x (hsub i x hx) j hj;rw[Nat.add_mul]at this;rw[show o+l*sz+i*sz+j=o+(l*sz+i*sz)+j from Xo];exact this
  ·have hlc:l=c:=by
    have:¬l<c:=λh=>hm (.inr h);omega
   refine⟨.slice (some ⟨b,o,none⟩) (r-l) (c-l),?_,⟨h.pos,hmem,.inr ⟨b,o,c-l,kd,cs,by rw[hlen],h2,h3,Xo,by rw[show c-l=0 from Xo];omega,λi x hx=>?_⟩⟩⟩
   ·unfold ZT;simp only[hu,hinf,e1,e2,h3];rw[if_pos ⟨hl,Xo⟩,if_neg hm]
   ·have:=(List.getElem?_eq_some_iff.1 hx).1;omega
structure Own{E:Type}(enc:E->List Value)(sz:Nat)(H:AH)(s:Value)(xs:List E)(φ:Nat):Prop where
 pos:0<sz
 len:∀x∈xs,(enc x).length=sz
 one:∀x∈xs,Zy (enc x)=true
 lt:φ<H.next
 is:(s=.slice none 0 0/\xs=[])∨∃b c k cs,s=.slice (some ⟨b,0,none⟩) xs.length c/\b<H.next/\H.get b=some (.row k cs)/\((k=.own/\φ=b)∨k=.loose φ sz)/\xs.length≤c/\c*sz=cs.length /\
  ∀i x,xs[i]? = some x->∀j,j<sz->cs[i*sz+j]? = (enc x)[j]?
theorem Own.sl{φ:Nat}(h:Own enc sz H s xs φ):Sl enc sz H s xs:=by
 refine⟨h.pos,h.len,?_⟩;rcases h.is with h|⟨b,c,k,cs,h1,h2,h3,_,h5,h6,h7⟩
 ·exact .inl h
 ·exact .inr ⟨b,0,c,k,cs,h1,h2,h3,h5,Xo,λi x hx j hj=>by rw[Y8];exact h7 i x hx j hj⟩
theorem Zbz{xs:List E}(hl:∀x∈xs,(enc x).length=sz){i:Nat}{x:E}(hx:xs[i]? = some x){j:Nat}(hj:j<sz):(xs.flatMap enc)[i*sz+j]? = (enc x)[j]?:=by
 induction xs generalizing i with
 | nil=>simp at hx
 | cons y ys ih =>
  rw[List.flatMap_cons,Yba];have hy:=hl y (Yw ..);cases i with
  | zero =>
   simp at hx;subst hx;rw[if_pos Xo];congr 1;omega
  | succ i =>
   have hm:(i+1)*sz=i*sz+sz:=Nat.succ_mul _ _;rw[if_neg Xo,hy];rw[show (i+1)*sz+j-sz=i*sz+j from Xo];exact ih (λz hz=>hl z (Ys _ hz)) (by simpa using hx)
theorem ZaB{xs:List E}(hl:∀x∈xs,(enc x).length=sz):(xs.flatMap enc).length=xs.length*sz:=by
 induction xs with
 | nil=>simp
 | cons y ys ih =>
  rw[List.flatMap_cons,Yy,hl y (Yw ..),ih (λz hz=>hl z (Ys _ hz)),Yp,Nat.succ_mul];omega
theorem Own.new(hw:WF H)(hp:0<sz)(hl:∀x∈xs,(enc x).length=sz)(h1:∀x∈xs,Zy (enc x)=true) :
  Ext H (H.push (.row .own (xs.flatMap enc)))/\Own enc sz (H.push (.row .own (xs.flatMap enc))) (.slice (some ⟨H.next,0,none⟩) xs.length xs.length) xs H.next:=
 ⟨Zdj hw _ (λ_ _ _ e=>by cases e),hp,hl,h1,YI _,.inr ⟨H.next,xs.length,.own,_,rfl,YI _,AH.push_get _ _,.inl ⟨rfl,rfl⟩,Yj _,(ZaB hl).symm,λi x hx j hj=>Zbz hl hx hj⟩⟩
end Go.Vd
