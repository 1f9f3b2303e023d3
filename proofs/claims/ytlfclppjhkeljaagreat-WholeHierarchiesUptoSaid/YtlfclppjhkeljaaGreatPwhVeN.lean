/- Texts. -/
import Derived.Test.YtlfclppjhkeljaaGreatPwhVeB
set_option linter.all false
open List renaming getD_eq_getElem?_getD→Yl,getElem?_set_self→Y4,getElem?_eq_getElem→Yn,mem_append_left→YC,getElem?_append_left→YF,mem_append_right→YS,getElem?_append_right→YV,length_set→Yv,replicate→Ym,eq_of_mem_replicate→YU,mem_of_getElem?→YK
open Nat renaming le_refl→Yj,zero_add→Y8,lt_of_lt_of_le→YJ,le_trans→YL
namespace Go.Vd
variable[Pins]
theorem Dj.sub{a b b':Fp}(h:Dj a b)(k:∀t∈b',t∈b):Dj a b':=λt ha hb=>h t ha (k t hb)
theorem Dj.subl{a a' b:Fp}(h:Dj a b)(k:∀t∈a',t∈a):Dj a' b:=λt ha hb=>h t (k t ha) hb
theorem Lt.sub{H:AH}{a b:Fp}(h:Lt H a)(k:∀t∈b,t∈a):Lt H b:=λt ht=>h t (k t ht)
section
variable{P:Program}{H H':AH}{E:Type}{enc:E->List Value}{sz:Nat}{s:Value}{xs ys:List E}{W fp fq:Fp}
theorem Sq.up(h:Sq enc sz H s xs fp)(k:∀t∈fp,t∈fq)(hl:Lt H fq):Sq enc sz H s xs fq:=
 ⟨hl,h.pos,h.is.imp id λ⟨a,b⟩=>⟨a,λb' o n c e=>⟨(b b' o n c e).1,k _ (b b' o n c e).2⟩⟩⟩
theorem Row.sqn{b:Nat}{cs:List Value}(h:Row H b cs)(hp:0<sz)(css:List (List Value))(hl:∀x∈css,x.length=sz)(hc:cs=css.flatMap id)(n:Nat)(hn:css.length=n) :
  Sq id sz H (.slice (some ⟨b,0,none⟩) n n) css [b]:=by
 subst hn;subst hc;refine⟨λt ht=>by rw[List.mem_singleton.1 ht];exact h.lt,hp,.inr ⟨⟨hp,hl,.inr ⟨b,0,_,_,_,rfl,h.lt,h.row,Yj _,?_,?_⟩⟩,?_⟩⟩
 ·rw[ZaB (enc:=id) hl];omega
 ·intro i x hx j hj;rw[Y8];exact Zbz (enc:=id) hl hx hj
 ·intro b' o n c e;cases e
  exact⟨h.lt,by rw[h.tok];exact List.mem_singleton.2 rfl⟩
end
theorem ZdH{E:Type}[Inhabited E]{xs:List E}{i:Int}(h0:0≤i)(h1:i<(xs.length:Int))(y:E):gt (xs.set i.toNat y) i=y:=by
 have hi:i.toNat<xs.length:=Xo;simp[gt,Yl,Y4 hi]
structure CR(E:Type) where
 rel:AH->E->List Value->Fp->Prop
 sz:Nat
 pos:0<sz
 len:∀{H:AH} {x:E} {cs:List Value} {fp:Fp},rel H x cs fp->cs.length=sz
 one:∀{H:AH} {x:E} {cs:List Value} {fp:Fp},rel H x cs fp->Zy cs=true
 lt:∀{H:AH} {x:E} {cs:List Value} {fp:Fp},rel H x cs fp->Lt H fp
 fr:∀{H H':AH} {x:E} {cs:List Value} {fp W:Fp},rel H x cs fp->FrS W H H'->Dj W fp->rel H' x cs fp
def CR.int(k:IntKind):CR Int where
 rel H x cs fp:=cs=[.int k x]/\Lt H fp
 sz:=1
 pos:=Xd
 len h:=by rw[h.1];rfl
 one h:=by rw[h.1];rfl
 lt h:=h.2
 fr h k _:=⟨h.1,h.2.fr k⟩
def CR.bool:CR Bool where
 rel H x cs fp:=cs=[.bool x]/\Lt H fp
 sz:=1
 pos:=Xd
 len h:=by rw[h.1];rfl
 one h:=by rw[h.1];rfl
 lt h:=h.2
 fr h k _:=⟨h.1,h.2.fr k⟩
def CR.sl{E:Type}(enc:E->List Value)(sz:Nat):CR (List E) where
 rel H x cs fp:=∃h,cs=[h]/\Ow enc sz H h x fp
 sz:=1
 pos:=Xd
 len h:=by obtain⟨_,rfl,_⟩:=h;rfl
 one h:=by obtain⟨v,rfl,h⟩:=h;simp[Zy,h.one1]
 lt h:=by obtain⟨_,_,h⟩:=h;exact h.lt
 fr h k d:=by obtain⟨v,e,h⟩:=h;exact⟨v,e,h.fr k d⟩
structure Nst{E:Type}(C:CR E)(H:AH)(s:Value)(xs:List E)(fp:Fp):Prop where
 lt:Lt H fp
 is:∃(css:List (List Value)) (f0:Fp) (F:Nat->Fp),Ow id C.sz H s css f0/\(∀t∈f0,t∈fp)/\css.length=xs.length /\
  ∀(i:Nat) (x:E) (cs:List Value),xs[i]? = some x->css[i]? = some cs->C.rel H x cs (F i)/\(∀t∈F i,t∈fp)/\Dj f0 (F i)/\∀j,j<xs.length->j≠i->Dj (F i) (F j)
def Kid(H:AH)(s:Value)(sz i off:Nat)(hd:Value)(fp:Fp):Prop:=
 ∃b o n c k row,s=.slice (some ⟨b,o,none⟩) n c/\b<H.next/\ZI H b∈fp/\H.get b=some (.row k row)/\row[o+i*sz+off]? = some hd
structure KdS{E:Type}(enc:E->List Value)(sz':Nat)(H:AH)(hd:Value)(ys:List E)(fp:Fp)(s:Value)(sz i off:Nat):Prop where
 sq:Sq enc sz' H hd ys fp
 kid:Kid H s sz i off hd fp
section
variable{P:Program}{H H':AH}{E:Type}{C:CR E}{s:Value}{xs:List E}{W fp g:Fp}
theorem Kid.fr{sz i off:Nat}{hd:Value}(h:Kid H s sz i off hd fp)(k:FrS W H H')(hd1:Dj W fp):Kid H' s sz i off hd fp:=by
 obtain⟨b,o,n,c,kd,row,e1,e2,e3,e4,e5⟩:=h;have he:H'.get b=H.get b:=k.same b e2 λhm=>hd1 _ hm e3;exact⟨b,o,n,c,kd,row,e1,YJ e2 k.next,by unfold ZI;rw[he];exact e3,he.trans e4,e5⟩
theorem KdS.fr{E':Type}{enc:E'->List Value}{sz' sz i off:Nat}{hd:Value}{ys:List E'}(h:KdS enc sz' H hd ys fp s sz i off)(k:FrS W H H')(hd1:Dj W fp):KdS enc sz' H' hd ys fp s sz i off:=⟨h.sq.fr k hd1,h.kid.fr k hd1⟩
theorem KdS.ext{E':Type}{enc:E'->List Value}{sz' sz i off:Nat}{hd:Value}{ys:List E'}(h:KdS enc sz' H hd ys fp s sz i off)(k:Ext H H'):KdS enc sz' H' hd ys fp s sz i off:=h.fr (k.frS []) Dj.nil_l
theorem Nst.fr(h:Nst C H s xs fp)(k:FrS W H H')(hd:Dj W fp):Nst C H' s xs fp:=by
 obtain⟨hl,css,f0,F,a,b,c,d⟩:=h;exact⟨hl.fr k,css,f0,F,a.fr k (hd.sub b),b,c,λi x cs h1 h2=>let ⟨e1,e2,e3⟩:=d i x cs h1 h2;⟨C.fr e1 k (hd.sub e2),e2,e3⟩⟩
theorem Nst.ext(h:Nst C H s xs fp)(k:Ext H H'):Nst C H' s xs fp:=h.fr (k.frS []) Dj.nil_l
theorem Nst.nil:Nst C H (.slice none 0 0) [] []:=⟨.nil,[],[],λ_=>[],.nil C.pos,(λ_ h=>(by cases h)),rfl,(λi x cs h=>(by simp at h))⟩
theorem Nst.form(h:Nst C H s xs fp):∃a n c,s=.slice a n c:=by obtain⟨_,css,f0,F,a,_⟩:=h;exact a.form
theorem Nst.one1(h:Nst C H s xs fp):s.oneCell'=true:=by obtain⟨_,css,f0,F,a,_⟩:=h;exact a.one1
theorem Nst.lenb{t:TypeId}(h:Nst C H s xs fp)(hu:Zd1 P t=true):Zb7 P t s H=some (.int .i64 xs.length):=by
 obtain⟨_,css,f0,F,a,_,b,_⟩:=h;rw[← b];exact a.sq.lenb hu
theorem Nst.idxb{t:TypeId}{k:IntKind}{i:Int}(h:Nst C H s xs fp)(ht:Zbh P t=some C.sz)(h0:0≤i)(h1:i<(xs.length:Int)):ZO P t s (.int k i)=some (elp s C.sz i.toNat 0):=by
 obtain⟨_,css,f0,F,a,_,b,_⟩:=h;rw[← b]at h1;exact a.sq.idxb ht h0 h1
theorem Ow.kid{sz:Nat}{css:List (List Value)}{f0:Fp}{i off:Nat}{cs:List Value}{v:Value}(h:Ow id sz H s css f0)(hi:css[i]? = some cs)(hv:cs[off]? = some v)(ho:off<sz):Kid H s sz i off v f0:=by
 rcases h.is with ⟨_,rfl⟩|⟨φ,hφ,hown⟩
 ·simp at hi
 rcases hown.is with ⟨_,rfl⟩|⟨b,c,k,row,rfl,g2,g3,g4,g5,g6,g7⟩
 ·simp at hi
 refine⟨b,0,_,c,k,row,rfl,g2,?_,g3,?_⟩
 ·unfold ZI;rw[g3];rcases g4 with ⟨rfl,rfl⟩|rfl <;> exact hφ
 ·have:=g7 i cs hi off ho;rw[Y8,this];exact hv
theorem Kid.same{sz:Nat}{css:List (List Value)}{f0:Fp}{i off:Nat}{cs:List Value}{hd:Value}(h:Ow id sz H s css f0)(hi:css[i]? = some cs)(ho:off<sz)(k:Kid H s sz i off hd fp):cs[off]? = some hd:=by
 obtain⟨b,o,n,c,kd,row,rfl,e2,e3,e4,e5⟩:=k;rcases h.is with ⟨h|h,_⟩|⟨φ,hφ,hown⟩
 ·cases h
 ·cases h
 rcases hown.is with ⟨h,_⟩|⟨b',c',k',row',h,g2,g3,g4,g5,g6,g7⟩
 ·cases h
 cases h
 rw[e4]at g3;cases g3;have:=g7 i cs hi off ho;rw[Y8]at e5;rw[← e5,this];rfl
theorem Nst.kid[Inhabited E]{i:Int}(h:Nst C H s xs fp)(h0:0≤i)(h1:i<(xs.length:Int)) :
  ∃cs f,C.rel H (gt xs i) cs f/\(∀t∈f,t∈fp)/\(∀(P:Program) (t:TypeId) (off:Nat) (v:Value),ZeJ P t cs off=some v->ZbK P t (elp s C.sz i.toNat off) H=some v)/\∀off hd,cs[off]? = some hd->off<C.sz->Kid H s C.sz i.toNat off hd fp:=by
 obtain⟨hl,css,f0,F,a,b,c,d⟩:=h;have hlt:i.toNat<css.length:=Xo;have hc:css[i.toNat]? = some css[i.toNat]:=Yn hlt;obtain⟨e1,e2,e3,e4⟩:=d i.toNat _ _ (ZbG h0 h1) hc;refine⟨css[i.toNat],F i.toNat,e1,e2,λP t off v hv=>?_,λoff hd hv ho=>?_⟩
 ·rw[← c]at h1;refine a.sq.ld h0 h1 ?_;have:gt css i=css[i.toNat]:=Option.some.inj ((ZbG h0 h1).symm.trans hc);rw[this];exact hv
 ·obtain⟨bb,o,n,c,k,row,z1,z2,z3,z4⟩:=a.kid hc hv ho;exact⟨bb,o,n,c,k,row,z1,z2,b _ z3,z4⟩
theorem Nst.append1{b:Nat}{cs:List Value}{x:E}(m:Nat){at_:Array TypeId}{t0 t1:TypeId}(hw:WF H)(h:Nst C H s xs fp)(hr:Row H b cs)(hx:C.rel H x cs g)(hd:Dj fp g)
  (a0:at_[0]? = some t0) (a1:at_[1]? = some t1) (hT':ZfL P t0=some (C.sz,m)) (hT1':Zd1 P t1=true) (hm:m≠0) (hcap:((xs.length+1)+(xs.length+1) / 4+512)*m≤2 ^ 48) :
  ∃s' H' fp',Zam P at_ s (.slice (some ⟨b,0,none⟩) 1 1) H=some (s',H')/\FrS fp H H'/\Nst C H' s' (xs++[x]) fp'/\Inn (fp++g) H fp':=by
 obtain⟨hl,css,f0,F,a,hb,c,d⟩:=h;have hy:Sq id C.sz H (.slice (some ⟨b,0,none⟩) 1 1) [cs] [b]:=hr.sqn C.pos [cs] (λy hy=>by rw[List.mem_singleton.1 hy];exact C.len hx) Xs 1 rfl;obtain⟨s',H',f0',e1,e2,e3,e4⟩:=a.append (P:=P) m hw hy (λy hy=>by rw[List.mem_singleton.1 hy];exact C.one hx) a0 a1 hT' hT1' hm (by rw[c];exact hcap);have hgl:=C.lt hx;have hdg:Dj f0 g:=hd.subl hb;refine⟨s',H',f0'++(fp++g),e1,e2.mono hb,⟨?_,css++[cs],f0',λi=>if i<xs.length then F i else g,e3,λt ht=>YC _ ht,by simp[c],?_⟩,?_⟩
 ·exact e3.lt.app ((hl.fr e2).app (hgl.fr e2))
 ·intro i y ds hi hds;dsimp only;by_cases hlt:i<xs.length
  ·rw[YF hlt]at hi;rw[YF Xo]at hds;obtain⟨q1,q2,q3,q4⟩:=d i y ds hi hds;rw[if_pos hlt];refine⟨C.fr q1 e2 q3,λt ht=>YS _ (YC _ (q2 t ht)),e4.dj q3 (C.lt q1),λj hj hne=>?_⟩;by_cases hj2:j<xs.length
   ·rw[if_pos hj2];exact q4 j hj2 hne
   ·rw[if_neg hj2];exact hd.subl q2
  ·rw[YV Xo]at hi;rw[YV Xo]at hds
   have h0:i-xs.length=0:=by
    have:=(List.getElem?_eq_some_iff.1 hi).1;simp at this;omega
   rw[h0]at hi;have h0':i-css.length=0:=Xo;rw[h0']at hds;cases hi;cases hds
   rw[if_neg hlt];refine⟨C.fr hx e2 hdg,λt ht=>YS _ (YS _ ht),e4.dj hdg hgl,λj hj hne=>?_⟩;have hj2:j<xs.length:=by simp at hj;omega
   rw[if_pos hj2];have hjc:j<css.length:=Xo;have:=(d j xs[j] css[j] (Yn hj2) (Yn hjc)).2.1;exact (hd.subl this).symm
 ·refine Inn.app ?_ (λt ht=>.inl ht);exact λt ht=>(e4 t ht).imp (λh=>YC _ (hb t h)) id
theorem Nst.store[Inhabited E]{t:TypeId}{i:Int}{off:Nat}(hw:WF H)(h:Nst C H s xs fp)(h0:0≤i)(h1:i<(xs.length:Int))(v:Value)(vs:List Value)(hx:v.cells.toList=vs)(hs:(P.info? t).map (·.size)=some vs.length)(ho:Zy vs=true)
  (x':E) (hl:off+vs.length≤C.sz) (hg:Dj fp g) (hgl:Lt H g) (hrel:∀cs f,C.rel H (gt xs i) cs f->(∀t∈f,t∈fp)->∃f',C.rel H x' (Zaa cs off vs) f'/\∀t∈f',t∈f∨t∈g) :
  ∃H' fp',ZcW P t (elp s C.sz i.toNat off) v H=some H'/\FrS fp H H'/\Nst C H' s (xs.set i.toNat x') fp'/\Inn (fp++g) H fp':=by
 obtain⟨hlt,css,f0,F,a,hb,c,d⟩:=h;have hi:i.toNat<xs.length:=Xo;have hic:i.toNat<css.length:=Xo;have hc:css[i.toNat]? = some css[i.toNat]:=Yn hic;have h1c:i<(css.length:Int):=by rw[c];exact h1
 have hgc:gt css i=css[i.toNat]:=Option.some.inj ((ZbG h0 h1c).symm.trans hc);obtain⟨q1,q2,q3,q4⟩:=d i.toNat _ _ (ZbG h0 h1) hc;obtain⟨f',r1,r2⟩:=hrel _ _ q1 q2;obtain⟨H',e1,e2,e3⟩:=a.store (P:=P) (t:=t) (off:=off) hw h0 h1c v vs hx hs ho (Zaa css[i.toNat] off vs) hl (by rw[hgc];rfl);have hf0:Dj f0 f':=λt ht hm=>(r2 t hm).elim (q3 t ht) (hg t (hb t ht));refine⟨H',fp++g,e1,e2.mono hb,⟨(hlt.fr e2).app (hgl.fr e2),css.set i.toNat (Zaa css[i.toNat] off vs),f0,λj=>if j=i.toNat then f' else F j,e3,λt ht=>YC _ (hb t ht),by simp[c],?_⟩,Inn.self⟩;intro j y ds hj hds;dsimp only;have hsub:∀t∈f',t∈fp++g:=λt ht=>List.mem_append.2 ((r2 t ht).imp (q2 t) id)
 have hdj:∀k,k<xs.length->k≠i.toNat->Dj f' (F k):=λk hk hne t ht hm=>by
  have hkc:k<css.length:=Xo;have hk2:=(d k xs[k] css[k] (Yn hk) (Yn hkc)).2.1;exact (r2 t ht).elim (λh=>q4 k hk hne t h hm) (λh=>hg t (hk2 t hm) h)
 by_cases hji:j=i.toNat
 ·subst hji;rw[Y4 hi]at hj;rw[Y4 hic]at hds;cases hj;cases hds
  rw[if_pos rfl];refine⟨C.fr r1 e2 hf0,hsub,hf0,λk hk hne=>?_⟩;rw[if_neg hne];rw[Yv]at hk;exact hdj k hk hne
 ·rw[List.getElem?_set_ne (λe=>hji e.symm)]at hj hds;obtain⟨p1,p2,p3,p4⟩:=d j y ds hj hds;rw[if_neg hji];refine⟨C.fr p1 e2 p3,λt ht=>YC _ (p2 t ht),p3,λk hk hne=>?_⟩;rw[Yv]at hk;have hjl:j<xs.length:=(List.getElem?_eq_some_iff.1 hj).1;by_cases hki:k=i.toNat
  ·rw[if_pos hki];exact (hdj j hjl hji).symm
  ·rw[if_neg hki];exact p4 k hk hne
def Lens{E':Type}(C:CR E)(enc:E'->List Value)(sz':Nat)(off:Nat)(get:E->List E')(put:E->List E'->E):Prop:=
 off<C.sz/\∀H x cs f hd,C.rel H x cs f->cs[off]? = some hd->∃g,(∀t∈g,t∈f)/\Ow enc sz' H hd (get x) g/\∀H' y,FrS g H H'->Ow enc sz' H' hd y g->C.rel H' (put x y) cs f
theorem Nst.inner[Inhabited E]{E':Type}[Inhabited E']{enc:E'->List Value}{sz' off:Nat}{get:E->List E'}{put:E->List E'->E}(L:Lens C enc sz' off get put){t:TypeId}{i j:Int}{o2:Nat}{hd:Value}{ys:List E'}(hw:WF H)(h:Nst C H s xs fp)(h0:0≤i)(h1:i<(xs.length:Int))
  (hk:KdS enc sz' H hd ys fp s C.sz i.toNat off) (hys:ys=get (gt xs i)) (j0:0≤j) (j1:j<(ys.length:Int)) (v:Value) (vs:List Value) (hx:v.cells.toList=vs) (hs:(P.info? t).map (·.size)=some vs.length) (ho:Zy vs=true) (y:E') (hl:o2+vs.length≤sz') (hy:enc y=Zaa (enc (gt ys j)) o2 vs) :
  ∃H',ZcW P t (elp hd sz' j.toNat o2) v H=some H'/\FrS fp H H'/\Nst C H' s (xs.set i.toNat (put (gt xs i) (ys.set j.toNat y))) fp/\KdS enc sz' H' hd (ys.set j.toNat y) fp s C.sz i.toNat off:=by
 obtain⟨hlt,css,f0,F,a,hb,c,d⟩:=h;have hi:i.toNat<xs.length:=Xo;have hic:i.toNat<css.length:=Xo;have hc:css[i.toNat]? = some css[i.toNat]:=Yn hic;obtain⟨q1,q2,q3,q4⟩:=d i.toNat _ _ (ZbG h0 h1) hc;obtain⟨g,r1,r2,r3⟩:=L.2 H _ _ _ hd q1 (Kid.same a hc L.1 hk.kid);rw[← hys]at r2;obtain⟨H',e1,e2,e3⟩:=r2.store (P:=P) (t:=t) (off:=o2) hw j0 j1 v vs hx hs ho y hl hy;have hcd:=Kid.same a hc L.1 hk.kid;have ha':=a.fr e2 (q3.symm.subl r1);refine⟨H',e1,e2.mono λt ht=>q2 t (r1 t ht),⟨hlt.fr e2,css,f0,F,ha',hb,by simp[c],?_⟩,⟨e3.sq.up (λt ht=>q2 t (r1 t ht)) (hlt.fr e2),?kid⟩⟩
 case kid =>
  obtain⟨bb,o,n,cc,k,row,z1,z2,z3,z4⟩:=ha'.kid hc hcd L.1;exact⟨bb,o,n,cc,k,row,z1,z2,hb _ z3,z4⟩
 intro k z ds hz hds;by_cases hki:k=i.toNat
 ·subst hki;rw[Y4 hi]at hz;rw[hc]at hds;cases hz;cases hds
  refine⟨r3 H' _ e2 e3,q2,q3,λk hk hne=>?_⟩;rw[Yv]at hk;exact q4 k hk hne
 ·rw[List.getElem?_set_ne (λe=>hki e.symm)]at hz;obtain⟨p1,p2,p3,p4⟩:=d k z ds hz hds;have hkl:k<xs.length:=(List.getElem?_eq_some_iff.1 hz).1;refine⟨C.fr p1 e2 ((q4 k hkl hki).subl r1),p2,p3,λj hj hne=>?_⟩;rw[Yv]at hj;exact p4 j hj hne
theorem Inn.grow2{H0:AH}(h:Inn (fp++g) H W)(k:Inn [] H0 g)(hn:H0.next≤H.next):Inn fp H0 W:=λt ht=>(h t ht).elim (λm=>(List.mem_append.1 m).elim .inl (λm=>.inr ((k t m).elim (λh=>(by cases h)) id))) (λq=>.inr (YL hn q))
theorem Nst.zeros{n:Nat}{z:List Value}{x0:E}(h:Ow id C.sz H s (Ym n z) fp)(hz:∀H,C.rel H x0 z []):Nst C H s (Ym n x0) fp:=by
 refine⟨h.lt,_,fp,λ_=>[],h,λ_ h=>h,Xs,λi x cs hx hc=>?_⟩;have e1:=YU (YK hx);have e2:=YU (YK hc);subst e1;subst e2;exact⟨hz H,(λt h=>(by cases h)),Dj.nil_r,λ_ _ _=>Dj.nil_l⟩
end
section
variable{E:Type}{enc:E->List Value}{sz:Nat}{H:AH}{cs:List Value}{f g:Fp}{h:Value}
theorem Zai{x:List E}(hr:(CR.sl enc sz).rel H x cs f):∃h,cs=[h]/\Ow enc sz H h x f:=hr
theorem Zfs{x:List E}(hr:Ow enc sz H h x f):(CR.sl enc sz).rel H x [h] f:=⟨h,rfl,hr⟩
theorem Zha:Lens (CR.sl enc sz) enc sz 0 (λx=>x) (λ_ y=>y):=
 ⟨Nat.one_pos,λH x cs f hd h e=>by
  obtain⟨v,rfl,h⟩:=h;cases e
  exact⟨f,λ_ h=>h,h,λH' y _ k=>⟨_,rfl,k⟩⟩⟩
end
theorem FrS.trans2{W W2:Fp}{A B C:AH}(h:FrS W A B)(k:FrS W2 B C):FrS (W++W2) A C:=by
 refine⟨k.wf,YL h.next k.next,λb hb ht=>?_⟩;have e:=h.same b hb (λhm=>ht (YC _ hm));have ht2:ZI B b=ZI A b:=by unfold ZI;rw[e]
 exact (k.same b (YJ hb h.next) λhm=>ht (YS _ (by rw[← ht2];exact hm))).trans e
def Zn7{E E':Type}(C:CR E)(enc:E'->List Value)(sz':Nat)(off:Nat)(get:E->List E')(put:E->List E'->E):Prop:=
 off<C.sz/\∀H x cs f hd,C.rel H x cs f->cs[off]? = some hd->∃g fi,(∀t∈g,t∈f)/\(∀t∈fi,t∈f)/\Dj fi g/\Ow enc sz' H hd (get x) g /\
  ∀W H',FrS W H H'->Dj W fi->∀hd' y g',Ow enc sz' H' hd' y g'->Dj fi g'->∃f',C.rel H' (put x y) (Zaa cs off [hd']) f'/\∀t∈f',t∈fi∨t∈g'
structure Hol{E E':Type}(C:CR E)(enc:E'->List Value)(sz':Nat)(H:AH)(s:Value)(xs:List E)(i off:Nat)(upd:List E'->E)(fp:Fp):Prop where
 lt:Lt H fp
 is:∃(css:List (List Value)) (f0:Fp) (F:Nat->Fp) (cs:List Value) (fi:Fp),Ow id C.sz H s css f0/\(∀t∈f0,t∈fp)/\css.length=xs.length/\css[i]? = some cs/\off<C.sz/\(∀t∈fi,t∈fp)/\Dj f0 fi /\
  (∀(j:Nat) (x:E) (c:List Value),xs[j]? = some x->css[j]? = some c->j≠i->C.rel H x c (F j)/\(∀t∈F j,t∈fp)/\Dj f0 (F j)/\Dj (F j) fi/\∀k,k<xs.length->k≠j->k≠i->Dj (F j) (F k)) /\
  ∀W H',FrS W H H'->Dj W fi->∀hd y g,Ow enc sz' H' hd y g->Dj fi g->∃f',C.rel H' (upd y) (Zaa cs off [hd]) f'/\∀t∈f',t∈fi∨t∈g
section
variable{P:Program}{H H':AH}{E E':Type}{C:CR E}{enc:E'->List Value}{sz':Nat}{s:Value}{xs:List E}{i off:Nat}{upd:List E'->E}{W fp g:Fp}
theorem Hol.fr(h:Hol C enc sz' H s xs i off upd fp)(k:FrS W H H')(hd:Dj W fp):Hol C enc sz' H' s xs i off upd fp:=by
 obtain⟨hl,css,f0,F,cs,fi,a1,a2,a3,a4,a5,a6,a7,a8,a9⟩:=h;refine⟨hl.fr k,css,f0,F,cs,fi,a1.fr k (hd.sub a2),a2,a3,a4,a5,a6,a7,λj x c h1 h2 h3=>?_,λW2 H2 k2 d2=>?_⟩
 ·obtain⟨b1,b2,b3,b4,b5⟩:=a8 j x c h1 h2 h3;exact⟨C.fr b1 k (hd.sub b2),b2,b3,b4,b5⟩
 ·exact a9 (W++W2) H2 (k.trans2 k2) ((hd.sub a6).app d2)
theorem Hol.idxb{t:TypeId}{k:IntKind}{j:Int}(h:Hol C enc sz' H s xs i off upd fp)(ht:Zbh P t=some C.sz)(h0:0≤j)(h1:j<(xs.length:Int)):ZO P t s (.int k j)=some (elp s C.sz j.toNat 0):=by
 obtain⟨_,css,f0,F,cs,fi,a,_,b,_⟩:=h;rw[← b]at h1;exact a.sq.idxb ht h0 h1
theorem Nst.borrow[Inhabited E]{get:E->List E'}{put:E->List E'->E}(L:Zn7 C enc sz' off get put){i:Int}{hd:Value}{ys:List E'}(h:Nst C H s xs fp)(h0:0≤i)(h1:i<(xs.length:Int))(hk:KdS enc sz' H hd ys fp s C.sz i.toNat off)(hys:ys=get (gt xs i)) :
  ∃fr g,Hol C enc sz' H s xs i.toNat off (put (gt xs i)) fr/\Ow enc sz' H hd ys g/\Dj fr g/\(∀t∈fr,t∈fp)/\(∀t∈g,t∈fp):=by
 obtain⟨hlt,css,f0,F,a,hb,c,d⟩:=h;have hi:i.toNat<xs.length:=Xo;have hic:i.toNat<css.length:=Xo;have hc:css[i.toNat]? = some css[i.toNat]:=Yn hic;obtain⟨q1,q2,q3,q4⟩:=d i.toNat _ _ (ZbG h0 h1) hc;obtain⟨g,fi,r1,r2,r3,r4,r5⟩:=L.2 H _ _ _ hd q1 (Kid.same a hc L.1 hk.kid);rw[← hys]at r4;refine⟨fp.filter λt=>t∉g,g,⟨hlt.sub λt ht=>(List.mem_filter.1 ht).1,css,f0,F,css[i.toNat],fi,a,?_,c,hc,L.1,?_,q3.sub r2,?_,r5⟩,r4,?_,λt ht=>(List.mem_filter.1 ht).1,λt ht=>q2 t (r1 t ht)⟩
 ·exact λt ht=>List.mem_filter.2 ⟨hb t ht,by simpa using λhm=>q3 t ht (r1 t hm)⟩
 ·exact λt ht=>List.mem_filter.2 ⟨q2 t (r2 t ht),by simpa using r3 t ht⟩
 ·intro j x cc hj hcc hne;obtain⟨p1,p2,p3,p4⟩:=d j x cc hj hcc;have hdj:=p4 i.toNat hi (Ne.symm hne);exact⟨p1,λt ht=>List.mem_filter.2 ⟨p2 t ht,by simpa using λhm=>hdj t ht (r1 t hm)⟩,p3,hdj.sub r2,λk hk hkj _=>p4 k hk hkj⟩
 ·exact λt ht hm=>by have:=(List.mem_filter.1 ht).2;simp at this;exact this hm
theorem Hol.close[Inhabited E]{t:TypeId}{i:Int}{hd:Value}{y:List E'}(hw:WF H)(h:Hol C enc sz' H s xs i.toNat off upd fp)(ho:Ow enc sz' H hd y g)(hdj:Dj fp g)(h0:0≤i)(h1:i<(xs.length:Int))(hx:hd.cells.toList=[hd])(hs:(P.info? t).map (·.size)=some 1)(ho1:Zy [hd]=true) :
  ∃H' fp',ZcW P t (elp s C.sz i.toNat off) hd H=some H'/\FrS fp H H'/\Nst C H' s (xs.set i.toNat (upd y)) fp'/\Inn (fp++g) H fp':=by
 obtain⟨hl,css,f0,F,cs,fi,a1,a2,a3,a4,a5,a6,a7,a8,a9⟩:=h;have hi:i.toNat<xs.length:=Xo;have hic:i.toNat<css.length:=Xo;have h1c:i<(css.length:Int):=Xo;have hgc:gt css i=cs:=Option.some.inj ((ZbG h0 h1c).symm.trans a4);obtain⟨H',e1,e2,e3⟩:=a1.store (P:=P) (t:=t) (off:=off) hw h0 h1c hd [hd] hx hs ho1 (Zaa cs off [hd]) (by simp;omega) (by rw[hgc];rfl);have hf0g:Dj f0 g:=hdj.subl a2;obtain⟨f',r1,r2⟩:=a9 f0 H' e2 a7 hd y g (ho.fr e2 hf0g) (hdj.subl a6);have hf0:Dj f0 f':=λt ht hm=>(r2 t hm).elim (a7 t ht) (hf0g t ht);refine⟨H',fp++g,e1,e2.mono a2,⟨(hl.fr e2).app (ho.lt.fr e2),css.set i.toNat (Zaa cs off [hd]),f0,λj=>if j=i.toNat then f' else F j,e3,λt ht=>YC _ (a2 t ht),by simp[a3],?_⟩,Inn.self⟩;intro j x ds hj hds;dsimp only;have hsub:∀t∈f',t∈fp++g:=λt ht=>List.mem_append.2 ((r2 t ht).imp (a6 t) id)
 have hdj2:∀k,k<xs.length->k≠i.toNat->Dj f' (F k):=λk hk hne t ht hm=>by
  have hkc:k<css.length:=Xo;obtain⟨_,p2,_,p4,_⟩:=a8 k xs[k] css[k] (Yn hk) (Yn hkc) hne;exact (r2 t ht).elim (λh=>p4 t hm h) (λh=>hdj t (p2 t hm) h)
 by_cases hji:j=i.toNat
 ·subst hji;rw[Y4 hi]at hj;rw[Y4 hic]at hds;cases hj;cases hds
  rw[if_pos rfl];refine⟨r1,hsub,hf0,λk hk hne=>?_⟩;rw[if_neg hne];rw[Yv]at hk;exact hdj2 k hk hne
 ·rw[List.getElem?_set_ne (λe=>hji e.symm)]at hj hds;obtain⟨p1,p2,p3,p4,p5⟩:=a8 j x ds hj hds hji;rw[if_neg hji];refine⟨C.fr p1 e2 p3,λt ht=>YC _ (p2 t ht),p3,λk hk hne=>?_⟩;rw[Yv]at hk;have hjl:j<xs.length:=(List.getElem?_eq_some_iff.1 hj).1;by_cases hki:k=i.toNat
  ·rw[if_pos hki];exact (hdj2 j hjl hji).symm
  ·rw[if_neg hki];exact p5 k hk hne hki
theorem Inn.grow3{H0:AH}{fr old new:Fp}(h:Inn (fr++g) H new)(k1:Inn old H0 fr)(k2:Inn old H0 g)(hn:H0.next≤H.next):Inn old H0 new:=λt ht=>(h t ht).elim (λm=>(List.mem_append.1 m).elim (k1 t) (k2 t)) (λq=>.inr (YL hn q))
theorem Inn.sub'{a b:Fp}{H:AH}(h:∀t∈b,t∈a):Inn a H b:=λt ht=>.inl (h t ht)
end
section
variable{E:Type}{enc:E->List Value}{sz:Nat}
theorem Zip:Zn7 (CR.sl enc sz) enc sz 0 (λx=>x) (λ_ y=>y):=
 ⟨Nat.one_pos,λH x cs f hd h e=>by
  obtain⟨v,rfl,h⟩:=h;cases e
  exact⟨f,[],λ_ h=>h,(λ_ h=>(by cases h)),Dj.nil_l,h,λW H' _ _ hd' y g' k _=>⟨g',⟨hd',rfl,k⟩,λ_ h=>.inr h⟩⟩⟩
end
end Go.Vd
