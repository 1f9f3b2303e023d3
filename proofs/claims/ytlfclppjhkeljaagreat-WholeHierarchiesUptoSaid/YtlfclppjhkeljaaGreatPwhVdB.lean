/- Texts. -/
import Derived.Test.YtlfclppjhkeljaaGreatPwhVdA
set_option linter.all false
open Array renaming getElem?_setIfInBounds→Y9
open Bool renaming false_eq_true→Y5
open List renaming getElem?_append→Yba,length_append→Yy,length_take→YG,getElem?_take→YY,getElem?_drop→Yja,mem_of_getElem?→YK,length_cons→Yp,getElem?_eq_getElem→Yn,getElem?_append_right→YV,getElem?_append_left→YF,length_nil→Yt,mem_cons_of_mem→Ys,mem_cons_self→Yw,getElem?_cons_succ→Y7,getElem_mem→Yia,mem_of_mem_take→YN,mem_of_mem_drop→Y1
open Nat renaming le_refl→Yj
namespace Go.Vd
variable[Pins]
def Zaa(cs:List Value)(o:Nat)(vs:List Value):List Value:=cs.take o++vs++cs.drop (o+vs.length)
theorem ZcH{cs:List Value}{o:Nat}{vs:List Value}(h:o+vs.length≤cs.length):(Zaa cs o vs).length=cs.length:=by
 simp[Zaa];omega
theorem Zfh{cs:List Value}{o:Nat}{vs:List Value}(h:o+vs.length≤cs.length)(i:Nat) :
  (Zaa cs o vs)[i]? = if i<o then cs[i]? else if i<o+vs.length then vs[i-o]? else cs[i]?:=by
 unfold Zaa;rw[Yba,Yba];simp only[Yy,YG];by_cases h1:i<o
 ·rw[if_pos Xo,if_pos Xo,if_pos h1,YY,if_pos h1]
 ·by_cases h2:i<o+vs.length
  ·rw[if_pos Xo,if_neg Xo,if_neg h1,if_pos h2];congr 1;omega
  ·rw[if_neg Xo,if_neg h1,if_neg h2,Yja];congr 1;omega
def AH.upd(H:AH)(b:Nat)(o:AObj):AH:={ H with get:=λx=>if x=b then some o else H.get x }
def AH.push(H:AH)(o:AObj):AH:={ get:=λx=>if x=H.next then some o else H.get x,next:=H.next+1 }
def AH.kill(H:AH)(φ:Nat)(b:Nat):AH:=
 { H with get:=λx=>match H.get x with
   | some (.row (.loose ψ sz) cs)=>if ψ=φ/\x≠b then some .dead else some (.row (.loose ψ sz) cs)
   | o=>o }
def AH.cell(H:AH)(b o:Nat):Option Value:=
 match H.get b with
 | some (.row _ cs)=>cs[o]?
 | _=>none
def AH.cells(H:AH)(b o n:Nat):Option (List Value):=
 match H.get b with
 | some (.row _ cs)=>if o+n≤cs.length then some ((cs.drop o).take n) else none
 | _=>none
def AH.puts(H:AH)(b o:Nat)(vs:List Value):Option AH:=
 match H.get b with
 | some (.row .own cs)=>if o+vs.length≤cs.length then some (H.upd b (.row .own (Zaa cs o vs))) else none
 | some (.row (.loose φ sz) cs)=>if o+vs.length≤cs.length then some ((H.kill φ b).upd b (.row (.loose φ sz) (Zaa cs o vs))) else none
 | _=>none
theorem AH.kill_cases(H:AH)(φ b x:Nat):(H.kill φ b).get x=H.get x∨((H.kill φ b).get x=some .dead/\x≠b/\∃sz cs,H.get x=some (.row (.loose φ sz) cs)):=by
 unfold AH.kill;dsimp only;split
 ·rename_i ψ sz cs h
  by_cases hc:ψ=φ/\x≠b
  ·rw[if_pos hc];exact .inr ⟨rfl,hc.2,sz,cs,by rw[h,hc.1]⟩
  ·rw[if_neg hc];exact .inl h.symm
 ·exact .inl rfl
theorem AH.kill_loose(H:AH)(φ b x sz:Nat)(cs:List Value)(h:H.get x=some (.row (.loose φ sz) cs))(hx:x≠b):(H.kill φ b).get x=some .dead:=by
 unfold AH.kill;dsimp only;rw[h];dsimp only;rw[if_pos ⟨rfl,hx⟩]
theorem RowRel.congr{μ μ':Mu}{w w':World}{p:Pl}{k:Kd}{cs:List Value}(hμ:Le μ μ')(hw:w'.heap[p.blk]? = w.heap[p.blk]?)(h:RowRel μ w p k cs):RowRel μ' w' p k cs:=by
 obtain⟨⟨c,ty,fr,h1,h2,h3,h4⟩,h5,h6,c2,ty2,fr2,s1,s2⟩:=h;exact⟨⟨c,ty,fr,hw.trans h1,h2,h3,λi v hv=>let ⟨v',a,b⟩:=h4 i v hv;⟨v',a,b.mono hμ⟩⟩,h5,h6,c2,ty2,fr2,hw.trans s1,λi hi=>let ⟨v,v',a,b,c⟩:=s2 i hi;⟨v,v',a,b.mono hμ,c⟩⟩
theorem ObjRel.congr{μ μ':Mu}{w w':World}{p:Pl}{o:AObj}(hμ:Le μ μ')(hw:w'.heap[p.blk]? = w.heap[p.blk]?)(h:ObjRel μ w p o):ObjRel μ' w' p o:=by
 cases o with
 | row k cs=>exact RowRel.congr hμ hw h
 | map es clock =>
  obtain⟨es',h1,h2⟩:=h;exact⟨es',hw.trans h1,h2.imp λ_ _ ⟨a,b⟩=>⟨a.mono hμ,b.mono hμ⟩⟩
 | dead=>trivial
theorem Rel.congr{μ:Mu}{H:AH}{w w':World}(h:Rel μ H w)(hw:w'.heap=w.heap):Rel μ H w':=
 ⟨λb p e=>by rw[hw];exact h.lt b p e,λb p e=>let ⟨o,h1,h2⟩:=h.ok b p e;⟨o,h1,h2.congr (.refl _) (by rw[hw])⟩,h.apart,h.fresh,h.pin.ro hw λ_ _ e=>e⟩
theorem Rel.drawn{μ:Mu}{H:AH}{w:World}(h:Rel μ H w)(n:Nat):Rel μ H { w with drawn:=n }:=h.congr rfl
theorem Keep.drawn(μ:Mu)(H:AH)(w:World)(n:Nat)(hn:w.drawn≤n):Keep μ μ H H w { w with drawn:=n }:=
 ⟨.refl μ,Yj _,rfl,rfl,rfl,hn,Yj _,λ_ _ _=>rfl,λ_ _ h=>⟨h,.inl rfl⟩,λ_ _ h=>h,λb p h h0=>by rw[h0]at h;cases h⟩
theorem Rel.cell{μ:Mu}{H:AH}{w:World}(h:Rel μ H w){b o:Nat}{p:Pl}{v:Value}(hb:μ b=some p)(hv:H.cell b o=some v) :
  ∃v',w.cell? ⟨p.blk,p.off+o,none⟩=some v'/\VRel μ v v'/\v.oneCell'=true:=by
 obtain⟨ob,h1,h2⟩:=h.ok b p hb;unfold AH.cell at hv;rw[h1]at hv;cases ob with
 | row k cs =>
  obtain⟨⟨c,ty,fr,g1,g2,g3,g4⟩,g5,g6⟩:=h2;obtain⟨v',a,r⟩:=g4 o v hv;refine⟨v',?_,r,g6 v (YK hv)⟩;simp[World.cell?,g1,a]
 | map _ _=>cases hv
 | dead=>cases hv
theorem AH.cells_get{H:AH}{b o n:Nat}{vs:List Value}(h:H.cells b o n=some vs):vs.length=n/\∀i,i<n->H.cell b (o+i)=vs[i]?:=by
 unfold AH.cells at h;unfold AH.cell;cases hg:H.get b with
 | none=>rw[hg]at h;cases h
 | some ob =>
  rw[hg]at h;cases ob with
  | row k cs =>
   dsimp only at h ⊢;by_cases hn:o+n≤cs.length
   ·rw[if_pos hn]at h;cases h
    refine⟨by simp;omega,λi hi=>?_⟩;rw[YY,if_pos hi,Yja]
   ·rw[if_neg hn]at h;cases h
  | map _ _=>cases h
  | dead=>cases h
theorem Zik(P:Program)(w:World)(b o:Nat)(vs:List Value) :
  ∀(i:Nat) (acc:Array Value),(∀j v,vs[j]? = some v->w.cell? ⟨b,o+(i+j),none⟩=some v) ->
   (loadCellsFrom ⟨b,o,none⟩ i vs.length acc).run P w=.ok (acc++vs.toArray) w:=by
 induction vs with
 | nil=>intro i acc _;simp[loadCellsFrom]
 | cons v vs ih =>
  intro i acc h;have h0:=h 0 v rfl;have ha:(Addr.add ⟨b,o,none⟩ i)=⟨b,o+i,none⟩:=by unfold Addr.add;split <;> simp_all
  simp only[Yp,loadCellsFrom,Sem.run_bind,run_load,ha];rw[show o+i=o+(i+0) from rfl,h0];simp only[Result.andThen_ok];rw[ih (i+1) (acc.push v) (λj x hx=>by have:=h (j+1) x (by simpa using hx);rw[show i+1+j=i+(j+1) from Xo];exact this)];simp
theorem ZjV(P:Program)(w:World)(b o:Nat)(vs:List Value)(h:∀j v,vs[j]? = some v->w.cell? ⟨b,o+j,none⟩=some v) :
  (loadCells ⟨b,o,none⟩ vs.length).run P w=.ok vs.toArray w:=by
 unfold loadCells;rw[Zik P w b o vs 0 #[] (by simpa using h)];simp
theorem Rel.cells{μ:Mu}{H:AH}{w:World}(h:Rel μ H w){b o n:Nat}{p:Pl}{vs:List Value}(hb:μ b=some p)(hv:H.cells b o n=some vs)(P:Program) :
  ∃vs':List Value,(∀w2:World,w2.heap=w.heap->(loadCells ⟨p.blk,p.off+o,none⟩ n).run P w2=.ok vs'.toArray w2)/\LRel μ vs vs'/\vs'.length=n/\∀v∈vs,v.oneCell'=true:=by
 obtain⟨hl,hg⟩:=AH.cells_get hv
 have key:∀m,m≤n->∃vs':List Value,vs'.length=m/\∀j,j<m->∃v v',vs[j]? = some v/\vs'[j]? = some v'/\VRel μ v v'/\w.cell? ⟨p.blk,p.off+o+j,none⟩=some v':=by
  intro m;induction m with
  | zero=>exact λ_=>⟨[],rfl,λj hj=>Xo⟩
  | succ m ih =>
   intro hm;obtain⟨vs',h1,h2⟩:=ih Xo;obtain⟨v,hv⟩:∃v,vs[m]? = some v:=⟨vs[m]'Xo,Yn _⟩;obtain⟨v',a,r,_⟩:=h.cell hb (show H.cell b (o+m)=some v by rw[hg m Xo];exact hv);refine⟨vs'++[v'],by simp[h1],λj hj=>?_⟩;by_cases hjm:j=m
   ·subst hjm;exact⟨v,v',hv,by rw[YV Xo];simp[h1],r,by rw[Nat.add_assoc];exact a⟩
   ·obtain⟨x,x',e1,e2,e3,e4⟩:=h2 j Xo;exact⟨x,x',e1,by rw[YF Xo];exact e2,e3,e4⟩
 obtain⟨vs',h1,h2⟩:=key n (Yj n);refine⟨vs',?_,⟨Xo,λi a b ha hb=>?_⟩,h1,λv hv=>?_⟩
 ·intro w2 hw2;rw[← h1];refine ZjV P w2 _ _ vs' λj v hj=>?_;rw[show ∀a,w2.cell? a=w.cell? a from λa=>by unfold World.cell?;rw[hw2]];obtain⟨x,x',e1,e2,e3,e4⟩:=h2 j (by have:=(List.getElem?_eq_some_iff.1 hj).1;omega);rw[hj]at e2;cases e2;exact e4
 ·obtain⟨x,x',e1,e2,e3,e4⟩:=h2 i (by have:=(List.getElem?_eq_some_iff.1 ha).1;omega);rw[ha]at e1;rw[hb]at e2;cases e1;cases e2;exact e3
 ·obtain⟨i,hi⟩:=List.mem_iff_getElem?.1 hv;obtain⟨_,_,_,one⟩:=h.cell hb (show H.cell b (o+i)=some v by rw[hg i (by have:=(List.getElem?_eq_some_iff.1 hi).1;omega)];exact hi);exact one
def ZcQ(w:World)(k:Nat)(o:Obj):World:={ w with heap:=w.heap.setIfInBounds k o }
theorem Zi2{w:World}{k:Nat}{c:Array Value}{ty:TypeId}{fr:Nat×Nat}(h:w.heap[k]? = some (.cells c ty fr))(o:Nat)(v:Value) :
  w.setCell ⟨k,o,none⟩ v=ZcQ w k (.cells (c.setIfInBounds o v) ty fr):=by
 unfold World.setCell ZcQ;congr 1;apply Array.ext_getElem?;intro i;rw[Array.getElem?_modify,Y9];by_cases hi:k=i
 ·subst hi;have hlt:k<w.heap.size:=(Array.getElem?_eq_some_iff.1 h).1;rw[if_pos rfl,if_pos rfl,if_pos hlt,h];rfl
 ·simp[hi]
theorem ZaV{w:World}{k:Nat}{o:Obj}(h:k<w.heap.size)(i:Nat):(ZcQ w k o).heap[i]? = if i=k then some o else w.heap[i]?:=by
 unfold ZcQ;rw[Y9];by_cases hi:k=i
 ·subst hi;simp[h]
 ·rw[if_neg hi,if_neg (Ne.symm hi)]
theorem Zj3(w:World)(k:Nat)(o o':Obj):ZcQ (ZcQ w k o) k o'=ZcQ w k o':=by
 unfold ZcQ;congr 1;apply Array.ext_getElem?;intro i;simp only[Y9,Array.size_setIfInBounds];split <;> rfl
theorem Zeg(w:World)(k:Nat)(o:Obj):(ZcQ w k o).heap.size=w.heap.size:=by simp[ZcQ]
theorem Zlh{w:World}{k:Nat}{o:Obj}(h:w.heap[k]? = some o):ZcQ w k o=w:=by
 have:w.heap.setIfInBounds k o=w.heap:=by
  apply Array.ext_getElem?;intro i;rw[Y9];by_cases hi:k=i
  ·subst hi;have hlt:k<w.heap.size:=(Array.getElem?_eq_some_iff.1 h).1;rw[if_pos rfl,if_pos hlt,h]
  ·rw[if_neg hi]
 unfold ZcQ;rw[this]
theorem ZgG(P:Program)(k o:Nat)(ty:TypeId)(vs:List Value) :
  ∀(i:Nat) (w:World) (c:Array Value),w.heap[k]? = some (.cells c ty (0,0))->o+i+vs.length≤c.size->(∀v∈vs,v.oneCell'=true) ->
   ∃c',(storeCells ⟨k,o,none⟩ vs i).run P w=.ok () (ZcQ w k (.cells c' ty (0,0)))/\c'.size=c.size /\
    ∀j,c'[j]? = if j<o+i then c[j]? else if j<o+i+vs.length then vs[j-(o+i)]? else c[j]?:=by
 induction vs with
 | nil =>
  intro i w c h _ _;refine⟨c,?_,rfl,λj=>?_⟩
  case refine_2 =>
   simp only[Yt,Nat.add_zero];split
   ·rfl
   ·rfl
  simp only[storeCells,Sem.run_pure];rw[Zlh h]
 | cons v vs ih =>
  intro i w c h hs h1;have ha:(Addr.add ⟨k,o,none⟩ i)=⟨k,o+i,none⟩:=by unfold Addr.add;split <;> simp_all
  have hlt:k<w.heap.size:=(Array.getElem?_eq_some_iff.1 h).1;simp only[Yp]at hs;have hc:w.cell? ⟨k,o+i,none⟩=some c[o+i]:=by simp[World.cell?,h]
  have hf:w.frozen? ⟨k,o+i,none⟩=false:=by simp[World.frozen?,h]
  obtain⟨c',r,s,g⟩:=ih (i+1) (w.setCell ⟨k,o+i,none⟩ v) (c.setIfInBounds (o+i) v) (by rw[Zi2 h,ZaV hlt,if_pos rfl]) (by simp;omega) (λx hx=>h1 x (Ys _ hx));refine⟨c',?_,by simpa using s,λj=>?_⟩
  ·simp only[storeCells,Sem.run_bind,ha];rw[run_store P w _ v _ (h1 v (Yw ..)),hc];simp only[hf,Y5,if_false,Result.andThen_ok];rw[r,Zi2 h,Zj3]
  ·rw[g j];simp only[Y9];by_cases h1:j<o+i
   ·rw[if_pos Xo,if_pos h1,if_neg Xo]
   ·by_cases h2:j=o+i
    ·subst h2;rw[if_pos Xo,if_pos rfl,if_pos Xo,if_neg Xo,if_pos Xs];simp
    ·by_cases h3:j<o+i+(vs.length+1)
     ·rw[if_neg Xo,if_pos Xo,if_neg h1,if_pos (by simpa using h3)];rw[show j-(o+i)=(j-(o+(i+1)))+1 from Xo,Y7]
     ·rw[if_neg Xo,if_neg Xo,if_neg Xo,if_neg h1,if_neg (by simpa using h3)]
theorem AH.puts_cases{H H':AH}{b o:Nat}{vs:List Value}(h:H.puts b o vs=some H') :
  ∃k cs,H.get b=some (.row k cs)/\o+vs.length≤cs.length/\k≠.ro/\H'.next=H.next/\H'.get b=some (.row k (Zaa cs o vs)) /\
   (∀x,x≠b->H'.get x=H.get x∨(H'.get x=some .dead/\∃φ sz cs',H.get x=some (.row (.loose φ sz) cs'))) /\
   (∀x ob,x≠b->H.get x=some ob->Share (.row k cs) ob->H'.get x=some .dead):=by
 unfold AH.puts at h;split at h
 ·rename_i cs hg
  by_cases hl:o+vs.length≤cs.length
  ·rw[if_pos hl]at h;cases h;refine⟨.own,cs,hg,hl,Xs,rfl,by simp[AH.upd],λx hx=>.inl (by simp[AH.upd,hx]),λx ob hx ho hs=>?_⟩;cases ob with
   | dead=>simp[AH.upd,hx,ho]
   | map _ _=>simp[Share]at hs
   | row k' _=>cases k' <;> simp[Share]at hs
  ·rw[if_neg hl]at h;cases h
 ·rename_i φ sz cs hg
  by_cases hl:o+vs.length≤cs.length
  ·rw[if_pos hl]at h;cases h;refine⟨.loose φ sz,cs,hg,hl,Xs,rfl,by simp[AH.upd],λx hx=>?_,λx ob hx ho hs=>?_⟩
   ·rcases H.kill_cases φ b x with e|⟨e,_,sz',cs',e2⟩
    ·exact .inl (by simp[AH.upd,hx,e])
    ·exact .inr ⟨by simp[AH.upd,hx,e],φ,sz',cs',e2⟩
   ·cases ob with
    | dead =>
     rcases H.kill_cases φ b x with e|⟨e,_,sz',cs',e2⟩
     ·simp[AH.upd,hx,e,ho]
     ·simp[AH.upd,hx,e]
    | map _ _=>simp[Share]at hs
    | row k' cs' =>
     cases k' with
     | ro=>simp[Share]at hs
     | own=>simp[Share]at hs
     | loose ψ sz' =>
      have:φ=ψ:=hs;subst this;simp[AH.upd,hx,H.kill_loose φ b x sz' cs' ho hx]
  ·rw[if_neg hl]at h;cases h
 ·cases h
theorem Rel.puts{μ:Mu}{H H':AH}{w:World}(h:Rel μ H w){b o:Nat}{p:Pl}{vs vs':List Value}(hb:μ b=some p)(hp:H.puts b o vs=some H')
  (hv:LRel μ vs vs') (h1:∀v∈vs,v.oneCell'=true) (P:Program) :
  ∃w',(storeCells ⟨p.blk,p.off+o,none⟩ vs').run P w=.ok () w'/\Rel μ H' w'/\Keep μ μ H H' w w':=by
 obtain⟨k,cs,hg,hl,hro,hn,hgb,hoth,hsh⟩:=AH.puts_cases hp;obtain⟨ob,e1,e2⟩:=h.ok b p hb;rw[hg]at e1;cases e1;obtain⟨⟨c,ty,fr,g1,g2,g3,g4⟩,g5,g6,gs⟩:=e2;have hfr:=g3 hro;subst hfr
 have one':∀v∈vs',v.oneCell'=true:=by
  intro v hm;obtain⟨i,hi⟩:=List.mem_iff_getElem?.1 hm;have hlt:=(List.getElem?_eq_some_iff.1 hi).1;have hlt2:i<vs.length:=by rw[hv.1];exact hlt
  have:=hv.2 i vs[i] v (by simp[hlt2]) hi;rw[this.one];exact h1 _ (Yia hlt2)
 obtain⟨c',r,s,gc⟩:=ZgG P p.blk (p.off+o) ty vs' 0 w c g1 (by have:=hv.1;omega) one';have hlt:p.blk<w.heap.size:=(h.lt b p hb).2;refine⟨_,r,⟨λx q hx=>?_,λx q hx=>?_,λx x' q q' ox ox' hx hx' hne hq gx gx'=>?_,λx hx=>?_,h.pin.keep ?k⟩,?k⟩
 ·have:=h.lt x q hx;rw[hn,Zeg];exact this
 ·by_cases hxb:x=b
  ·subst hxb;rw[hb]at hx;cases hx;refine⟨_,hgb,⟨⟨c',ty,(0,0),by rw[ZaV hlt,if_pos rfl],?_,λ_=>rfl,λi v hi=>?_⟩,g5,λv hm=>?_,c',ty,(0,0),by rw[ZaV hlt,if_pos rfl],λi hi=>?_⟩⟩
   ·rw[ZcH hl,s];exact g2
   ·rw[Zfh hl]at hi;rw[gc];by_cases i1:i<o
    ·rw[if_pos i1]at hi;rw[if_pos Xo];exact g4 i v hi
    ·rw[if_neg i1]at hi;rw[if_neg Xo];by_cases i2:i<o+vs.length
     ·rw[if_pos i2]at hi;rw[if_pos (by have:=hv.1;omega)];obtain⟨v',a,rr⟩:=All2.get hv hi;exact⟨v',by rw[show p.off+i-(p.off+o+0)=i-o from Xo];exact a,rr⟩
     ·rw[if_neg i2]at hi;rw[if_neg (by have:=hv.1;omega)];exact g4 i v hi
   ·unfold Zaa at hm;rcases List.mem_append.1 hm with hm|hm
    ·rcases List.mem_append.1 hm with hm|hm
     ·exact g6 v (YN hm)
     ·exact h1 v hm
    ·exact g6 v (Y1 hm)
   ·obtain⟨c2,ty2,fr2,s1,s2⟩:=gs;rw[g1]at s1;cases s1;obtain⟨u,v',a,b⟩:=s2 i hi;refine⟨u,v',?_,b⟩;rw[ZcH hl,gc,if_neg Xo,if_neg (by have:=hv.1;omega)];exact a
  ·obtain⟨ox,o1,o2⟩:=h.ok x q hx;by_cases hblk:q.blk=p.blk
   ·have hs:Share (.row k cs) ox:=h.apart b x p q _ _ hb hx (Ne.symm hxb) hblk.symm hg o1;exact⟨.dead,hsh x ox hxb o1 hs,trivial⟩
   ·rcases hoth x hxb with e|⟨e,_⟩
    ·exact⟨ox,e.trans o1,o2.congr (.refl _) (by rw[ZaV hlt,if_neg hblk])⟩
    ·exact⟨.dead,e,trivial⟩
 ·-- apart
  have old:∀y oy,H'.get y=some oy->oy=.dead∨∃oy0,H.get y=some oy0/\(oy=oy0∨(y=b/\∃k' a a',oy0=.row k' a/\oy=.row k' a')):=by
   intro y oy hy;by_cases hyb:y=b
   ·subst hyb;rw[hgb]at hy;cases hy;exact .inr ⟨_,hg,.inr ⟨rfl,k,cs,_,rfl,rfl⟩⟩
   ·rcases hoth y hyb with e|⟨e,_⟩
    ·exact .inr ⟨oy,e▸hy,.inl rfl⟩
    ·rw[e]at hy;cases hy;exact .inl rfl
  rcases old x ox gx with rfl|⟨ox0,gx0,hox⟩
  ·trivial
  ·rcases old x' ox' gx' with rfl|⟨ox0',gx0',hox'⟩
   ·exact Share.symm trivial
   ·have hs:=h.apart x x' q q' _ _ hx hx' hne hq gx0 gx0'
    have hs2:Share ox ox0':=by
     rcases hox with rfl|⟨_,k1,a,a',rfl,rfl⟩
     ·exact hs
     ·exact hs.row
    rcases hox' with rfl|⟨_,k2,d,d',rfl,rfl⟩
    ·exact hs2
    ·exact hs2.symm.row.symm
 ·rw[hn]at hx
  have hxb:x≠b:=λe=>by
   subst e;have:=h.fresh x hx;rw[hg]at this;cases this
  rcases hoth x hxb with e|⟨e,φ,sz',cs',e2⟩
  ·rw[e];exact h.fresh x hx
  ·rw[h.fresh x hx]at e2;cases e2
 ·refine⟨.refl μ,by rw[hn];exact Yj _,rfl,rfl,rfl,Yj _,by rw[Zeg];exact Yj _,λj hj hro'=>?_,λx _ hx=>⟨hx,?_⟩,λx cs' hx=>?_,λx q hx hx0=>by rw[hx0]at hx;cases hx⟩
  ·rw[ZaV hlt];by_cases hjp:j=p.blk
   ·obtain⟨cs',e⟩:=hro' b p hb hjp.symm;rw[hg]at e;cases e;exact absurd rfl hro
   ·rw[if_neg hjp]
  ·have hxb:x≠b:=λe=>by subst e;rw[hx]at hb;cases hb
   rcases hoth x hxb with e|⟨e,_⟩
   ·exact .inl e
   ·exact .inr e
  ·have hxb:x≠b:=λe=>by subst e;rw[hg]at hx;cases hx;exact hro rfl
   rcases hoth x hxb with e|⟨e,φ,sz',cs'',e2⟩
   ·rw[e];exact hx
   ·rw[hx]at e2;cases e2
end Go.Vd
