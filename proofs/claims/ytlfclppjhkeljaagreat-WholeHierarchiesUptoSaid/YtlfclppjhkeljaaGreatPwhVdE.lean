/- Texts. -/
import Derived.Test.YtlfclppjhkeljaaGreatPwhVdD
set_option linter.all false
open List renaming eq_nil_of_length_eq_zero→Yx
open Nat renaming lt_succ_self→YI,le_refl→Yj,zero_add→Y8
namespace Go.Vd
variable[Pins]
theorem ZeZ(b o n:Nat):(Addr.add ⟨b,o,none⟩ n)=⟨b,o+n,none⟩:=by unfold Addr.add;split <;> simp_all
theorem ZkS{μ:Mu}{H:AH}{w:World}(h:Rel μ H w)(ty:TypeId){k:Kd}{cs cs':List Value}(rest:Array Value)(exs sz:Nat)(hl:LRel μ cs cs')(h1:∀v∈cs,v.oneCell'=true)
  (ht:Zmy ⟨w.heap.size,0,exs,sz⟩ k) (hs:exs*sz≤rest.size) (hr1:∀v∈rest.toList,∀μ,∃u,VRel μ u v/\u.oneCell'=true) :
  Rel (μ.set H.next ⟨w.heap.size,0,exs,sz⟩) (H.push (.row k cs)) (w.alloc (.cells (cs'.toArray++rest) ty)):=
 (h.push (.row k cs)).realize (YI _) h.next_none (AH.push_get _ _) _ exs sz (RowRel.new ty rest exs sz (hl.mono (Mu.set_le h.next_none _)) h1 ht hs λv hv=>hr1 v hv _)
theorem ZjG(μ:Mu)(H:AH)(w:World)(φ k:Nat):Keep μ μ H (H.kill φ k) w w:=
 ⟨.refl μ,Yj _,rfl,rfl,rfl,Yj _,Yj _,λ_ _ _=>rfl,λb _ hn=>⟨hn,H.kill_or φ k b⟩,λb cs hb=>H.kill_ro φ k b cs hb,λb p h h0=>by rw[h0]at h;cases h⟩
theorem Zjk(z:Array Value)(n:Nat):(Builtin.zeroCells z n).size=n*z.size:=by simp[Builtin.zeroCells]
theorem ZjX{z:Array Value}{φ:Value->Prop}(h:∀v∈z.toList,φ v)(n:Nat):∀v∈(Builtin.zeroCells z n).toList,φ v:=by
 intro v hv;have hv':v∈Builtin.zeroCells z n:=by simpa using hv
 unfold Builtin.zeroCells at hv';simp only[Array.mem_map,Array.mem_range]at hv';obtain⟨i,hi,rfl⟩:=hv'
 have hz:0<z.size:=by
  rcases Nat.eq_zero_or_pos z.size with h0|h0
  ·rw[h0,Nat.mul_zero]at hi;omega
  ·exact h0
 have hm:i % z.size<z.size:=Nat.mod_lt _ hz;rw[getElem!_pos z _ hm];exact h _ Xs
theorem Zga{P:Program}{size n:Nat}{a:Addr}{l c:Nat}{w:World}{vs:List Value}(h:∀k,(loadCells a (n*size)).run P { w with drawn:=k }=.ok vs.toArray { w with drawn:=k })(k:Nat) :
  (Builtin.firstCells size n (.slice (some a) l c)).run P { w with drawn:=k }=.ok vs.toArray { w with drawn:=k }:=h k
structure AppRuns(P:Program)(w:World)(argTypes:Array TypeId)(ty elem:TypeId)(info:TypeInfo)(z:Value)(x:Value)(n:Nat)(vs:List Value):Prop where
 inRoom:∀(base:Option Addr) (len cap:Nat),len+n≤cap->(Builtin.append_ argTypes ty #[.slice base len cap,x]).run P w =
   ((match base with|some a=>storeCells (a.add (len*info.size)) vs|none=>pure ()).run P w).andThen λ_ w'=>.ok (.slice base (len+n) cap) w'
 out:∀(base:Option Addr) (len cap:Nat) (old:List Value),cap<len+n->info.bytes≠0->((len+n)+(len+n) / 4+512)*info.bytes≤2 ^ 48 ->
  (∀k,(Builtin.firstCells info.size len (.slice base len cap)).run P { w with drawn:=k }=.ok old.toArray { w with drawn:=k }) ->
  ∃c,len+n≤c/\(Builtin.append_ argTypes ty #[.slice base len cap,x]).run P w =
   .ok (.slice (some ⟨w.heap.size,0,none⟩) (len+n) c) (World.alloc { w with drawn:=w.drawn+1 } (.cells ((old++vs).toArray++Builtin.zeroCells z.cells (c-(len+n))) elem))
def AH.wear(H:AH)(m:Bool)(φ sz b n:Nat)(cs vs:List Value):AH:=
 match m with
 | true=>H.worn φ sz b n cs (ovl cs n vs)
 | false=>H.kill φ b
def AH.appendK(m:Bool)(H:AH)(sz bytes:Nat)(s:Value)(n:Nat)(vs:List Value):Option (Value×AH):=
 if sz=0∨vs.length≠n*sz then none else
 match s with
 | .slice base len cap =>
  if len+n≤cap then
   match base with
   | none=>if len+n=0 then some (.slice none 0 cap,H) else none
   | some ⟨b,o,none⟩=>if n=0 then some (s,H) else (H.puts b (o+len*sz) vs).map λH'=>(.slice base (len+n) cap,H')
   | some _=>if len+n=0 then some (s,H) else none
  else if bytes=0∨((len+n)+(len+n) / 4+512)*bytes>2 ^ 48 then none else
   match base with
   | none=>if len=0/\cap=0 then some (.slice (some ⟨H.next,0,none⟩) n n,H.push (.row (.loose H.next sz) vs)) else none
   | some ⟨b,o,none⟩ =>
    match H.cells b o (len*sz),H.get b with
    | some old,some (.row (.loose φ sz') cs) =>
     if sz'=sz/\o+cap*sz=cs.length then
      some (.slice (some ⟨H.next,0,none⟩) (len+n) (len+n),(H.wear m φ sz b (o+len*sz) cs vs).push (.row (.loose φ sz) (old++vs)))
     else none
    | some old,some (.row _ _)=>some (.slice (some ⟨H.next,0,none⟩) (len+n) (len+n),H.push (.row (.loose H.next sz) (old++vs)))
    | _,_=>none
   | some _=>if len=0/\cap=0 then some (.slice (some ⟨H.next,0,none⟩) n n,H.push (.row (.loose H.next sz) vs)) else none
 | _=>none
theorem Rel.appendK{μ:Mu}{H H' Hf:AH}{w:World}(h:Rel μ H w){P:Program}{argTypes:Array TypeId}{ty elem:TypeId}{info:TypeInfo}{z:Value}{s s' x r:Value}{n:Nat}{vs vs':List Value}
  (hzs:z.cells.size=info.size) (hz1:∀v∈z.cells.toList,∀μ,∃u,VRel μ u v/\u.oneCell'=true)
  (hs:VRel μ s s') (ha:H.appendK true info.size info.bytes s n vs=some (r,H')) (hf:H.appendK false info.size info.bytes s n vs=some (r,Hf)) (hap:AppRuns P w argTypes ty elem info z x n vs') (hv:LRel μ vs vs') (h1:∀v∈vs,v.oneCell'=true) :
  ∃H1,(H1=H'∨H1=Hf)/\∃r' w' μ',(Builtin.append_ argTypes ty #[s',x]).run P w=.ok r' w'/\VRel μ' r r'/\Rel μ' H1 w'/\Keep μ μ' H H1 w w':=by
 unfold AH.appendK at ha hf;by_cases hsz:info.size=0∨vs.length≠n*info.size
 ·rw[if_pos hsz]at ha;cases ha
 rw[if_neg hsz]at ha hf;have hszp:0<info.size:=Xo;have hvn:vs.length=n*info.size:=Xo
 have hnew:∀(len c:Nat) (old old':List Value) (H1:AH),Rel μ H1 w->H1.next=H.next->Keep μ μ H H1 w w->LRel μ old old'->(∀v∈old,v.oneCell'=true)->old.length=len*info.size->len+n≤c->∀φ,∃μ',
   VRel μ' (.slice (some ⟨H.next,0,none⟩) (len+n) (len+n)) (.slice (some ⟨w.heap.size,0,none⟩) (len+n) c) /\
   Rel μ' (H1.push (.row (.loose φ info.size) (old++vs))) (World.alloc { w with drawn:=w.drawn+1 } (.cells ((old'++vs').toArray++Builtin.zeroCells z.cells (c-(len+n))) elem)) /\
   Keep μ μ' H (H1.push (.row (.loose φ info.size) (old++vs))) w (World.alloc { w with drawn:=w.drawn+1 } (.cells ((old'++vs').toArray++Builtin.zeroCells z.cells (c-(len+n))) elem)):=by
  intro len c old old' H1 hr hn hk hl h1' hlen hc φ;have hr':=hr.drawn (w.drawn+1);refine⟨μ.set H1.next ⟨w.heap.size,0,c-(len+n),info.size⟩,?_,?_,?_⟩
  ·have:=VRel.slice (μ:=μ.set H1.next ⟨w.heap.size,0,c-(len+n),info.size⟩) H1.next 0 (len+n) (len+n) _ (Mu.set_self _ _ _);rw[hn]at this ⊢;dsimp only at this;rw[show len+n+(c-(len+n))=c from Xo]at this;exact this
  ·exact ZkS hr' elem _ _ _ (All2.append hl hv) (λv hm=>(List.mem_append.1 hm).elim (h1' v) (h1 v)) rfl (by rw[Zjk,hzs];exact Yj _) (ZjX hz1 _)
  ·exact (hk.trans (Keep.drawn μ H1 w (w.drawn+1) (Nat.le_succ _))).trans (Zhb hr' _ _ _ _)
 cases hs with
 | sliceNil =>
  dsimp only at ha;by_cases hle:0+n≤0
  ·rw[if_pos hle]at ha;rw[if_pos Xo]at ha;cases ha
   refine⟨_,.inl rfl,.slice none (0+n) 0,w,μ,?_,?_,h,.refl _ _ _⟩
   ·rw[hap.inRoom none 0 0 hle];simp only[Sem.run_pure,Result.andThen_ok]
   ·rw[show 0+n=0 from Xo];exact .sliceNil
  ·rw[if_neg hle]at ha;by_cases hb:info.bytes=0∨((0+n)+(0+n) / 4+512)*info.bytes>2 ^ 48
   ·rw[if_pos hb]at ha;cases ha
   rw[if_neg hb,if_pos ⟨rfl,rfl⟩]at ha;cases ha
   obtain⟨c,hc,hrun⟩:=hap.out none 0 0 [] Xo Xo Xo (λk=>rfl);obtain⟨μ',a1,a2,a3⟩:=hnew 0 c [] [] H h rfl (.refl _ _ _) .nil Xs Xs hc H.next;rw[Y8]at a1;rw[List.nil_append]at a2 a3;exact⟨_,.inl rfl,_,_,μ',hrun,by rw[Y8];exact a1,a2,a3⟩
 | slice b o len cap p hb =>
  dsimp only at ha;by_cases hle:len+n≤cap
  ·rw[if_pos hle]at ha;have hrun:=hap.inRoom (some ⟨p.blk,p.off+o,none⟩) len (cap+p.exs) Xo;dsimp only at hrun;by_cases hn:n=0
   ·rw[if_pos hn]at ha;cases ha
    subst hn
    have hv0:vs'=[]:=by
     have:=hv.1;rw[hvn]at this;exact Yx Xo
    subst hv0;simp only[storeCells,Sem.run_pure,Result.andThen_ok]at hrun;exact⟨_,.inl rfl,_,w,μ,hrun,.slice b o len cap p hb,h,.refl _ _ _⟩
   ·rw[if_neg hn]at ha;cases hp:H.puts b (o+len*info.size) vs with
    | none=>rw[hp]at ha;cases ha
    | some H1 =>
     rw[hp]at ha;cases ha;obtain⟨w',r1,r2,r3⟩:=h.puts hb hp hv h1 P;rw[ZeZ,Nat.add_assoc,r1]at hrun;exact⟨_,.inl rfl,_,w',μ,hrun,.slice b o (len+n) cap p hb,r2,r3⟩
  ·rw[if_neg hle]at ha;by_cases hby:info.bytes=0∨((len+n)+(len+n) / 4+512)*info.bytes>2 ^ 48
   ·rw[if_pos hby]at ha;cases ha
   rw[if_neg hby]at ha;cases ho:H.cells b o (len*info.size) with
   | none=>rw[ho]at ha;cases ha
   | some old =>
    rw[ho]at ha;cases hg:H.get b with
    | none=>rw[hg]at ha;cases ha
    | some ob =>
     rw[hg]at ha
     -- the machine makes a new array
     have out:len+n>cap+p.exs->∀(H1:AH),Rel μ H1 w->H1.next=H.next->Keep μ μ H H1 w w->∀φ,∃r' w' μ',(Builtin.append_ argTypes ty #[.slice (some ⟨p.blk,p.off+o,none⟩) len (cap+p.exs),x]).run P w=.ok r' w' /\
       VRel μ' (.slice (some ⟨H.next,0,none⟩) (len+n) (len+n)) r'/\Rel μ' (H1.push (.row (.loose φ info.size) (old++vs))) w'/\Keep μ μ' H (H1.push (.row (.loose φ info.size) (old++vs))) w w':=by
      intro hgt H1 hr hn hk φ;obtain⟨old',l1,l2,l3,l4⟩:=h.cells hb ho P
      have hold:∀k,(Builtin.firstCells info.size len (.slice (some ⟨p.blk,p.off+o,none⟩) len (cap+p.exs))).run P { w with drawn:=k }=.ok old'.toArray { w with drawn:=k }:=
       λk=>l1 _ rfl
      obtain⟨c,hc,hrun⟩:=hap.out (some ⟨p.blk,p.off+o,none⟩) len (cap+p.exs) old' hgt Xo Xo hold;obtain⟨μ',a1,a2,a3⟩:=hnew len c old old' H1 hr hn hk l2 l4 ((AH.cells_get ho).1) hc φ;exact⟨_,_,μ',hrun,a1,a2,a3⟩
     have far:∀k cs,ob=.row k cs->(∀φ sz,k≠.loose φ sz)->p.exs=0:=by
      intro k cs he hk;obtain⟨o',e1,e2⟩:=h.ok b p hb;rw[hg,he]at e1;cases e1;have:=e2.tight;cases k with
      | ro=>exact this
      | own=>exact this
      | loose φ sz=>exact absurd rfl (hk φ sz)
     cases ob with
     | dead=>cases ha
     | map _ _=>cases ha
     | row k cs =>
      cases k with
      | ro =>
       dsimp only at ha;cases ha;exact⟨_,.inl rfl,out (by have:=far .ro cs rfl Xs;omega) H h rfl (.refl _ _ _) H.next⟩
      | own =>
       dsimp only at ha;cases ha;exact⟨_,.inl rfl,out (by have:=far .own cs rfl Xs;omega) H h rfl (.refl _ _ _) H.next⟩
      | loose φ sz' =>
       dsimp only at ha;by_cases hc:sz'=info.size/\o+cap*info.size=cs.length
       ·rw[if_pos hc]at ha;cases ha;obtain⟨hc1,hc2⟩:=hc;subst hc1;by_cases hroom:len+n≤cap+p.exs
        ·obtain⟨w',r1,r2,r3⟩:=h.growJ hb hg hc2.symm hszp ho hvn Xo hroom hv h1 P;have hrun:=hap.inRoom (some ⟨p.blk,p.off+o,none⟩) len (cap+p.exs) hroom;dsimp only at hrun;rw[ZeZ,r1]at hrun;refine⟨_,.inl rfl,_,w',_,hrun,?_,r2,r3⟩;have:=VRel.slice (μ:=μ.set H.next ⟨p.blk,p.off+o,cap+p.exs-(len+n),info.size⟩) H.next 0 (len+n) (len+n) _ (Mu.set_self _ _ _);dsimp only at this;rw[show len+n+(cap+p.exs-(len+n))=cap+p.exs from Xo,Nat.add_zero]at this;exact this
        ·dsimp only at hf;rw[if_neg hle,if_neg hby,ho,hg]at hf;dsimp only at hf;rw[if_pos ⟨rfl,hc2⟩]at hf;cases hf;exact⟨_,.inr rfl,out Xo _ (h.kill φ _) rfl (ZjG μ H w φ _) φ⟩
       ·rw[if_neg hc]at ha;cases ha
 | sliceEnd b o o' p hb =>
  dsimp only at ha;by_cases hle:0+n≤0
  ·rw[if_pos hle]at ha;have hn:n=0:=Xo;subst hn;rw[if_pos rfl]at ha;cases ha
   have hv0:vs'=[]:=by
    have:=hv.1;rw[hvn]at this;exact Yx Xo
   subst hv0;have hrun:=hap.inRoom (some ⟨p.blk,o',none⟩) 0 0 Xo;simp only[storeCells,Sem.run_pure,Result.andThen_ok]at hrun;exact⟨_,.inl rfl,_,w,μ,hrun,.sliceEnd b o o' p hb,h,.refl _ _ _⟩
  ·rw[if_neg hle]at ha;by_cases hby:info.bytes=0∨((0+n)+(0+n) / 4+512)*info.bytes>2 ^ 48
   ·rw[if_pos hby]at ha;cases ha
   rw[if_neg hby]at ha;cases ho:H.cells b o (0*info.size) with
   | none=>rw[ho]at ha;cases ha
   | some old =>
    rw[ho]at ha;have hol:old=[]:=Yx (by rw[(AH.cells_get ho).1];omega);subst hol
    have out:∀(H1:AH),Rel μ H1 w->H1.next=H.next->Keep μ μ H H1 w w->∀φ,∃r' w' μ',(Builtin.append_ argTypes ty #[.slice (some ⟨p.blk,o',none⟩) 0 0,x]).run P w=.ok r' w' /\
       VRel μ' (.slice (some ⟨H.next,0,none⟩) (0+n) (0+n)) r'/\Rel μ' (H1.push (.row (.loose φ info.size) ([]++vs))) w'/\Keep μ μ' H (H1.push (.row (.loose φ info.size) ([]++vs))) w w':=by
     intro H1 hr hn hk φ
     obtain⟨c,hc,hrun⟩:=hap.out (some ⟨p.blk,o',none⟩) 0 0 [] Xo Xo Xo
      (λk=>by rw[Zga (vs:=[]) (λk=>by rw[Nat.zero_mul];rfl)])
     obtain⟨μ',a1,a2,a3⟩:=hnew 0 c [] [] H1 hr hn hk .nil Xs Xs hc φ;exact⟨_,_,μ',hrun,a1,a2,a3⟩
    cases hg:H.get b with
    | none=>rw[hg]at ha;cases ha
    | some ob =>
     rw[hg]at ha;cases ob with
     | dead=>cases ha
     | map _ _=>cases ha
     | row k cs =>
      cases k with
      | ro=>dsimp only at ha;cases ha;exact⟨_,.inl rfl,out H h rfl (.refl _ _ _) H.next⟩
      | own=>dsimp only at ha;cases ha;exact⟨_,.inl rfl,out H h rfl (.refl _ _ _) H.next⟩
      | loose φ sz' =>
       dsimp only at ha;by_cases hc:sz'=info.size/\o+0*info.size=cs.length
       ·rw[if_pos hc]at ha;cases ha;obtain⟨hc1,hc2⟩:=hc;subst hc1;dsimp only at hf;rw[if_neg hle,if_neg hby,ho,hg]at hf;dsimp only at hf;rw[if_pos ⟨rfl,hc2⟩]at hf;cases hf;exact⟨_,.inr rfl,out _ (h.kill φ _) rfl (ZjG μ H w φ _) φ⟩
       ·rw[if_neg hc]at ha;cases ha
 | void a =>
  dsimp only at ha;by_cases hle:0+n≤0
  ·rw[if_pos hle]at ha;rw[if_pos Xo]at ha;cases ha
   have hv0:vs'=[]:=by
    have:=hv.1;rw[hvn]at this;exact Yx (by rw[← this,show n=0 from Xo,Nat.zero_mul])
   subst hv0;have hrun:=hap.inRoom (some a) 0 0 Xo;simp only[storeCells,Sem.run_pure,Result.andThen_ok]at hrun;have hn:0+n=0:=Xo;rw[hn]at hrun;exact⟨_,.inl rfl,_,w,μ,hrun,.void a,h,.refl _ _ _⟩
  ·rw[if_neg hle]at ha;by_cases hby:info.bytes=0∨((0+n)+(0+n) / 4+512)*info.bytes>2 ^ 48
   ·rw[if_pos hby]at ha;cases ha
   ·rw[if_neg hby,if_pos ⟨rfl,rfl⟩]at ha;cases ha
    obtain⟨c,hc,hrun⟩:=hap.out (some a) 0 0 [] Xo Xo Xo
      (λk=>by rw[Zga (vs:=[]) (λk=>by rw[Nat.zero_mul];rfl)])
    obtain⟨μ',a1,a2,a3⟩:=hnew 0 c [] [] H h rfl (.refl _ _ _) .nil Xs Xs hc H.next;rw[Y8]at a1;rw[List.nil_append]at a2 a3;exact⟨_,.inl rfl,_,_,μ',hrun,by simpa using a1,a2,a3⟩
 | _=>cases ha
theorem AH.kill_off{H:AH}{b φ sz:Nat}{cs:List Value}{o:AObj}(hg:H.get b=some (.row (.loose φ sz) cs))(hb:b<H.next)(hf:∀x,H.next≤x->H.get x=none) :
  ((H.kill φ b).push o).upd b .dead=(H.kill φ H.next).push o:=by
 rw[← AH.worn_id (n:=0) hg];exact AH.worn_off hg hb hf
theorem AH.append_two{H:AH}{sz bytes:Nat}{s:Value}{n:Nat}{vs:List Value}{r:Value}{H':AH}(h:H.append sz bytes s n vs=some (r,H'))(hf:∀x,H.next≤x->H.get x=none) :
  ∃H1 H2,H.appendK true sz bytes s n vs=some (r,H1)/\H.appendK false sz bytes s n vs=some (r,H2)/\((H'=H1/\H'=H2)∨∃b o l c φ z cs,s=.slice (some ⟨b,o,none⟩) l c/\H.get b=some (.row (.loose φ z) cs)/\(∀cs,H1.get b≠some (.row .ro cs))/\(∀cs,H2.get b≠some (.row .ro cs))/\H'=H1.upd b .dead/\H'=H2.upd b .dead):=by
 unfold AH.append at h;unfold AH.appendK;by_cases h0:sz=0∨vs.length≠n*sz
 ·rw[if_pos h0]at h;cases h
 rw[if_neg h0]at h ⊢
 have triv:∀{x:Option (Value×AH)},x=some (r,H')->∃H1 H2,x=some (r,H1)/\x=some (r,H2)/\((H'=H1/\H'=H2)∨∃b o l c φ z cs,s=.slice (some ⟨b,o,none⟩) l c/\H.get b=some (.row (.loose φ z) cs)/\(∀cs,H1.get b≠some (.row .ro cs))/\(∀cs,H2.get b≠some (.row .ro cs))/\H'=H1.upd b .dead/\H'=H2.upd b .dead):=
  λe=>⟨H',H',e,e,.inl ⟨rfl,rfl⟩⟩
 rw[if_neg h0];split at h
 ·rename_i base len cap
  dsimp only;by_cases h1:len+n≤cap
  ·rw[if_pos h1]at h;simp only[if_pos h1];exact triv h
  rw[if_neg h1]at h;simp only[if_neg h1];by_cases h2:bytes=0∨((len+n)+(len+n) / 4+512)*bytes>2 ^ 48
  ·rw[if_pos h2]at h;cases h
  rw[if_neg h2]at h;simp only[if_neg h2];split at h
  ·exact triv h
  ·rename_i b o
   dsimp only;cases ho:H.cells b o (len*sz) with
   | none=>rw[ho]at h;cases h
   | some old =>
    rw[ho]at h;cases hg:H.get b with
    | none=>rw[hg]at h;cases h
    | some ob =>
     rw[hg]at h;cases ob with
     | dead=>cases h
     | map _ _=>cases h
     | row k cs =>
      cases k with
      | ro=>exact triv h
      | own=>exact triv h
      | loose φ z =>
       dsimp only at h ⊢;by_cases h3:z=sz/\o+cap*sz=cs.length
       ·rw[if_pos h3]at h;simp only[if_pos h3];cases h
        obtain⟨h3,h4⟩:=h3;subst h3
        have hbl:b<H.next:=by
         rcases Nat.lt_or_ge b H.next with e|e
         ·exact e
         ·rw[hf b e]at hg;cases hg
        refine⟨_,_,rfl,rfl,?_⟩;by_cases hlc:len=cap
        ·have hd:ovl cs (o+len*z) vs=cs.drop (o+len*z):=by rw[hlc,h4];simp[ovl]
         rw[if_pos hlc]
         have hw:H.wear true φ z b (o+len*z) cs vs=H.kill φ b:=by
          show H.worn φ z b (o+len*z) cs (ovl cs (o+len*z) vs)=_;rw[hd,AH.worn_id hg]
         rw[hw];exact .inl ⟨rfl,rfl⟩
        ·rw[if_neg hlc];refine .inr ⟨b,o,len,cap,φ,z,cs,rfl,hg,λcs' e=>?_,λcs' e=>?_,(AH.worn_off hg hbl hf).symm,(AH.kill_off hg hbl hf).symm⟩
         ·change ((H.worn φ z b (o+len*z) cs (ovl cs (o+len*z) vs)).push _).get b=_ at e
          rw[show ((H.worn φ z b (o+len*z) cs (ovl cs (o+len*z) vs)).push (.row (.loose φ z) (old++vs))).get b=some (.row (.loose φ z) (Zfz cs (o+len*z) (ovl cs (o+len*z) vs))) from
           (AH.push_old (H.worn φ z b (o+len*z) cs _) _ b hbl).trans (AH.worn_self _ _ _ _ _ _ _)]at e
          cases e
         ·change ((H.kill φ b).push _).get b=_ at e
          rw[show ((H.kill φ b).push (.row (.loose φ z) (old++vs))).get b=some (.row (.loose φ z) cs) from
           (AH.push_old (H.kill φ b) _ b hbl).trans ((H.kill_keep φ b).trans hg)]at e
          cases e
       ·rw[if_neg h3]at h;cases h
  ·rename_i v hv
   obtain⟨b0,o0,sp⟩:=v;cases sp with
   | none=>exact (hv b0 o0 rfl).elim
   | some q=>exact triv h
 ·cases h
theorem Rel.append{μ:Mu}{H H':AH}{w:World}(h:Rel μ H w){P:Program}{argTypes:Array TypeId}{ty elem:TypeId}{info:TypeInfo}{z:Value}{s s' x r:Value}{n:Nat}{vs vs':List Value}
  (hzs:z.cells.size=info.size) (hz1:∀v∈z.cells.toList,∀μ,∃u,VRel μ u v/\u.oneCell'=true)
  (hs:VRel μ s s') (ha:H.append info.size info.bytes s n vs=some (r,H')) (hap:AppRuns P w argTypes ty elem info z x n vs') (hv:LRel μ vs vs') (h1:∀v∈vs,v.oneCell'=true) :
  ∃r' w' μ',(Builtin.append_ argTypes ty #[s',x]).run P w=.ok r' w'/\VRel μ' r r'/\Rel μ' H' w'/\Keep μ μ' H H' w w':=by
 obtain⟨H1,H2,e1,e2,e3⟩:=AH.append_two ha h.fresh;obtain⟨H3,e4,r',w',μ',a1,a2,a3,a4⟩:=h.appendK hzs hz1 hs e1 e2 hap hv h1;refine⟨r',w',μ',a1,a2,?_⟩;rcases e3 with ⟨rfl,rfl⟩|⟨b,o,l,c,φ,z',cs,rfl,hg,n1,n2,d1,d2⟩
 ·rcases e4 with rfl|rfl <;> exact⟨a3,a4⟩
 have hro:∀cs',H.get b≠some (.row .ro cs'):=λcs' e=>by rw[hg]at e;cases e
 obtain⟨p,hb⟩:∃p,μ b=some p:=by
  generalize hz:(Value.slice (some ⟨b,o,none⟩) l c)=S at hs;cases hs with
  | slice b' o' n' c' p hb=>cases hz;exact⟨p,hb⟩
  | sliceEnd b' o' o2 p hb=>cases hz;exact⟨p,hb⟩
  | _=>cases hz
 rcases e4 with rfl|rfl
 ·rw[d1];exact⟨a3.off (a4.le _ _ hb) n1,a4.off hb hro⟩
 ·rw[d2];exact⟨a3.off (a4.le _ _ hb) n2,a4.off hb hro⟩
end Go.Vd
