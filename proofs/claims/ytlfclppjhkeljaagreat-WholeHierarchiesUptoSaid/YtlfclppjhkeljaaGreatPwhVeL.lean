/- Texts. -/
import Derived.Test.YtlfclppjhkeljaaGreatPwhVeJ
import Derived.Lib.Overlaps
set_option linter.all false
open Array renaming eq_empty_of_size_eq_zero→YZ
open Option renaming map_some→Yda
namespace Go.Vd
variable[Pins]
section
variable{P:Program}{H:AH}{sz:Nat}{b:Nat}{ops:Array Oper}{K:AAct->AH->Prop}{α:AAct}{o:Oper}{rest:List Oper}
theorem fr0{w:World}{p:Pl}{μ:Mu}{k:Kd}{cs:List Value}(h:RowRel μ w p k cs)(hk:k≠.ro):∃c ty,w.heap[p.blk]? = some (.cells c ty (0,0))/\cs.length≤c.size:=by
 obtain⟨⟨c,ty,fr,h1,h2,h3,h4⟩,_⟩:=h;rw[h3 hk]at h1;exact⟨c,ty,h1,Xo⟩
theorem s_ov{x y f:Operand}{at_:Array TypeId}{g:FuncId}{fn:Func}{tS tR:TypeId}{tb tc off n c:Nat}{kt:Kd}{ct cb:List Value}
  (ho:o.op=.call { callee:=.value f,args:=#[x,y],argTypes:=at_ }) (hg:Region.wanted o (ZZ ops α)=true)
  (hf : ZY α f = .func (.func g) #[] #[]) (hfn : P.funcs[g]? = some fn) (hname : (fn.name == "runtime.NumGoroutine") = false) (hb : fn.body.isNone = true) (hn : Extern.findNext fn = none) (he : Extern.find fn = some (Extern.SlicesOverlaps.overlaps #[tS, tS] #[tR]))
  (ht:Zbh P tS=some sz) (hx:ZY α x=.slice (some ⟨tb,0,none⟩) 1 tc) (hy:ZY α y=.slice (some ⟨b,off,none⟩) n c) (hn0:n≠0)
  (gt:H.get tb=some (.row kt ct)) (hkt:kt≠.ro) (gb:H.get b=some (.row .own cb)) (hcb:cb.length≠0) (hne:tb≠b)
  (k:Zs P ops K rest (α.put o.dst (.bool false)) H):Zs P ops K (o::rest) α H:=by
 simp only[Zs,hg,if_true];refine .inr (.inr λro μ w o' a next Q hop hρ hr hnx=>?_);rw[ho]at hρ;have rx:VRel μ (ZY α x) (a.eval x):=hρ x (by simp[Op.operands,Call.operands]);have ry:VRel μ (ZY α y) (a.eval y):=hρ y (by simp[Op.operands,Call.operands]);have rf:VRel μ (ZY α f) (a.eval f):=hρ f (by simp[Op.operands,Call.operands]);rw[hx]at rx;rw[hy]at ry;rw[hf]at rf;have hop':o'.op=.call { callee:=.value f,args:=#[x,y],argTypes:=at_ }:=hop.trans ho;obtain⟨m,z,hT⟩:=ZaU ht;obtain⟨e,inf,hu,hi,hel,hs,hb'⟩:=ZaH hT
 -- the function
 have ef:a.eval f=.func (.func g) #[] #[]:=by
  generalize a.eval f=y at rf;cases rf with
  | func _ _ a' _ c' e1 e2 e3 e4 =>
   have:a'=#[]:=by apply YZ;simpa using e1.symm
   subst this;have:c'=#[]:=by apply YZ;simpa using e3.symm
   subst this;rfl
 -- the slices
 obtain⟨p1,m1,ex⟩:∃p1:Pl,μ tb=some p1/\∃c1,a.eval x=.slice (some ⟨p1.blk,p1.off+0,none⟩) 1 c1:=by
  generalize a.eval x=v at rx;cases rx with
  | slice _ _ _ _ p hp=>exact⟨p,hp,_,rfl⟩
 obtain⟨c1,ex⟩:=ex
 obtain⟨p2,m2,ey⟩:∃p2:Pl,μ b=some p2/\∃c2,a.eval y=.slice (some ⟨p2.blk,p2.off+off,none⟩) n c2:=by
  generalize a.eval y=v at ry;cases ry with
  | slice _ _ _ _ p hp=>exact⟨p,hp,_,rfl⟩
  | sliceEnd _ _ _ p hp=>exact absurd rfl hn0
 obtain⟨c2,ey⟩:=ey;obtain⟨o1,q1,r1⟩:=hr.ok tb p1 m1;rw[gt]at q1;cases q1;obtain⟨o2,q2,r2⟩:=hr.ok b p2 m2;rw[gb]at q2;cases q2
 have hblk:p1.blk≠p2.blk:=λe=>by
  have hsh:=hr.apart tb b p1 p2 _ _ m1 m2 hne e gt gb;cases kt with
  | ro=>exact hkt rfl
  | own=>simp[Share]at hsh
  | loose _ _=>simp[Share]at hsh
 obtain⟨d1,ty1,w1,l1⟩:=fr0 (show RowRel μ w p1 kt ct from r1) hkt;obtain⟨d2,ty2,w2,l2⟩:=fr0 (show RowRel μ w p2 .own cb from r2) Xs
 have run0:=Lib.run_overlaps_apart (P:=P) w tS tR e hu inf.size (λw=>ZaQ hi w) ⟨p1.blk,p1.off+0,none⟩ ⟨p2.blk,p2.off+off,none⟩ 1 c1 n c2 hblk ty1 ty2 d1.size d2.size
  (by simp only[World.shape?,w1]) (by simp only[World.shape?,w2]) Xo (by simp[World.frozen?,w1]) (by simp[World.frozen?,w1])
 refine⟨λ_ _=>trivial,?_⟩;rw[show ({ Fence.wide with round:=ro }:Fence).round=ro from rfl,Oper.semAt_eq ro _ o' (λc e=>by rw[hop']at e;cases e)]
 have hrun:(execOp (λx=>a.eval x) o').run P w=.ok (.value (.bool false)) w:=by
  obtain⟨dst,op,type,pos,after,guard⟩:=o';dsimp only at hop';subst hop';have hargs:(#[x,y].map λx=>a.eval x)=#[.slice (some ⟨p1.blk,p1.off+0,none⟩) 1 c1,.slice (some ⟨p2.blk,p2.off+off,none⟩) n c2]:=by simp[ex,ey]
  simp only[execOp,resolve,ef,Deferred.ofValue,Sem.run_bind,Sem.run_pure,Result.andThen_ok,invoke,hargs];simp only[Array.empty_append,Array.append_empty];rw[run_callFunc_extern hfn hname hb hn he,run0];rfl
 rw[hrun];exact hnx (.bool false) (.bool false) H μ w k (.bool false) hr (Keep.refl μ H w)
theorem s_s3{t:TypeId}{x lo hi mx:Operand}{k1 k2 k3:IntKind}{i j m:Int}{s:Value}{n c:Nat}{cb:List Value}
  (ho:o.op=.slice t x (some lo) (some hi) (some mx)) (hg:Region.wanted o (ZZ ops α)=true) (ht:Zbh P t=some sz)
  (hx:ZY α x=s) (hs:((s=.slice none 0 0∨s=ZbN)/\c=0)∨(s=.slice (some ⟨b,0,none⟩) n c/\H.get b=some (.row .own cb)))
  (hlo:ZY α lo=.int k1 i) (hhi:ZY α hi=.int k2 j) (hmx:ZY α mx=.int k3 m) (h0:0≤i) (h1:i≤j) (h2:j≤m) (h3:m≤(c:Int))
  (k:∀v,Zs P ops K rest (α.put o.dst v) H):Zs P ops K (o::rest) α H:=by
 simp only[Zs,hg,if_true];refine .inr (.inr λro μ w o' a next Q hop hρ hr hnx=>?_);rw[ho]at hρ;have rx:VRel μ (ZY α x) (a.eval x):=hρ x (by simp[Op.operands]);have r1:VRel μ (ZY α lo) (a.eval lo):=hρ lo (by simp[Op.operands]);have r2:VRel μ (ZY α hi) (a.eval hi):=hρ hi (by simp[Op.operands]);have r3:VRel μ (ZY α mx) (a.eval mx):=hρ mx (by simp[Op.operands]);rw[hx]at rx;rw[hlo]at r1;rw[hhi]at r2;rw[hmx]at r3;have e1:a.eval lo=.int k1 i:=by generalize a.eval lo=y at r1;cases r1;rfl
 have e2:a.eval hi=.int k2 j:=by generalize a.eval hi=y at r2;cases r2;rfl
 have e3:a.eval mx=.int k3 m:=by generalize a.eval mx=y at r3;cases r3;rfl
 have hop':o'.op=.slice t x (some lo) (some hi) (some mx):=hop.trans ho;obtain⟨mm,z,hT⟩:=ZaU ht;obtain⟨e,inf,hu,hi',hel,hsz,hb'⟩:=ZaH hT
 have hsl:∀(ad:Option Addr) (l c':Nat),m≤(c':Int)->(Instr.sliceAt t (.slice ad l c') (some (.int k1 i)) (some (.int k2 j)) (some (.int k3 m))).run P w =
   .ok (.slice (if m.toNat=i.toNat then ad else ad.map (·.add (i.toNat*inf.size))) (j.toNat-i.toNat) (m.toNat-i.toNat)) w:=λad l c' hc=>by
  simp only[Instr.sliceAt,Sem.run_bind,ZL hu,Result.andThen_ok,Instr.slice,Instr.sliceBounds,Za7 k3 m c' _ Xo Xo,Za7 k2 j m.toNat _ Xo Xo,
   Za7 k1 i j.toNat _ h0 Xo,ZaQ hi',Sem.run_pure]
 have fin:∀v v',VRel μ v v'->(Instr.sliceAt t (a.eval x) (some (.int k1 i)) (some (.int k2 j)) (some (.int k3 m))).run P w=.ok v' w->o'.wpIn { Fence.wide with round:=ro } 0 P a w next Q:=λv v' hv hrun0=>by
  refine⟨λ_ _=>trivial,?_⟩;rw[show ({ Fence.wide with round:=ro }:Fence).round=ro from rfl,Oper.semAt_eq ro _ o' (λc e=>by rw[hop']at e;cases e)]
  have hrun:(execOp (λx=>a.eval x) o').run P w=.ok (.value v') w:=by
   obtain⟨dst,op,type,pos,after,guard⟩:=o';dsimp only at hop';subst hop';refine ZcD ?_;show (Instr.sliceAt t (a.eval x) (some (a.eval lo)) (some (a.eval hi)) (some (a.eval mx))).run P w=_;rw[e1,e2,e3];exact hrun0
  rw[hrun];exact hnx v v' H μ w (k v) hv hr (Keep.refl μ H w)
 rcases hs with ⟨rfl|rfl,rfl⟩|⟨rfl,gb⟩
 ·generalize hq:a.eval x=y at rx fin;cases rx
  have:=hsl none 0 0 h3;rw[if_pos Xo,show j.toNat-i.toNat=0 by omega,show m.toNat-i.toNat=0 by omega]at this;exact fin _ _ .sliceNil this
 ·generalize hq:a.eval x=y at rx fin;unfold ZbN at rx;cases rx with
  | void ad =>
   have:=hsl (some ad) 0 0 h3;rw[if_pos Xo,show j.toNat-i.toNat=0 by omega,show m.toNat-i.toNat=0 by omega]at this;exact fin _ _ (.void ad) this
 ·generalize hq:a.eval x=y at rx fin
  have key:∀(p:Pl),μ b=some p->∀(ad:Addr) (c':Nat),(m.toNat≠i.toNat->ad=⟨p.blk,p.off+0,none⟩)->(∃o',ad=⟨p.blk,o',none⟩)->m≤(c':Int)->y=.slice (some ad) n c'->o'.wpIn { Fence.wide with round:=ro } 0 P a w next Q:=by
   intro p hp ad c' h8 h9 hc' hy;subst hy
   have hex:p.exs=0:=by
    obtain⟨ob,q1,q2⟩:=hr.ok b p hp;rw[gb]at q1;cases q1;exact q2.tight
   have:=hsl (some ad) n c' hc';by_cases hmi:m.toNat=i.toNat
   ·rw[if_pos hmi,show j.toNat-i.toNat=0 by omega,show m.toNat-i.toNat=0 by omega]at this;obtain⟨o',rfl⟩:=h9;exact fin _ _ (.sliceEnd b 0 o' p hp) this
   ·rw[if_neg hmi]at this;refine fin (.slice (some ⟨b,i.toNat*inf.size,none⟩) (j.toNat-i.toNat) (m.toNat-i.toNat)) _ ?_ this;have hv:=VRel.slice (μ:=μ) b (i.toNat*inf.size) (j.toNat-i.toNat) (m.toNat-i.toNat) p hp;rw[hex]at hv;rw[h8 hmi];simp only[Yda,ZeZ,Nat.add_zero];simpa using hv
  cases rx with
  | slice _ _ _ _ p hp=>exact key p hp _ _ (λ_=>rfl) ⟨_,rfl⟩ Xo rfl
  | sliceEnd _ _ o' p hp=>exact key p hp _ _ (λh=>absurd Xo h) ⟨_,rfl⟩ h3 rfl
end
end Go.Vd
