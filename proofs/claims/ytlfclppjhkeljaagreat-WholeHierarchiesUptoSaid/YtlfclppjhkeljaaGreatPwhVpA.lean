/- Texts. -/
import Derived.Test.YtlfclppjhkeljaaGreatPwhVeA
set_option linter.all false
open Option renaming bind_some→Yk
open Sum renaming elim→YR,inl→Yu,inr→Yr,elim_inr→Yq,elim_inl→Yo
namespace Go.Vd
inductive Er
 | nil
 | no (n:Int)
 | at (k i:Int) (e:Er)
 deriving DecidableEq,Inhabited
def Er.fk:Er->Int
 | .at k _ _=>k
 | _=>0
def Er.fi:Er->Int
 | .at _ i _=>i
 | _=>0
def G{α:Type}(p:Prop)[Decidable p](x:Option α):Option α:=if p then x else none
theorem Zjr{α:Type}{r:α}(h:(none:Option α)=some r):False:=by cases h
theorem Zb{α:Type}{p:Prop}[Decidable p]{x:Option α}{r:α}(h:G p x=some r):p/\x=some r:=by
 unfold G at h;split at h
 ·exact⟨by assumption,h⟩
 ·cases h
theorem bind_some{α β:Type}{x:Option α}{f:α->Option β}{r:β}(h:x.bind f=some r):∃y,x=some y/\f y=some r:=by
 cases x with
 | none=>cases h
 | some y=>exact⟨y,rfl,h⟩
theorem map_some{α β:Type}{x:Option α}{f:α->β}{r:β}(h:x.map f=some r):∃y,x=some y/\f y=r:=by
 cases x with
 | none=>cases h
 | some y=>exact⟨y,rfl,Option.some.inj h⟩
theorem Ze{α:Type}{c:Prop}[Decidable c]{x y z:α}(h:c)(hr:(if c then x else y)=z):x=z:=by rwa[if_pos h]at hr
theorem Zk{α:Type}{c:Prop}[Decidable c]{x y z:α}(h:¬c)(hr:(if c then x else y)=z):y=z:=by rwa[if_neg h]at hr
theorem ZN{α:Type}{b:Bool}{x y z:α}(h:b=false)(hr:(if b=true then x else y)=z):y=z:=by
 subst h;rwa[if_neg Xd]at hr
theorem elim_inl{α β:Type}{f:β->Option α}{v r:α}(h:YR some f (Yu v:α⊕β)=some r):v=r:=Option.some.inj h
theorem elim_inr{α β:Type}{f:β->Option α}{v:β}{r:α}(h:YR some f (Yr v:α⊕β)=some r):f v=some r:=h
theorem ZkF{α β γ:Type}{f:α->Option γ}{g:β->Option γ}{v:α}{r:γ}(h:YR f g (Yu v)=some r):f v=some r:=h
theorem Zkw{α β γ:Type}{f:α->Option γ}{g:β->Option γ}{v:β}{r:γ}(h:YR f g (Yr v)=some r):g v=some r:=h
theorem ZlM{α β:Type}{f:α->Prop}{g:β->Prop}{v:α}(h:f v):YR f g (Yu v):=h
theorem ZlU{α β:Type}{f:α->Prop}{g:β->Prop}{v:β}(h:g v):YR f g (Yr v):=h
def ZJ{σ β:Type}(f:σ->Option (σ⊕β)):Nat->σ->Option β
 | 0,_=>none
 | n+1,s=>(f s).bind (YR (ZJ f n) some)
theorem ZiQ{σ β:Type}{f:σ->Option (σ⊕β)}{b:β}:∀{n m:Nat} {s:σ},ZJ f n s=some b->n≤m->ZJ f m s=some b:=by
 intro n;induction n with
 | zero=>intro m s h;cases h
 | succ n ih =>
  intro m s h hle;obtain⟨m,rfl⟩:∃k,m=k+1:=⟨m - 1,Xo⟩;simp only[ZJ]at h ⊢;obtain⟨z,h1,h2⟩:=bind_some h;rw[h1];cases z with
  | inl s'=>exact ih h2 Xo
  | inr b'=>exact h2
open Classical in
noncomputable def ZB{σ β:Type}(f:σ->Option (σ⊕β))(s:σ):Option β:=
 if h:∃n b,ZJ f n s=some b then some (Classical.choose (Classical.choose_spec h)) else none
theorem Zt{σ β:Type}{f:σ->Option (σ⊕β)}{s:σ}{b:β}:ZB f s=some b↔∃n,ZJ f n s=some b:=by
 unfold ZB;constructor
 ·intro h;split at h
  ·rename_i hx
   cases h
   exact⟨_,Classical.choose_spec (Classical.choose_spec hx)⟩
  ·cases h
 ·rintro⟨n,hn⟩;have hx:∃n b,ZJ f n s=some b:=⟨n,b,hn⟩;rw[dif_pos hx];have h2:=Classical.choose_spec (Classical.choose_spec hx);have h3:=ZiQ h2 (Nat.le_max_left _ n);have h4:=ZiQ hn (Nat.le_max_right (Classical.choose hx) n);rw[h3]at h4;exact h4
theorem ZeV{σ β:Type}(f:σ->Option (σ⊕β))(s:σ):ZB f s=(f s).bind (YR (ZB f) some):=by
 cases hf:f s with
 | none =>
  rw[Option.bind_none];cases hl:ZB f s with
  | none=>rfl
  | some b =>
   obtain⟨n,hn⟩:=Zt.1 hl;cases n with
   | zero=>cases hn
   | succ n=>simp only[ZJ,hf,Option.bind_none]at hn;cases hn
 | some z =>
  rw[Yk];cases z with
  | inr b=>rw[Yq];exact Zt.2 ⟨1,by simp[ZJ,hf]⟩
  | inl s' =>
   rw[Yo];cases hl:ZB f s' with
   | some b =>
    obtain⟨n,hn⟩:=Zt.1 hl;exact Zt.2 ⟨n+1,by simp[ZJ,hf,hn]⟩
   | none =>
    cases hl2:ZB f s with
    | none=>rfl
    | some b =>
     obtain⟨n,hn⟩:=Zt.1 hl2;cases n with
     | zero=>cases hn
     | succ n =>
      simp only[ZJ,hf,Yk,Yo]at hn;rw[Zt.2 ⟨n,hn⟩]at hl;cases hl
theorem Zv{σ β:Type}{f:σ->Option (σ⊕β)}{n:Nat}{s:σ}{b:β}(h:ZJ f n s=some b):∃m z,n=m+1/\f s=some z/\YR (ZJ f m) some z=some b:=by
 cases n with
 | zero=>cases h
 | succ n =>
  simp only[ZJ]at h;obtain⟨z,h1,h2⟩:=bind_some h;exact⟨n,z,rfl,h1,h2⟩
def T{α:Type}(x:Option α)(Q:α->Prop):Prop:=∃a,x=some a/\Q a
@[simp] theorem T_none {α:Type} {Q:α->Prop}:T none Q↔False:=⟨λ⟨_,h,_⟩=>(by cases h),False.elim⟩
@[simp] theorem Zd {α:Type} {a:α} {Q:α->Prop}:T (some a) Q↔Q a:=⟨λ⟨_,h,k⟩=>by cases h;exact k,λh=>⟨a,rfl,h⟩⟩
@[simp] theorem Zf3 {α β:Type} {x:Option α} {f:α->Option β} {Q:β->Prop}:T (x.bind f) Q↔T x λa=>T (f a) Q:=by
 cases x <;> simp
@[simp] theorem Zdt {α β:Type} {x:Option α} {f:α->β} {Q:β->Prop}:T (x.map f) Q↔T x λa=>Q (f a):=by
 cases x <;> simp
@[simp] theorem Zr {α:Type} {c:Prop} [Decidable c] {x y:Option α} {Q:α->Prop}:T (if c then x else y) Q↔(c->T x Q)/\(¬c->T y Q):=by
 split <;> simp_all
@[simp] theorem T_G {α:Type} {p:Prop} [Decidable p] {x:Option α} {Q:α->Prop}:T (G p x) Q↔p/\T x Q:=by
 unfold G;split <;> simp_all
theorem ZmF{α:Type}{x:Option α}{Q Q':α->Prop}(h:T x Q)(k:∀a,Q a->Q' a):T x Q':=by
 obtain⟨a,h1,h2⟩:=h;exact⟨a,h1,k a h2⟩
theorem Zfb{α:Type}{x:Option α}{a:α}:T x (λb=>b=a)↔x=some a:=
 ⟨λ⟨_,h,k⟩=>(by rw[h,k]),λh=>⟨a,h,rfl⟩⟩
theorem ZK{σ β:Type}{f:σ->Option (σ⊕β)}{Q:β->Prop}(I:σ->Prop)(m:σ->Nat)
  (step:∀s,I s->T (f s) (YR (λs'=>I s'/\m s'<m s) Q)) {s:σ} (h:I s):T (ZB f s) Q:=by
 generalize hk:m s=k;induction k using Nat.strongRecOn generalizing s with
 | _ k ih =>
  obtain⟨z,h1,h2⟩:=step s h;rw[ZeV,h1,Yk];cases z with
  | inl s'=>exact ih (m s') (by have:=h2.2;omega) h2.1 rfl
  | inr b=>exact⟨b,rfl,h2⟩
theorem Zo{α β:Type}{x:Option α}{f:α->Option β}{Q:β->Prop}(R:α->Prop)(h:T x R)(k:∀a,R a->T (f a) Q):T (x.bind f) Q:=by
 obtain⟨a,h1,h2⟩:=h;rw[h1];exact k a h2
theorem Zbi{α β:Type}{x:Option (β⊕α)}{f:α->Option β}{Q:β->Prop}(R:α->Prop)(h:T x (YR Q R))(k:∀a,R a->T (f a) Q):T (x.bind (YR some f)) Q:=by
 obtain⟨a,h1,h2⟩:=h;rw[h1];cases a with
 | inl b=>exact⟨b,rfl,h2⟩
 | inr a=>exact k a h2
end Go.Vd
