/- Texts. -/
import Derived.Test.YtlfclppjhkeljaaGreatPwhVeB
set_option linter.all false
open List renaming mem_append_left→YC,mem_append_right→YS
open Option renaming bind_some→Yk
namespace Go.Vd
variable[Pins]
variable{P:Program}{H H':AH}{E:Type}{W fp:Fp}{xs:List E}{I:AH->List E->Fp->Prop}
structure Trc(I:AH->List E->Fp->Prop)(H:AH)(xs:List E)(fp:Fp):Prop where
 lt:Lt H fp
 wf:WF H
 is:∀W H',FrS W H H'->Dj W fp->I H' xs fp
theorem Trc.fr(h:Trc I H xs fp)(k:FrS W H H')(hd:Dj W fp):Trc I H' xs fp:=
 ⟨h.lt.fr k,k.wf,λW' H2 k2 d2=>h.is (W++W') H2 (FrS.step h.wf (k.mono λt ht=>YC _ ht) (k2.mono λt ht=>YS _ ht) Inn.self)
  λt ht hb=>(List.mem_append.1 ht).elim (λq=>hd t q hb) (λq=>d2 t q hb)⟩
theorem Trc.ext(h:Trc I H xs fp)(k:Ext H H'):Trc I H' xs fp:=h.fr (k.frS []) Dj.nil_l
theorem Trc.at(h:Trc I H xs fp):I H xs fp:=h.is [] H (.refl h.wf) Dj.nil_l
def Yld(P:Program)(l:Nat)(ok:List E->Bool)(encs:E->Array Value)(I:AH->List E->Fp->Prop):Prop:=
 ∀H xs fp x,WF H->ok (xs++[x])=true->I H xs fp->AYields P l (encs x) H λv H'=>v=.bool true/\∃fp',FrS fp H H'/\Trc I H' (xs++[x]) fp'/\Inn fp H fp'
def Zej{σ:Type}(f:E->σ->Option σ)(s:σ):List E->Option σ
 | []=>some s
 | x::l=>(f x s).bind λs=>Zej f s l
theorem ZlX{σ:Type}{f:E->σ->Option σ}{s t:σ}{l:List E}{x:E}(h:Zej f s l=some t):Zej f s (l++[x])=f x t:=by
 induction l generalizing s with
 | nil=>cases h;simp only[List.nil_append,Zej];cases f x t <;> rfl
 | cons y l ih =>
  simp only[Zej,List.cons_append]at h ⊢;cases hf:f y s with
  | none=>rw[hf]at h;cases h
  | some u=>rw[hf]at h;simp only[Yk]at h ⊢;exact ih h
theorem Dj.appL{a b c:Fp}(h:Dj a (b++c)):Dj a b:=λt ht hb=>h t ht (YC _ hb)
theorem Dj.appR{a b c:Fp}(h:Dj a (b++c)):Dj a c:=λt ht hb=>h t ht (YS _ hb)
theorem Inn.off{W f:List Nat}{H:AH}(h:∀t∈f,t∈W∨H.next≤t)(d:Dj W f):Inn [] H f:=λt ht=>(h t ht).elim (λhw=>absurd ht (d t hw)) .inr
end Go.Vd
