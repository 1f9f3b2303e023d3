/- Texts. -/
import Derived.Test.YtlfclppjhkeljaaGreatPwhVpA
set_option linter.all false
open List renaming eq_nil_of_length_eq_zero→Yx
namespace Go.Vd
theorem ZoO{l:List Int}{i:Int}(h0:0≤i)(h1:i<(l.length:Int)):l.take (i+1).toNat=l.take i.toNat++[gt l i]:=by
 rw[show (i+1).toNat=i.toNat+1 from Xo,List.take_add_one,ZbG h0 h1];rfl
theorem Zoo{c:Int}{ps:Yf}(h:¬c=0∨0<(ps.length:Int)):decide (c≠0∨ps≠[])=true:=by
 apply decide_eq_true;rcases h with h|h
 ·exact .inl h
 ·right;rintro rfl;simp at h
theorem bad_f{c:Int}{ps:Yf}(h:c=0/\¬0<(ps.length:Int)):decide (c≠0∨ps≠[])=false:=by
 apply decide_eq_false;rintro (k|k)
 ·exact k h.1
 ·exact k (Yx Xo)
def ZiS(fi to wt:List Int)(v i:Int):Int:=
 if gt to i<0∨gt to i≥(fi.length:Int)-1 then 7
 else if gt to i=v∨(i>gt fi v/\gt to i≤gt to (i-1)) then 14
 else if gt wt i<0∨gt wt i>2147483647 then 8
 else 0
def Zi0(fi to wt:List Int):Prop:=0≤(fi.length:Int)-1/\gt fi 0=0/\gt fi ((fi.length:Int)-1)=(to.length:Int)/\(to.length:Int)=(wt.length:Int)
def Zke(fi to:List Int):Prop:=(fi.length:Int)-1≤65536/\(to.length:Int)≤262144
def Mono(fi:List Int)(n:Int):Prop:=∀u:Int,0≤u->u<n->gt fi u≤gt fi (u+1)
def In(fi:List Int)(v i:Int):Prop:=0≤v/\v<(fi.length:Int)-1/\gt fi v≤i/\i<gt fi (v+1)
inductive Chk(fi to wt:List Int):Er->Prop
 | shape:¬Zi0 fi to wt->Chk fi to wt (.no 14)
 | limit:Zi0 fi to wt->¬Zke fi to->Chk fi to wt (.no 9)
 | mono (v:Int):Zi0 fi to wt->Zke fi to->0≤v->v<(fi.length:Int)-1->gt fi (v+1)<gt fi v->Mono fi v->Chk fi to wt (.at 3 v (.no 14))
 | arc (v i:Int):Zi0 fi to wt->Zke fi to->Mono fi ((fi.length:Int)-1)->In fi v i->ZiS fi to wt v i≠0->(∀u j,In fi u j->j<i->ZiS fi to wt u j=0)->Chk fi to wt (.at 4 i (.no (ZiS fi to wt v i)))
 | ok:Zi0 fi to wt->Zke fi to->Mono fi ((fi.length:Int)-1)->(∀u j,In fi u j->ZiS fi to wt u j=0)->Chk fi to wt .nil
end Go.Vd
namespace Go.Vd
def Er.code:Er->Int
 | .nil=>0
 | .no n=>n
 | .at _ _ e=>e.code
def Er.pls:Er->Yf
 | .at k i e=>(k,i)::e.pls
 | _=>[]
def Rows(fi to wt:List Int)(v i:Int):Prop:=∀u j,In fi u j->(u<v∨(u=v/\j<i))->ZiS fi to wt u j=0
end Go.Vd
namespace Go.Vd
end Go.Vd
namespace Go.Vd
end Go.Vd
namespace Go.Vd
section
variable{fi to wt:List Int}(h:Chk fi to wt .nil)
include h
end
end Go.Vd
namespace Go.Vd
def Arcw(fi to wt:List Int)(v w x:Int):Prop:=∃i,In fi v i/\gt to i=w/\x=gt wt i
inductive WSum(fi to wt l:List Int):Int->Int->Prop
 | zero:WSum fi to wt l 0 0
 | step (k s x:Int):0≤k->WSum fi to wt l k s->Arcw fi to wt (gt l k) (gt l (k+1)) x->WSum fi to wt l (k+1) (s+x)
def ZlZ(fi l:List Int)(k:Int):Prop:=∀j:Int,0≤j->j<k->0≤gt l j/\gt l j<(fi.length:Int)-1
inductive Len(fi to wt l:List Int):Int->Er->Prop
 | bad (er:Er):Chk fi to wt er->er≠.nil->Len fi to wt l 0 er
 | missing:Chk fi to wt .nil->(l.length:Int)=0->Len fi to wt l 0 (.no 5)
 | node (i:Int):Chk fi to wt .nil->0≤i->i<(l.length:Int)->(gt l i<0∨gt l i≥(fi.length:Int)-1)->ZlZ fi l i->Len fi to wt l 0 (.at 3 i (.no 7))
 | nowalk (i s:Int):Chk fi to wt .nil->ZlZ fi l (l.length:Int)->0≤i->i<(l.length:Int)-1->WSum fi to wt l i s->(∀x,¬Arcw fi to wt (gt l i) (gt l (i+1)) x)->Len fi to wt l 0 (.at 4 i (.no 16))
 | ok (s:Int):Chk fi to wt .nil->ZlZ fi l (l.length:Int)->0<(l.length:Int)->WSum fi to wt l ((l.length:Int)-1) s->Len fi to wt l s .nil
end Go.Vd
namespace Go.Vd
end Go.Vd
namespace Go.Vd
end Go.Vd
