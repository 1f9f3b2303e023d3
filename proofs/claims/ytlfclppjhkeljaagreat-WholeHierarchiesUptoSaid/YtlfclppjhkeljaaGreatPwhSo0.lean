/- Texts. -/
import Derived.Test.YtlfclppjhkeljaaGreatPwhVpA
set_option linter.all false
namespace Go.Vd
def Zd6(R:List Int)(a b:Int×Int×Int):Option Int:=if 0≤a.1/\a.1<(R.length:Int)/\0≤b.1/\b.1<(R.length:Int) then some (if gt R a.1<gt R b.1 then -1 else if gt R a.1>gt R b.1 then 1 else 0) else none
structure SortOk{E:Type}(c:E->E->Option Int):Prop where
 ans:∀x y,∃r,c x y=some r
 irr:∀x,¬(c x x).getD 0<0
 trn:∀x y z,(c x y).getD 0<0->(c y z).getD 0<0->(c x z).getD 0<0
 ntr:∀x y z,¬(c x y).getD 0<0->¬(c y z).getD 0<0->¬(c x z).getD 0<0
 tot:∀x y,¬(c x y).getD 0<0->¬(c y x).getD 0<0->x=y
def Zah{E:Type}(c:E->E->Option Int)(xs:List E):List E:=xs.mergeSort λx y => !decide ((c y x).getD 0<0)
structure SortOn{E:Type}(c:E->E->Option Int)(l:List E):Prop where
 ans:∀x∈l,∀y∈l,∃r,c x y=some r
 irr:∀x∈l,¬(c x x).getD 0<0
 trn:∀x∈l,∀y∈l,∀z∈l,(c x y).getD 0<0->(c y z).getD 0<0->(c x z).getD 0<0
 ntr:∀x∈l,∀y∈l,∀z∈l,¬(c x y).getD 0<0->¬(c y z).getD 0<0->¬(c x z).getD 0<0
 tot:∀x∈l,∀y∈l,¬(c x y).getD 0<0->¬(c y x).getD 0<0->x=y
theorem SortOk.on{E:Type}{c:E->E->Option Int}(h:SortOk c)(l:List E):SortOn c l:=
 ⟨λx _ y _=>h.ans x y,λx _=>h.irr x,λx _ y _ z _=>h.trn x y z,λx _ y _ z _=>h.ntr x y z,λx _ y _=>h.tot x y⟩
theorem SortOn.sub{E:Type}{c:E->E->Option Int}{l:List E}(h:SortOn c l):SortOk λ(x y:{x // x∈l})=>c x.1 y.1:=
 ⟨λx y=>h.ans x.1 x.2 y.1 y.2,λx=>h.irr x.1 x.2,λx y z=>h.trn x.1 x.2 y.1 y.2 z.1 z.2,λx y z=>h.ntr x.1 x.2 y.1 y.2 z.1 z.2,λx y a b=>Subtype.ext (h.tot x.1 x.2 y.1 y.2 a b)⟩
open Classical in
noncomputable def ZeS{E:Type}(c:E->E->Option Int)(xs:List E):Option (List E):=if SortOn c xs then some (Zah c xs) else none
theorem Zmc{E:Type}{c:E->E->Option Int}{xs ys:List E}(h:ZeS c xs=some ys):SortOn c xs/\ys=Zah c xs:=by
 unfold ZeS at h;split at h
 ·cases h;exact⟨by assumption,rfl⟩
 ·cases h
theorem Ziz{E:Type}{c:E->E->Option Int}{xs:List E}(h:SortOn c xs):ZeS c xs=some (Zah c xs):=by
 unfold ZeS;rw[if_pos h]
theorem ZnK{E:Type}{c:E->E->Option Int}(h:SortOk c)(xs:List E):ZeS c xs=some (Zah c xs):=Ziz (h.on xs)
theorem Zh1{E:Type}{c:E->E->Option Int}{xs:List E}:(Zah (λ(x y:{x // x∈xs})=>c x.1 y.1) xs.attach).map Subtype.val=Zah c xs:=by
 unfold Zah;rw[List.map_mergeSort (s:=λx y => !decide ((c y x).getD 0<0)) (λa _ b _=>rfl),List.attach_map_subtype_val]
theorem Zd4{E:Type}(c:E->E->Option Int)(xs:List E):(Zah c xs).Perm xs:=List.mergeSort_perm _ _
theorem Zh3{E:Type}{c:E->E->Option Int}(h:SortOk c)(xs:List E):(Zah c xs).Pairwise λx y=>¬(c y x).getD 0<0:=by
 have:=List.pairwise_mergeSort (le:=λx y => !decide ((c y x).getD 0<0)) (λa b d h1 h2=>by
  simp only[Bool.not_eq_true',decide_eq_false_iff_not]at *
  exact h.ntr _ _ _ h2 h1) (λa b=>by
  simp only[Bool.or_eq_true,Bool.not_eq_true',decide_eq_false_iff_not];by_cases k:(c b a).getD 0<0
  ·exact .inr λk2=>h.irr _ (h.trn _ _ _ k k2)
  ·exact .inl k) xs
 exact this.imp λh=>by simpa using h
theorem Zjp{E:Type}{c:E->E->Option Int}{xs:List E}(h:SortOn c xs):(Zah c xs).Pairwise λx y=>¬(c y x).getD 0<0:=by
 rw[← Zh1];exact List.pairwise_map.2 (Zh3 h.sub xs.attach)
end Go.Vd
