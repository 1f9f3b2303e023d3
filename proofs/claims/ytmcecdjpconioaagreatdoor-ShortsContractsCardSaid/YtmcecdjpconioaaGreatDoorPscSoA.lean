/-
 slices.SortFunc at a slice of arcs, on the abstract heap.
-/
import Derived.Test.YtmcecdjpconioaaGreatDoorPscVeC
import Derived.Test.YtmcecdjpconioaaGreatDoorPscSo0
import Derived.Shelf.SlSortCmp.NoneTotal
set_option linter.unusedVariables false
set_option linter.unusedSimpArgs false
set_option linter.unusedSectionVars false
set_option maxRecDepth 100000
namespace Go.Proofs
open Go.Shelf Go.RowKit Go.Lib Go.Sort
def Tryz.sortArc_ren : Go.Shelf.Ren := ⟨fun | 6 => 59 | 15 => 78 | 14 => 77 | 28 => 97 | 29 => 98 | 20 => 89 | 21 => 90 | 22 => 91 | 23 => 92 | 24 => 93 | 25 => 94 | 26 => 95 | 27 => 96 | 46 => 105 | 47 => 106 | 48 => 107 | 49 => 108 | 50 => 109 | 57 => 113 | n => n, fun | 22 => 22 | 24 => 106 | 25 => 142 | 3 => 3 | 39 => 179 | 0 => 0 | 53 => 209 | 55 => 61 | 4 => 4 | 46 => 203 | 45 => 202 | 50 => 150 | 5 => 5 | 9 => 9 | 66 => 214 | 70 => 218 | 76 => 226 | 77 => 110 | n => n, fun | n => n⟩
theorem Tryz.sortArc : Go.Proofs.SlLaysF0.n6 Tryz.prog Tryz.sortArc_ren where
 mixed := by kernel_rfl
 f6 := ⟨Tryz.f59.name, by kernel_rfl, Tryz.func59.trans (congrArg some (by kernel_rfl))⟩
 f14 := ⟨Tryz.f77.name, by kernel_rfl, Tryz.func77.trans (congrArg some (by kernel_rfl))⟩
 f15 := Tryz.func78.trans (congrArg some (by kernel_rfl))
 f20 := ⟨Tryz.f89.name, by kernel_rfl, Tryz.func89.trans (congrArg some (by kernel_rfl))⟩
 f21 := ⟨Tryz.f90.name, by kernel_rfl, Tryz.func90.trans (congrArg some (by kernel_rfl))⟩
 f22 := ⟨Tryz.f91.name, by kernel_rfl, Tryz.func91.trans (congrArg some (by kernel_rfl))⟩
 f23 := ⟨Tryz.f92.name, by kernel_rfl, Tryz.func92.trans (congrArg some (by kernel_rfl))⟩
 f24 := ⟨Tryz.f93.name, by kernel_rfl, Tryz.func93.trans (congrArg some (by kernel_rfl))⟩
 f25 := ⟨Tryz.f94.name, by kernel_rfl, Tryz.func94.trans (congrArg some (by kernel_rfl))⟩
 f26 := ⟨Tryz.f95.name, by kernel_rfl, Tryz.func95.trans (congrArg some (by kernel_rfl))⟩
 f27 := ⟨Tryz.f96.name, by kernel_rfl, Tryz.func96.trans (congrArg some (by kernel_rfl))⟩
 f28 := Tryz.func97.trans (congrArg some (by kernel_rfl))
 f29 := Tryz.func98.trans (congrArg some (by kernel_rfl))
 f46 := ⟨Tryz.f105.name, by kernel_rfl, Tryz.func105.trans (congrArg some (by kernel_rfl))⟩
 f47 := Tryz.func106.trans (congrArg some (by kernel_rfl))
 f48 := Tryz.func107.trans (congrArg some (by kernel_rfl))
 f49 := ⟨Tryz.f108.name, by kernel_rfl, Tryz.func108.trans (congrArg some (by kernel_rfl))⟩
 f50 := ⟨Tryz.f109.name, by kernel_rfl, Tryz.func109.trans (congrArg some (by kernel_rfl))⟩
 f57 := ⟨Tryz.f113.name, by kernel_rfl, Tryz.func113.trans (congrArg some (by kernel_rfl))⟩
 t0 := Tryz.underlying0
 a0 := Tryz.isAgg0
 z0 := Tryz.sizeOf0
 v0 := Tryz.zeroValue0
 t3 := Tryz.underlying3
 a3 := Tryz.isAgg3
 z3 := Tryz.sizeOf3
 v3 := Tryz.zeroValue3
 t4 := Tryz.underlying4
 a4 := Tryz.isAgg4
 z4 := Tryz.sizeOf4
 v4 := Tryz.zeroValue4
 t5 := Tryz.underlying5
 a5 := Tryz.isAgg5
 z5 := Tryz.sizeOf5
 v5 := Tryz.zeroValue5
 t9 := Tryz.underlying9
 a9 := Tryz.isAgg9
 z9 := Tryz.sizeOf9
 v9 := Tryz.zeroValue9
 t22 := Tryz.underlying22
 a22 := Tryz.isAgg22
 z22 := Tryz.sizeOf22
 v22 := Tryz.zeroValue22
 t25 := Tryz.underlying142
 a25 := Tryz.isAgg142
 z25 := Tryz.sizeOf142
 v25 := Tryz.zeroValue142
 t39 := Tryz.underlying179
 a39 := Tryz.isAgg179
 z39 := Tryz.sizeOf179
 v39 := Tryz.zeroValue179
 t45 := Tryz.underlying202
 a45 := Tryz.isAgg202
 z45 := Tryz.sizeOf202
 v45 := Tryz.zeroValue202
 t46 := Tryz.underlying203
 a46 := Tryz.isAgg203
 z46 := Tryz.sizeOf203
 v46 := Tryz.zeroValue203
 t50 := Tryz.underlying150
 a50 := Tryz.isAgg150
 z50 := Tryz.sizeOf150
 v50 := Tryz.zeroValue150
 t53 := Tryz.underlying209
 a53 := Tryz.isAgg209
 z53 := Tryz.sizeOf209
 v53 := Tryz.zeroValue209
 t55 := Tryz.underlying61
 a55 := Tryz.isAgg61
 z55 := Tryz.sizeOf61
 v55 := Tryz.zeroValue61
 t66 := Tryz.underlying214
 a66 := Tryz.isAgg214
 z66 := Tryz.sizeOf214
 v66 := Tryz.zeroValue214
 t70 := Tryz.underlying218
 a70 := Tryz.isAgg218
 z70 := Tryz.sizeOf218
 v70 := Tryz.zeroValue218
 t76 := Tryz.underlying226
 a76 := Tryz.isAgg226
 z76 := Tryz.sizeOf226
 v76 := Tryz.zeroValue226
 t77 := Tryz.underlying110
 a77 := Tryz.isAgg110
 z77 := Tryz.sizeOf110
 v77 := Tryz.zeroValue110
theorem Tryz.isAggArc : ∀ w, (isAgg 106).run Tryz.prog w = .ok true w := by
 intro w
 kernel_rfl
theorem Tryz.sizeOfArc : ∀ w, (Go.sizeOf 106).run Tryz.prog w = .ok 3 w := by
 intro w
 kernel_rfl
end Go.Proofs
namespace Go.Vd
open Go.Proofs Go.Sort Go.RowKit
def Zie : AH := ⟨fun _ => none, 0⟩
theorem Znz : WF Zie := ⟨fun _ _ => rfl, fun b => by simp [ZG, Zie]⟩
theorem Zjh (w : World) (os : Array Obj) (k : Nat) (h : k < w.heap.size) : (Go.Sort.grow w os).heap[k]? = w.heap[k]? := by
 show (w.heap ++ os)[k]? = _
 rw [Array.getElem?_append_left h]
theorem Zis (w : World) (os : Array Obj) : (Go.Sort.grow w os).heap.size = w.heap.size + os.size := by
 show (w.heap ++ os).size = _
 rw [Array.size_append]
theorem Keep.growS (μ : Mu) (H : AH) (w : World) (os : Array Obj) : Keep μ μ H H w (Go.Sort.grow w os) :=
 ⟨.refl μ, Nat.le_refl _, rfl, rfl, rfl, Nat.le_refl _, by rw [Zis]; omega, fun k hk _ => Zjh _ _ _ hk, fun _ _ h => ⟨h, .inl rfl⟩, fun _ _ h => h, fun b p h h0 => by rw [h0] at h; cases h⟩
theorem Rel.growS {μ : Mu} {H : AH} {w : World} (h : Rel μ H w) (os : Array Obj) : Rel μ H (Go.Sort.grow w os) := by
 refine ⟨fun b p e => ⟨(h.lt b p e).1, ?_⟩, fun b p e => ?_, h.apart, h.fresh, h.pin.keep (Keep.growS μ H w os)⟩
 ·rw [Zis]; have := (h.lt b p e).2; omega
 ·obtain ⟨ob, g1, g2⟩ := h.ok b p e
  exact ⟨ob, g1, g2.congr (.refl _) (Zjh _ _ _ (h.lt b p e).2)⟩
theorem ZiS {μ' : Mu} {H' : AH} {w w' : World} (k : Keep (fun _ => none) μ' Zie H' w w') : ∃ q os, w' = Go.Sort.grow (w.drewN q) os := by
 refine ⟨w'.drawn - w.drawn, w'.heap.extract w.heap.size w'.heap.size, ?_⟩
 have hb : ∀ i, i < w.heap.size → w'.heap[i]? = w.heap[i]? := fun i hi => k.block i hi fun b p e => by cases e
 have hs := k.size
 have hh : w'.heap = w.heap ++ w'.heap.extract w.heap.size w'.heap.size := by
  apply Array.ext_getElem?
  intro i
  by_cases hi : i < w.heap.size
  ·rw [Array.getElem?_append_left hi, hb i hi]
  ·rw [Array.getElem?_append_right (by omega), Array.getElem?_extract]
   by_cases h2 : i < w'.heap.size
   ·rw [if_pos (by omega)]
    congr 1; omega
   ·rw [if_neg (by omega), Array.getElem?_eq_none (by omega)]
 have hd := k.drw
 obtain ⟨h1, t1, d1, o1, u1⟩ := w'
 obtain ⟨h2, t2, d2, o2, u2⟩ := w
 have e1 := k.os; have e2 := k.tape; have e3 := k.output
 dsimp only at *
 subst e1; subst e2; subst e3
 show _ = World.mk _ _ _ _ _
 congr 1
 show d1 = d2 + (d1 - d2)
 omega
section
variable {E : Type} [Inhabited E] {enc : E → List Value} {H : AH} {s : Value} {xs ys : List E} {fp : Fp}
theorem Zhy (hk : ∀ x, (enc x).length = 3) (l : List E) : (flatK enc 3 l.toArray).toList = l.flatMap enc := by
 apply List.ext_getElem?
 intro t
 have hl : (l.flatMap enc).length = l.length * 3 := ZaB (fun x _ => hk x)
 by_cases ht : t < l.length * 3
 ·have hq : t / 3 < l.length := by omega
  have h1 := get_flatK enc 3 l.toArray t (by simpa using ht)
  have hsz : t < (flatK enc 3 l.toArray).size := by simpa using ht
  rw [getElem!_pos (flatK enc 3 l.toArray) t hsz] at h1
  rw [Array.getElem?_toList, Array.getElem?_eq_getElem hsz, h1]
  have h2 := ZbS (enc := enc) (sz := 3) (xs := l) (fun x _ => hk x) (i := t / 3) (x := l[t / 3]) (List.getElem?_eq_getElem hq) (j := t % 3) (Nat.mod_lt _ (by decide))
  rw [show t / 3 * 3 + t % 3 = t from by omega] at h2
  rw [h2]
  have hd : l.toArray[t / 3]! = l[t / 3] := by
   rw [getElem!_pos l.toArray (t / 3) (by simpa using hq)]; simp
  rw [hd]
  have h3 : t % 3 < (enc l[t / 3]).length := by rw [hk]; exact Nat.mod_lt _ (by decide)
  rw [List.getElem?_eq_getElem h3, getElem!_pos (enc l[t / 3]) (t % 3) h3]
 ·rw [List.getElem?_eq_none (l := l.flatMap enc) (by omega), Array.getElem?_toList, Array.getElem?_eq_none (by rw [size_flatK]; simp; omega)]
theorem ZmK {μ : Mu} {g : Nat} {v' : Value} (h : VRel μ (.func (.func g) #[] #[]) v') : v' = .func (.func g) #[] #[] := by
 cases h with
 | func _ _ a' _ c' h1 _ h2 _ =>
  have e1 : a' = #[] := Array.eq_empty_of_size_eq_zero (by simpa using h1.symm)
  have e2 : c' = #[] := Array.eq_empty_of_size_eq_zero (by simpa using h2.symm)
  rw [e1, e2]
theorem two' {μ : Mu} {a b : Value} {args' : Array Value} (h : ARel μ #[a, b] args') : ∃ a' b', args' = #[a', b'] ∧ VRel μ a a' ∧ VRel μ b b' := by
 have hl := ARel.toList.1 h
 obtain ⟨h1, h2⟩ := hl
 match args', h1, h2 with
 | ⟨[x, y]⟩, _, h2 => exact ⟨x, y, rfl, h2 0 a x rfl rfl, h2 1 b y rfl rfl⟩
theorem ZhR {μ : Mu} {l : List Value} (h : ∀ v ∈ l, plain v = true) : ARel μ l.toArray l.toArray := by
 rw [ARel.toList]
 refine ⟨rfl, fun i a b hx hy => ?_⟩
 rw [hx] at hy; cases hy
 exact ZaI _ (h a (List.mem_of_getElem? (by simpa using hx)))
theorem Zmn {μ : Mu} {x y : E} (hp : ∀ x, ∀ v ∈ enc x, plain v = true) : ARel μ #[.agg (enc x).toArray, .agg (enc y).toArray] #[.agg (enc x).toArray, .agg (enc y).toArray] := by
 have h1 := ZhR (μ := μ) (hp x)
 have h2 := ZhR (μ := μ) (hp y)
 rw [ARel.toList]
 exact .cons (.agg _ _ h1.1 h1.2) (.cons (.agg _ _ h2.1 h2.2) .nil)
theorem Zks (hk : ∀ x, (enc x).length = 3) (h1 : ∀ x, ∀ v ∈ enc x, v.oneCell' = true) (hp : ∀ x, ∀ v ∈ enc x, plain v = true) {c : E → E → Option Int} {g : Nat} (eg : ∀ args w, (callFunc g args).run Tryz.prog w = .ok (.enter g args) w)
  (hc : ∀ x y r, c x y = some r → ACalls Tryz.prog g #[.agg (enc x).toArray, .agg (enc y).toArray] Zie fun v _ => v = .int .i64 r) (hw : WF H) (h : Ow enc 3 H s xs fp) (hl : xs.length ≤ 1000000000000) (ok' : xs ≠ [] → SortOk c) :
  ACalls Tryz.prog 59 #[s, .func (.func g) #[] #[]] H fun v H' => v = .tuple #[] ∧ FrS fp H H' ∧ Ow enc 3 H' s (Zaq c xs) fp := by
 intro μ w args' hr ha
 obtain ⟨s', f', rfl, hs, hf⟩ := two' ha
 obtain rfl := ZmK hf
 have none' : ∀ (p : Option Addr) (cap : Nat), xs = [] → s' = .slice p 0 cap → Calls Tryz.prog 59 #[s', .func (.func g) #[] #[]] w fun e w' => ∃ v v' H' μ', e = .returned v' ∧ (v = .tuple #[] ∧ FrS fp H H' ∧ Ow enc 3 H' s (Zaq c xs) fp) ∧ VRel μ' v v' ∧ Rel μ' H' w' ∧ Keep μ μ' H H' w w' := by
  intro p cap hx he
  subst he
  refine (AnyF.slices_SortFunc_none (P := Tryz.prog) { Tryz.sortArc with } p cap (.func (.func g) #[] #[]) w).mono ?_
  rintro _ _ ⟨rfl, rfl⟩
  subst hx
  exact ⟨_, _, H, μ, rfl, ⟨rfl, .refl hw, by simpa [Zaq] using h⟩, .tuple _ _ rfl (fun i => by simp; exact .nilIface), hr, .refl _ _ _⟩
 rcases h.is with ⟨hs0, hx⟩ | ⟨φ, hφ, hown⟩
 ·rcases hs0 with rfl | rfl
  ·cases hs; exact none' _ _ hx rfl
  ·cases hs with
   | void a => exact none' _ _ hx rfl
 rcases hown.is with ⟨rfl, hx⟩ | ⟨b, cp, k, cs, rfl, hb2, hg, hkd, hc1, hc2, hcell⟩
 ·cases hs; exact none' _ _ hx rfl
 by_cases hx0 : xs = []
 ·have hl0 : xs.length = 0 := by rw [hx0]; rfl
  rw [hl0] at hs
  cases hs with
  | slice _ _ _ _ _ hb => exact none' _ _ hx0 rfl
  | sliceEnd _ _ _ _ hb => exact none' _ _ hx0 rfl
 have ok := ok' hx0
 have hpos : 0 < xs.length := List.length_pos_iff.2 hx0
 have hsl : ∃ p, μ b = some p ∧ s' = .slice (some ⟨p.blk, p.off, none⟩) xs.length (cp + p.exs) := by
  generalize hn : xs.length = n at hs hpos
  cases hs with
  | slice _ _ _ _ p hb => exact ⟨p, hb, by simp⟩
  | sliceEnd _ _ _ p hb => omega
 obtain ⟨p, hb, rfl⟩ := hsl
 obtain ⟨ob, g1, g2⟩ := hr.ok b p hb
 rw [hg] at g1; cases g1
 have g2' := g2
 obtain ⟨⟨cm, ty, fr, k1, k2, k3, k4⟩, k5, k6⟩ := g2
 have hro : k ≠ .ro := by rcases hkd with ⟨rfl, _⟩ | rfl <;> simp
 have hfr := k3 hro
 subst hfr
 have hblk := (hr.lt b p hb).2
 -- the cells
 have hfl : (xs.flatMap enc).length = xs.length * 3 := ZaB (fun x _ => hk x)
 have cells : ∀ t, t < xs.length * 3 → cm[p.off + t]? = (xs.flatMap enc)[t]? := by
  intro t ht
  have hq : t / 3 < xs.length := by omega
  have e1 := hcell (t / 3) xs[t / 3] (List.getElem?_eq_getElem hq) (t % 3) (Nat.mod_lt _ (by decide))
  have e2 := ZbS (enc := enc) (sz := 3) (xs := xs) (fun x _ => hk x) (i := t / 3) (x := xs[t / 3]) (List.getElem?_eq_getElem hq) (j := t % 3) (Nat.mod_lt _ (by decide))
  rw [show t / 3 * 3 + t % 3 = t from by omega] at e1 e2
  have h3 : t % 3 < (enc xs[t / 3]).length := by rw [hk]; exact Nat.mod_lt _ (by decide)
  rw [List.getElem?_eq_getElem h3] at e1
  obtain ⟨v', a1, a2⟩ := k4 t _ e1
  rw [Ze2 (hp _ _ (List.getElem_mem h3)) a2] at a1
  rw [a1, e2, List.getElem?_eq_getElem h3]
 have hH : HoldsK enc 3 w p.blk p.off xs.toArray := by
  intro t ht
  have ht' : t < xs.length * 3 := by simpa using ht
  have e := Zhy (enc := enc) hk xs
  have hsz : t < (flatK enc 3 xs.toArray).size := by simpa using ht'
  have e3 : (flatK enc 3 xs.toArray)[t]? = (xs.flatMap enc)[t]? := by rw [← e, Array.getElem?_toList]
  have e4 : (flatK enc 3 xs.toArray)[t]! = (flatK enc 3 xs.toArray)[t] := getElem!_pos (flatK enc 3 xs.toArray) t hsz
  rw [Array.getElem?_eq_getElem hsz] at e3
  refine ⟨?_, ?_⟩
  ·simp only [World.cell?, k1]
   rw [if_neg (by simp), cells t ht', ← e3, e4]; rfl
  ·simp [World.frozen?, k1]
 -- the comparison
 let cf : E → E → Int := fun x y => (c x y).getD 0
 have hlt : ∀ x y, ltOf cf x y = decide ((c x y).getD 0 < 0) := fun x y => rfl
 have hO : SWO (ltOf cf) :=
  { irrefl := fun x => by rw [hlt]; exact decide_eq_false (ok.irr x)
    trans := fun x y z h1 h2 => by rw [hlt] at *; exact decide_eq_true (ok.trn x y z (of_decide_eq_true h1) (of_decide_eq_true h2))
    ntrans := fun x y z h1 h2 => by rw [hlt] at *; exact decide_eq_false (ok.ntr x y z (of_decide_eq_false h1) (of_decide_eq_false h2)) }
 have hT : ∀ x y, ltOf cf x y = false → ltOf cf y x = false → x = y := fun x y h1 h2 => by rw [hlt] at *; exact ok.tot x y (of_decide_eq_false h1) (of_decide_eq_false h2)
 have hne0 : ∀ v, Zf5 = some v → p.blk ≠ 0 := fun v hv h0 => by
  obtain ⟨cs', hcs'⟩ := (hr.pin.1 v hv).2 b p hb h0
  rw [hg] at hcs'
  cases hcs'
  exact hro rfl
 have hcmp : CmpLays Tryz.prog g #[] enc 3 cf p.blk p.off xs.toArray.size w := by
  intro m os dk hdk x y
  obtain ⟨r, hr1⟩ := ok.ans x y
  have hnil : Rel (fun _ => none) Zie (sortWorldK enc 3 w p.blk p.off m dk os) := ⟨fun b p e => (by cases e), fun b p e => (by cases e), fun b b' p p' o o' e => (by cases e), fun b _ => rfl, ⟨fun v hv => ⟨?_, fun b p e => (by cases e)⟩, fun _ _ h => (by cases h), fun _ _ h => (by cases h)⟩⟩
  ·have hcall := hc x y r hr1 (fun _ => none) _ _ hnil (Zmn hp)
   simp only [Array.append_empty]
   refine hcall.mono ?_
   rintro e w' ⟨v, v', H', μ', rfl, rfl, hv, _, hk⟩
   cases hv
   exact ⟨by show _ = Ending.returned (.int .i64 ((c x y).getD 0)); rw [hr1]; rfl, ZiS hk⟩
  ·obtain ⟨⟨c0, ty0, fr0, z1, z2⟩, _⟩ := hr.pin.1 v hv
   have hcell0 : w.cell? ⟨0, 0, none⟩ = some v := by simp [World.cell?, z1, z2]
   have h0 : 0 < w.heap.size := (Array.getElem?_eq_some_iff.1 z1).1
   have : (sortWorldK enc 3 w p.blk p.off m dk os).cell? ⟨0, 0, none⟩ = some v := by
    unfold sortWorldK
    rw [cell?_grow _ _ _ (by show 0 < (putRowK enc 3 _ p.blk p.off dk).heap.size; rw [size_putRowK]; exact h0), cell?_putRowK_other _ _ _ _ _ _ _ (fun e => hne0 v hv e.symm)]
    exact hcell0
   generalize sortWorldK enc 3 w p.blk p.off m dk os = W at this
   unfold World.cell? at this
   split at this
   ·rename_i c1 t1 f1 hh
    exact ⟨c1, t1, f1, hh, by simpa using this⟩
   ·cases this
 have hcon := AnyQ.slices_SortFunc_total (P := Tryz.prog) { Tryz.sortArc with } 3 Tryz.isAggArc Tryz.sizeOfArc enc hk h1 cf hO g #[] p.blk p.off (cp + p.exs) xs.toArray w eg hcmp hH hblk (by simp; omega) hT
 change Calls Tryz.prog 59 _ _ _ at hcon
 simp only [List.size_toArray] at hcon
 refine hcon.mono ?_
 rintro _ _ ⟨rfl, n, os, rfl⟩
 have hsorted : (xs.mergeSort fun x y => !(ltOf cf) y x) = Zaq c xs := rfl
 have hperm : (Zaq c xs).length = xs.length := (ZhO c xs).length_eq
 -- the stores
 have hfl2 : ((Zaq c xs).flatMap enc).length = xs.length * 3 := by rw [ZaB (sz := 3) (fun x _ => hk x), hperm]
 have hr1 := hr.drawn (w.drawn + n)
 obtain ⟨H', q1, q2, q3, q4⟩ := Zfe (o := 0) (vs := (Zaq c xs).flatMap enc) (φ := φ) (sz := 3) hw hb2 hg hkd (by omega)
 obtain ⟨w2, s1, s2, s3⟩ := hr1.puts hb q1 (vs' := (Zaq c xs).flatMap enc) ⟨rfl, fun i a b hx hy => by
   rw [hx] at hy; cases hy
   obtain ⟨x, _, hm⟩ := List.mem_flatMap.1 (List.mem_of_getElem? hx)
   exact ZaI _ (hp x a hm)⟩ (fun v hv => by obtain ⟨x, _, hm⟩ := List.mem_flatMap.1 hv; exact h1 x v hm) Tryz.prog
 have hH1 : HoldsK enc 3 (Sort.ahead w n) p.blk p.off xs.toArray := holdsK_ahead enc 3 w n p.blk p.off _ hH
 have hst : (storeCells ⟨p.blk, p.off + 0, none⟩ ((Zaq c xs).flatMap enc)).run Tryz.prog (Sort.ahead w n) = .ok () ((Sort.ahead w n).setCells p.blk (p.off + 0) ((Zaq c xs).flatMap enc)) :=
  stores_of_holds Tryz.prog hH1 0 _ (by rw [hfl2, size_flatK]; simp) (fun v hv => by obtain ⟨x, _, hm⟩ := List.mem_flatMap.1 hv; exact h1 x v hm)
 have hw2 : w2 = (Sort.ahead w n).setCells p.blk (p.off + 0) ((Zaq c xs).flatMap enc) := by
  have : (.ok () w2 : Result Unit) = .ok () ((Sort.ahead w n).setCells p.blk (p.off + 0) ((Zaq c xs).flatMap enc)) := s1.symm.trans hst
  cases this; rfl
 have hput : (Sort.ahead w n).setCells p.blk (p.off + 0) ((Zaq c xs).flatMap enc) = putRowK enc 3 (Sort.ahead w n) p.blk p.off (Zaq c xs).toArray := by
  conv => lhs; rw [← putRowK_self enc 3 (Sort.ahead w n) p.blk p.off xs.toArray hH1]
  unfold putRowK
  rw [setCells_putRow _ _ _ _ _ _ (by rw [hfl2, size_flatK]; simp)]
  congr 1
  apply Array.ext_getElem?
  intro t
  by_cases ht : t < xs.length * 3
  ·have z1 : t < (setMany (flatK enc 3 xs.toArray) 0 ((Zaq c xs).flatMap enc)).size := by simpa using ht
   have z2 : t < (flatK enc 3 (Zaq c xs).toArray).size := by simp [hperm]; exact ht
   have e1 := get_setMany ((Zaq c xs).flatMap enc) 0 (flatK enc 3 xs.toArray) t (by simpa using ht)
   rw [if_pos (by omega), getElem!_pos (setMany (flatK enc 3 xs.toArray) 0 ((Zaq c xs).flatMap enc)) t z1, Nat.sub_zero, getElem!_pos ((Zaq c xs).flatMap enc) t (by omega)] at e1
   rw [Array.getElem?_eq_getElem z1, e1, ← Array.getElem?_toList, Zhy hk, List.getElem?_eq_getElem (by omega)]
  ·rw [Array.getElem?_eq_none (by simp; omega), Array.getElem?_eq_none (by simp [hperm]; omega)]
 have hfin : sortWorldK enc 3 w p.blk p.off n (Zaq c xs).toArray os = Go.Sort.grow w2 os := by
  unfold sortWorldK; rw [hw2, hput]
 rw [hsorted, hfin]
 refine ⟨_, _, H', μ, rfl, ⟨rfl, q2.frS hφ, h.lt.le (Nat.le_of_eq q3.symm), h.pos, .inr ⟨φ, hφ, ?_⟩⟩, .tuple _ _ rfl (fun i => by simp; exact .nilIface), s2.growS os, ((Keep.drawn μ H w _ (Nat.le_add_right _ _)).trans s3).trans (Keep.growS _ _ _ _)⟩
 refine ⟨h.pos, fun x _ => hk x, fun x _ => List.all_eq_true.2 (h1 x), by rw [q3]; exact hown.lt, .inr ⟨b, cp, k, _, by rw [hperm], by rw [q3]; exact hb2, q4, hkd, by rw [hperm]; exact hc1, by rw [ZcE (by omega)]; exact hc2, ?_⟩⟩
 intro i x hx j hj
 have hi := (List.getElem?_eq_some_iff.1 hx).1
 have hm1 : (i + 1) * 3 ≤ xs.length * 3 := Nat.mul_le_mul_right _ (by omega)
 rw [Zel (by omega), if_neg (by omega), Nat.zero_add, if_pos (by omega), Nat.sub_zero]
 exact ZbS (enc := enc) (sz := 3) (fun x _ => hk x) hx hj
end
section
variable {E F : Type} [Inhabited E] {enc : E → List Value} {H : AH} {xs ys : List E} {s : Value} {fp : Fp} {sz : Nat}
theorem Ow.to_map {f : F → E} {l : List F} (h : Ow enc sz H s (l.map f) fp) : Ow (fun y => enc (f y)) sz H s l fp := by
 refine ⟨h.lt, h.pos, ?_⟩
 rcases h.is with ⟨hs, hx⟩ | ⟨φ, hφ, o⟩
 ·exact .inl ⟨hs, List.map_eq_nil_iff.1 hx⟩
 ·refine .inr ⟨φ, hφ, o.pos, fun y hy => o.len _ (List.mem_map_of_mem hy), fun y hy => o.one _ (List.mem_map_of_mem hy), o.lt, ?_⟩
  rcases o.is with ⟨h1, h2⟩ | ⟨b, c, k, cs, h1, h2, h3, h4, h5, h6, h7⟩
  ·exact .inl ⟨h1, List.map_eq_nil_iff.1 h2⟩
  ·rw [List.length_map] at h1 h5
   exact .inr ⟨b, c, k, cs, h1, h2, h3, h4, h5, h6, fun i y hy j hj => h7 i (f y) (by rw [List.getElem?_map, hy]; rfl) j hj⟩
theorem Ow.of_map {f : F → E} {l : List F} (h : Ow (fun y => enc (f y)) sz H s l fp) : Ow enc sz H s (l.map f) fp := by
 refine ⟨h.lt, h.pos, ?_⟩
 rcases h.is with ⟨hs, hx⟩ | ⟨φ, hφ, o⟩
 ·exact .inl ⟨hs, by rw [hx]; rfl⟩
 ·refine .inr ⟨φ, hφ, o.pos, fun x hx => ?_, fun x hx => ?_, o.lt, ?_⟩
  ·obtain ⟨y, hy, rfl⟩ := List.mem_map.1 hx; exact o.len y hy
  ·obtain ⟨y, hy, rfl⟩ := List.mem_map.1 hx; exact o.one y hy
  rcases o.is with ⟨h1, h2⟩ | ⟨b, c, k, cs, h1, h2, h3, h4, h5, h6, h7⟩
  ·exact .inl ⟨h1, by rw [h2]; rfl⟩
  ·refine .inr ⟨b, c, k, cs, by rw [List.length_map]; exact h1, h2, h3, h4, by rw [List.length_map]; exact h5, h6, fun i x hx j hj => ?_⟩
   rw [List.getElem?_map] at hx
   obtain ⟨y, hy, rfl⟩ := Option.map_eq_some_iff.1 hx
   exact h7 i y hy j hj
theorem ZnF (hk : ∀ x, (enc x).length = 3) (h1 : ∀ x, ∀ v ∈ enc x, v.oneCell' = true) (hp : ∀ x, ∀ v ∈ enc x, plain v = true) {c : E → E → Option Int} {g : Nat} (eg : ∀ args w, (callFunc g args).run Tryz.prog w = .ok (.enter g args) w)
  (hc : ∀ x y r, c x y = some r → ACalls Tryz.prog g #[.agg (enc x).toArray, .agg (enc y).toArray] Zie fun v _ => v = .int .i64 r) (hw : WF H) (h : Ow enc 3 H s xs fp) (hl : xs.length ≤ 1000000000000) (hy : Zfi c xs = some ys) :
  ACalls Tryz.prog 59 #[s, .func (.func g) #[] #[]] H fun v H' => v = .tuple #[] ∧ FrS fp H H' ∧ Ow enc 3 H' s ys fp := by
 obtain ⟨on, rfl⟩ := ZkC hy
 by_cases hx : xs = []
 ·exact Zks hk h1 hp eg hc hw h hl (fun k => absurd hx k)
 have hi : Inhabited {x // x ∈ xs} := ⟨⟨xs.head hx, List.head_mem hx⟩⟩
 have he : xs.attach.map Subtype.val = xs := List.attach_map_subtype_val xs
 have h' : Ow enc 3 H s (xs.attach.map Subtype.val) fp := by rw [he]; exact h
 have key := Zks (E := {x // x ∈ xs}) (enc := fun y => enc y.1) (c := fun x y => c x.1 y.1) (fun x => hk x.1) (fun x => h1 x.1) (fun x => hp x.1) eg (fun x y r hr => hc x.1 y.1 r hr) hw h'.to_map (by rw [List.length_attach]; exact hl) (fun _ => on.sub)
 refine key.mono ?_
 rintro v H' ⟨e1, e2, e3⟩
 refine ⟨e1, e2, ?_⟩
 have := e3.of_map (enc := enc) (f := Subtype.val)
 rwa [Zi9] at this
end
end Go.Vd
