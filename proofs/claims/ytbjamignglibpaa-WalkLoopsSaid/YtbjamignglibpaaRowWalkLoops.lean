/-
  Whatever arrays and whatever list are handed in, viaductlaw09.WalkLoops returns true, and what was handed in reads as it did; the conditions are the row's own, no other.
-/
import Derived.Test.YtbjamignglibpaaRows
import Derived.Test.YtbjamignglibpaaKWl2
import Derived.Test.YtbjamignglibpaaPrWalkLoops
import Derived.Test.YtbjamignglibpaaVeE
import Derived.WalkKit
import Derived.ProofKit
import Derived.OpenShut
import Derived.ChangeOld
import Derived.Below
namespace Go.Proofs.Ytbjamignglibpaa
open Go.ChangeShapes Go.WideShapes Go.ChangeAt Go.RowKit Go.Vd
set_option linter.unusedVariables false

theorem own9 : ownKnob Try.prog.godebug = none := by kernel_rfl
theorem laidOut9 : laidOutB Try.prog = true := by kernel_rfl

theorem three {α : Type} {l : List α} {a b c : α} (h : l.length = 3) (h0 : (l.drop 0).take 1 = [a]) (h1 : (l.drop 1).take 1 = [b]) (h2 : (l.drop 2).take 1 = [c]) : l = [a, b, c] := by
  match l, h with
  | [x, y, z], _ => simp at h0 h1 h2; simp [h0, h1, h2]

theorem int_rd {Hd : Type} {enc : TypeId × Value → Hd} {W : World} (cs : List Value) (h : Rd enc Try.prog W 3 cs) : ∃ x : Int, cs = encI .i64 x ∧ (Lit.int .i64 x).wf = true := by
  obtain ⟨n, h1, h2⟩ := h.int Try.underlying3
  exact ⟨n, h1, h2⟩

theorem walkLoops_walk {Hd : Type} {enc : TypeId × Value → Hd} (W : World) (v0 v1 : Value) (k0 : ∃ cs, v0 = .agg cs ∧ cs.size = Try.prog.cellsOf 24) (k1 : ∃ a l c, v1 = .slice a l c)
    (r0 : Rd enc Try.prog W 24 v0.cells.toList) (r1 : Rd enc Try.prog W 22 v1.cells.toList) :
    Calls Try.prog 3 #[v0, v1] W fun e w' => e = .returned (.bool true) ∧ Below W.heap.size W w' := by
  obtain ⟨cs, rfl, hcs⟩ := k0
  obtain ⟨aa, ll, cc, rfl⟩ := k1
  obtain ⟨hl, hf⟩ := r0.struct Try.underlying24
  have hc22 : Try.prog.cellsOf 22 = 1 := by kernel_rfl
  have hc24 : Try.prog.cellsOf 24 = 3 := by kernel_rfl
  have hb3 : Try.prog.bytesOf 3 = 8 := by kernel_rfl
  have g0 : Rd enc Try.prog W 22 (((Value.agg cs).cells.toList.drop 0).take (Try.prog.cellsOf 22)) := hf 0 _ rfl
  obtain ⟨a, F, ea, sa⟩ := g0.slice (en := encI .i64) (sz := 1) Try.underlying22 (by kernel_rfl) (fun _ => rfl) int_rd
  have g1 : Rd enc Try.prog W 22 (((Value.agg cs).cells.toList.drop 1).take (Try.prog.cellsOf 22)) := hf 1 _ rfl
  obtain ⟨b, T', eb, sb⟩ := g1.slice (en := encI .i64) (sz := 1) Try.underlying22 (by kernel_rfl) (fun _ => rfl) int_rd
  have g2 : Rd enc Try.prog W 22 (((Value.agg cs).cells.toList.drop 2).take (Try.prog.cellsOf 22)) := hf 2 _ rfl
  obtain ⟨c, W', ec, sc⟩ := g2.slice (en := encI .i64) (sz := 1) Try.underlying22 (by kernel_rfl) (fun _ => rfl) int_rd
  obtain ⟨d, l, ed, sd⟩ := r1.slice (en := encI .i64) (sz := 1) Try.underlying22 (by kernel_rfl) (fun _ => rfl) int_rd
  rw [hc22] at ea eb ec
  rw [hc24] at hl
  have hcs' := three (l := (Value.agg cs).cells.toList) hl ea eb ec
  have hd : d = .slice aa ll cc := by
    have : (Value.slice aa ll cc).cells.toList = [.slice aa ll cc] := rfl
    rw [this] at ed; cases ed; rfl
  subst hd
  have hcs2 : cs = #[a, b, c] := by
    have : (Value.agg cs).cells = cs := rfl
    rw [this] at hcs'
    cases cs; simp_all
  subst hcs2
  obtain ⟨μ1, H1, a', fa, E1, x1, l1, va, qa⟩ := sa.ent (Ent.nil W) (by decide) (fun _ => rfl) (fun _ => rfl) (fun x u hu => by simp [encI] at hu; subst hu; rfl)
  obtain ⟨μ2, H2, b', fb, E2, x2, l2, vb, qb⟩ := sb.ent E1 (by decide) (fun _ => rfl) (fun _ => rfl) (fun x u hu => by simp [encI] at hu; subst hu; rfl)
  obtain ⟨μ3, H3, c', fc, E3, x3, l3, vc, qc⟩ := sc.ent E2 (by decide) (fun _ => rfl) (fun _ => rfl) (fun x u hu => by simp [encI] at hu; subst hu; rfl)
  obtain ⟨μ4, H4, d', fd, E4, x4, l4, vd, qd⟩ := sd.ent E3 (by decide) (fun _ => rfl) (fun _ => rfl) (fun x u hu => by simp [encI] at hu; subst hu; rfl)
  have hr : reachBytes = 140737488351232 := by decide
  have n1 := sa.len; have n2 := sb.len; have n3 := sc.len
  rw [hb3, hr] at n1 n2 n3
  have hp := p_WalkLoops (F := F) (T' := T') (W := W') (l := l) (by omega) (by omega) (by omega)
  have hw := c_viaductlaw09_WalkLoops E4.wf (((qa.ext x2).ext x3).ext x4) ((qb.ext x3).ext x4) (qc.ext x4) qd hp
  have hagg : ARel μ4 #[a', b', c'] #[a, b, c] := ARel.toList.2 (.cons (va.mono (l2.trans (l3.trans l4))) (.cons (vb.mono (l3.trans l4)) (.cons (vc.mono l4) .nil)))
  have harg : ARel μ4 #[.agg #[a', b', c'], d'] #[.agg #[a, b, c], .slice aa ll cc] := ARel.toList.2 (.cons (.agg _ _ hagg.1 hagg.2) (.cons vd .nil))
  exact calls_of_acalls (hw.mono fun v H' h => h.1) rfl E4.rel harg E4.ro

set_option maxRecDepth 100000 in
theorem walkLoops_lifted (os : Os) (started : os.Started) (H : Type) (enc : TypeId × Value → H) :
    ReturnsInHanded {} Try.checked os 3 .any (Rows.walkLoopsSpec.pre6 enc Try.prog Try.f3 Rows.walkLoopsRow.domain false) (Rows.walkLoopsSpec.post enc Try.prog Try.f3 false true false false) := by
  refine returnsInHanded_of_change_sized (C := Try.checked) own9 started (by kernel_rfl) Try.func3
    (ChangeSpec.witness6 (enc := enc) (C := Try.checked) false ⟨#[], #[.agg #[.slice none 0 0, .slice none 0 0, .slice none 0 0], .slice none 0 0], []⟩ 8 (by kernel_rfl) (by kernel_rfl) (by kernel_rfl) (by kernel_rfl)) ?_
  intro W base args ds gs before hval0 hW hcnd hsz _
  have hval : ∀ (j : Nat) t v, Try.f3.params[j]? = some t → args[j]? = some v → Value.okWide Try.prog W .any base t v := hval0
  have hW' := hW
  obtain ⟨p, q, hA0, hV, rfl, hfz, hnd⟩ := hW
  have hA : DataW.TrodAll enc Try.prog W 0 (fun _ => true) true Try.f3.params.toList args.toList ds p := hA0
  have hsz' : (DataW.weightsEach Try.prog (Try.f3.params.toList ++ Rows.walkLoopsSpec.plain.varTypes Try.prog) (ds ++ gs)).all (· ≤ reachBytes) = true := hsz
  rw [Try.params3] at hA hval hsz'
  obtain ⟨v0, vs0, d0, ds0, p0, q0, hargs, rfl, rfl, h0, r0⟩ := trodAll_cons hA
  obtain ⟨v1, vs1, d1, ds1, p1, q1, rfl, rfl, rfl, h1, r1⟩ := trodAll_cons r0
  obtain ⟨rfl, rfl, rfl⟩ := trodAll_nil r1
  obtain rfl : args = #[v0, v1] := by cases args; simp_all
  obtain ⟨rfl, rfl⟩ := trodVars_none hV
  have wt : ∀ (j : Nat) t d, (#[24, 22] : Array TypeId).toList[j]? = some t → [d0, d1][j]? = some d → ∀ n ∈ d.weights Try.prog t, n ≤ reachBytes := fun j t d ht hd n hn => by
    have hlt := (List.getElem?_eq_some_iff.1 ht).1
    have hltd := (List.getElem?_eq_some_iff.1 hd).1
    have := List.all_eq_true.1 hsz' n (DataW.weights_mem_each (j := j) (t := t) (d := d) (by rw [List.getElem?_append_left hlt]; exact ht) (by rw [List.getElem?_append_left hltd]; exact hd) n hn)
    simpa using this
  have lt0 : ∀ x ∈ p0, x.block < W.heap.size := by obtain ⟨m, hm⟩ := h0; exact DataW.trod_lt m _ _ _ hm
  have lt1 : ∀ x ∈ p1, x.block < W.heap.size := by obtain ⟨m, hm⟩ := h1; exact DataW.trod_lt m _ _ _ hm
  refine (walkLoops_walk (enc := enc) W v0 v1 (okWide_struct Try.underlying24 (hval 0 24 v0 rfl rfl)) (okWide_slice Try.underlying22 (hval 1 22 v1 rfl rfl)) (Rd.of h0 (wt 0 24 d0 rfl rfl)) (Rd.of h1 (wt 1 22 d1 rfl rfl))).mono fun e W' ⟨he, bel⟩ => ?_
  subst he
  exact ⟨_, rfl, _, _, _, [], _, [], hW', trodAll_mk1 (shut_bool Try.underlying4 _), (trodAll_cons_mk (Below.trod laidOut9 (by kernel_rfl) (of_decide_eq_true (by kernel_rfl)) h0 bel lt0) (trodAll_cons_mk (Below.trod laidOut9 (by kernel_rfl) (of_decide_eq_true (by kernel_rfl)) h1 bel lt1) trodAll_mk0)), rfl, bel.frame _, fun h => by cases h⟩

theorem walkLoops_holds : Rows.WalkLoopsSaid :=
  OpenClaim.holds_of_wide 3 Try.f3 rfl rfl rfl rfl rfl rfl rfl ⟨rfl, rfl, rfl, rfl, rfl⟩ rfl rfl rfl rfl rfl (by kernel_rfl) Try.func3 (by kernel_rfl)
    (of_decide_eq_true (by kernel_rfl)) (by unfold Func.isWrapper; first | (rw [if_pos (by decide +kernel)]; kernel_rfl) | (rw [if_neg (by decide +kernel)]; exact ⟨rfl, rfl⟩))
    (fun os started H enc _ => walkLoops_lifted os started H enc)
#print axioms walkLoops_holds
end Go.Proofs.Ytbjamignglibpaa
