/-
 errors.Is at no error at all, on the abstract heap.
-/
import Derived.Test.YtlfclppjhkeljaaGreatPwt1
import Derived.Test.YtlfclppjhkeljaaGreatChecked
import Derived.WalkKit
import Derived.LaidEql
import Derived.Stop.Asserts
import Derived.RowKitTokens
import Derived.Elder7
import Derived.Test.YtlfclppjhkeljaaGreatPwtVeC
set_option linter.unusedVariables false
set_option linter.unusedSimpArgs false
set_option linter.unusedSectionVars false
/-! (DrZ) -/

set_option linter.unusedVariables false
set_option linter.unusedSimpArgs false
namespace Go.Proofs.YtlfclppjhkeljaaGreat
open Go.RowKit Go.Extern.Stop Go.Stop Go.Extern
theorem Zlx (m : Int) (w : World) :
  Calls Tryz.prog 57 #[.nilIface, .iface 92 (.int .i64 m)] w fun e w' => e = .returned (.bool false) /\ w' = w := by
 have hn := run_eql_iface_nil_left (P := Tryz.prog) w 92 (.int .i64 m) Tryz.underlying33
 go_enter Tryz.func57, Tryz.ntmps57
 go_wp2
 go_ret
 exact ⟨rfl, rfl⟩
end Go.Proofs.YtlfclppjhkeljaaGreat
namespace Go.Vd
open Go.Proofs Go.Proofs.YtlfclppjhkeljaaGreat
theorem twoZ {μ : Mu} {a b : Value} {args' : Array Value} (h : ARel μ #[a, b] args') : ∃ a' b', args' = #[a', b'] /\ VRel μ a a' /\ VRel μ b b' := by
 have hl := ARel.toList.1 h
 obtain ⟨h1, h2⟩ := hl
 match args', h1, h2 with
 | ⟨[x, y]⟩, _, h2 => exact ⟨x, y, rfl, h2 0 a x rfl rfl, h2 1 b y rfl rfl⟩
theorem a_isZ {H : AH} {m : Int} : ACalls Tryz.prog 57 #[.nilIface, .iface 92 (.int .i64 m)] H fun v H' => v = .bool false /\ H = H' := by
 intro μ w args' hr ha
 obtain ⟨x, y, rfl, hx, hy⟩ := twoZ ha
 cases hx
 cases hy with
 | iface _ _ _ r =>
  cases r
  refine (Zlx m w).mono ?_
  rintro _ _ ⟨rfl, rfl⟩
  exact ⟨_, _, H, μ, rfl, ⟨rfl, rfl⟩, .bool _, hr, .refl _ _ _⟩
end Go.Vd
