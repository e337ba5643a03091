-- Written by a program of this seat (wip/tools/printall.sh) out of the translation's print; Lean checks it.
import Derived.Test.YtjmkhdhffmlhiaaPAllx0
namespace Go.Proofs.Ytjmkhdhffmlhiaa.PAll
open Go.RowKit Go.Proofs.YtjmkhdhffmlhiaaW.PrintWords Go.Proofs.YtjmkhdhffmlhiaaW.PrintLast Go.Proofs.YtjmkhdhffmlhiaaW.PrintMore
attribute [local go_sem] max2_int min2_int max_two min_two max_three min_three max_four min_four w64_u8 w64_mod256   -- for this text's walks alone
set_option linter.unusedVariables false
set_option linter.unusedSimpArgs false

/-! ### slopelaw3_num: function 19 -/
def slopelaw3_num.f (a0 : Int) : Option (Int) := some a0
set_option maxHeartbeats 8000000 in
set_option maxRecDepth 100000 in
theorem slopelaw3_num.calls (a0 : Int) (r : Int) (w : World) (h : slopelaw3_num.f a0 = some r) :
    Calls Try.prog 19 #[.int .i64 a0] w fun e w' => e = .returned (.int .i64 r) ∧ Drawn0 w w' := by
  have H : (some a0) = some r := h
  clear h
  obtain rfl := Option.some.inj H
  go_enter Try.func19, Try.ntmps19
  go_wp2
  go_ret
  exact ⟨by first | rfl | (simp; done) | (simp [*]; done), by repeat (first | exact Drawn0.refl _ | apply Drawn0.step)⟩

end Go.Proofs.Ytjmkhdhffmlhiaa.PAll
