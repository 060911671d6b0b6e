-- Written by a program of this session over the kit's print. Lean checks it.
import Derived.Test.YtbgaoidihgpldabQx0
namespace Go.Proofs.Ytbgaoidihgpldab.Q
open Go.RowKit Go.Proofs.YtbgaoidihgpldabW.PrintWords Go.Proofs.YtbgaoidihgpldabW.PrintLast Go.Proofs.YtbgaoidihgpldabW.PrintMore
attribute [local go_sem] max2_int min2_int max_two min_two max_three min_three max_four min_four   -- for this text's walks alone
set_option linter.unusedVariables false
set_option linter.unusedSimpArgs false

/-! ### impl_NumWrap: function 27 -/
def impl_NumWrap.f (a0 : Int) : Option (Int) := if (Int.tmod (wrap64 ((Int.tmod a0 32) + 32)) 32) > 15 then (some (wrap64 ((Int.tmod (wrap64 ((Int.tmod a0 32) + 32)) 32) - 32))) else (some (Int.tmod (wrap64 ((Int.tmod a0 32) + 32)) 32))
set_option maxHeartbeats 8000000 in
set_option maxRecDepth 100000 in
theorem impl_NumWrap.calls (a0 : Int) (r : Int) (w : World) (h : impl_NumWrap.f a0 = some r) :
    Calls Try.prog 27 #[.int .i64 a0] w fun e w' => e = .returned (.int .i64 r) ∧ Drawn0 w w' := by
  have H : (if (Int.tmod (wrap64 ((Int.tmod a0 32) + 32)) 32) > 15 then (some (wrap64 ((Int.tmod (wrap64 ((Int.tmod a0 32) + 32)) 32) - 32))) else (some (Int.tmod (wrap64 ((Int.tmod a0 32) + 32)) 32))) = some r := h
  clear h
  by_cases c2 : (Int.tmod (wrap64 ((Int.tmod a0 32) + 32)) 32) > 15
  · rw [if_pos c2] at H
    have c2b0 : decide (15 < (Int.tmod (wrap64 ((Int.tmod a0 32) + 32)) 32)) = true := decide_eq_true c2
    clear c2
    obtain rfl := Option.some.inj H
    go_enter Try.func27, Try.ntmps27
    go_wp2
    go_ret
    exact ⟨by first | rfl | (simp; done) | (simp [*]; done), by repeat (first | exact Drawn0.refl _ | apply Drawn0.step)⟩
  · rw [if_neg c2] at H
    have c2b0 : decide (15 < (Int.tmod (wrap64 ((Int.tmod a0 32) + 32)) 32)) = false := decide_eq_false c2
    clear c2
    obtain rfl := Option.some.inj H
    go_enter Try.func27, Try.ntmps27
    go_wp2
    go_ret
    exact ⟨by first | rfl | (simp; done) | (simp [*]; done), by repeat (first | exact Drawn0.refl _ | apply Drawn0.step)⟩

end Go.Proofs.Ytbgaoidihgpldab.Q
