/- What is proved: the pure statement of the law FnExactNumWrap: at every input that fits, the printed function answers true. No condition. -/
import Derived.Test.YtbgaoidihgpldaaQx2
namespace Go.Proofs.Ytbgaoidihgpldaa.Pure
open Go.RowKit Go.Proofs.Ytbgaoidihgpldaa.Q Go.Proofs.YtbgaoidihgpldaaW.PrintWords Go.Proofs.YtbgaoidihgpldaaW.PrintLast

theorem tm32 (a : Int) : ∃ q, a = 32 * q + Int.tmod a 32 ∧ -32 < Int.tmod a 32 ∧ Int.tmod a 32 < 32 := ⟨Int.tdiv a 32, (Int.mul_tdiv_add_tmod a 32).symm, Int.lt_tmod_of_pos a (by decide), Int.tmod_lt_of_pos a (by decide)⟩
theorem wrap_small (a : Int) (h0 : -9223372036854775808 ≤ a) (h1 : a ≤ 9223372036854775807) : wrap64 a = a := by
  unfold wrap64; omega
theorem spec_wrap_eq (a : Int) : spec_NumWrap.f a = some ((a + 16) % 32 - 16) := by
  obtain ⟨q, hq, h1, h2⟩ := tm32 a
  unfold spec_NumWrap.f spec_l1Many.f
  simp only [Option.bind_some]
  rw [if_neg (by omega)]
  split
  · rw [wrap_small _ (by omega) (by omega)]; congr 1; omega
  · split
    · rw [wrap_small _ (by omega) (by omega)]; congr 1; omega
    · congr 1; omega
theorem impl_wrap_eq (a : Int) : impl_NumWrap.f a = some ((a + 16) % 32 - 16) := by
  obtain ⟨q, hq, h1, h2⟩ := tm32 a
  unfold impl_NumWrap.f
  have e : wrap64 (Int.tmod a 32 + 32) = Int.tmod a 32 + 32 := wrap_small _ (by omega) (by omega)
  rw [e]
  have e2 : Int.tmod (Int.tmod a 32 + 32) 32 = a % 32 := by rw [Int.tmod_eq_emod_of_nonneg (by omega)]; omega
  rw [e2]
  split
  · rw [wrap_small _ (by omega) (by omega)]; congr 1; omega
  · congr 1; omega
theorem FnExactNumWrap : laws_FnExactNumWrap.Pure := by
  intro a _
  unfold laws_FnExactNumWrap.f
  rw [spec_wrap_eq, impl_wrap_eq]
  simp

end Go.Proofs.Ytbgaoidihgpldaa.Pure
