/- What is proved: the pure statement of the law FnExactSpanOk: at every input that fits, the printed function answers true. No condition. -/
import Derived.Test.YtbgaoidihgpldaaQx2
namespace Go.Proofs.Ytbgaoidihgpldaa.Pure
open Go.RowKit Go.Proofs.Ytbgaoidihgpldaa.Q Go.Proofs.YtbgaoidihgpldaaW.PrintWords Go.Proofs.YtbgaoidihgpldaaW.PrintLast

/-- Is a span valid? -/
def okS (a : Bool) (l h : Int) : Bool := if a = true then decide (-16 ≤ l ∧ l ≤ 15 ∧ -16 ≤ h ∧ h ≤ 15 ∧ l ≤ h) else (l == 0 && h == 0)
/-- A word? -/
def wordB (n : Int) : Bool := decide (-16 ≤ n ∧ n ≤ 15)
theorem some_if_true {p : Prop} [Decidable p] (b : Bool) : (if p then (some b) else (some false)) = some (decide p && b) := by
  by_cases h : p <;> simp [h]
theorem l6In_eq (n lo hi : Int) : spec_l6In.f n lo hi = some (decide (lo ≤ n ∧ n ≤ hi)) := by
  unfold spec_l6In.f
  by_cases h1 : n ≥ lo
  · rw [if_pos h1]; congr 1; rw [decide_eq_decide]; omega
  · rw [if_neg h1]; congr 1; symm; rw [decide_eq_false_iff_not]; omega
theorem l1Word_eq (n : Int) : spec_l1Word.f n = some (wordB n) := by
  unfold spec_l1Word.f
  rw [l6In_eq]; rfl
theorem specOk_eq (a : Bool) (l h : Int) : spec_SpanOk.f a l h = some (okS a l h) := by
  unfold spec_SpanOk.f okS
  cases a
  · simp
  · simp only [if_true, l1Word_eq, Option.bind_some, wordB]
    by_cases h1 : -16 ≤ l ∧ l ≤ 15 <;> by_cases h2 : -16 ≤ h ∧ h ≤ 15 <;> simp [h1, h2] <;> omega
theorem isWord_eq (n : Int) : impl_isWord.f n = some (wordB n) := by
  unfold impl_isWord.f wordB
  by_cases h1 : n ≥ -16
  · rw [if_pos h1]; congr 1; rw [decide_eq_decide]; omega
  · rw [if_neg h1]; congr 1; symm; rw [decide_eq_false_iff_not]; omega
theorem implOk_eq (a : Bool) (l h : Int) : impl_SpanOk.f a l h = some (okS a l h) := by
  unfold impl_SpanOk.f okS
  cases a
  · simp
  · simp only [if_true, isWord_eq, Option.bind_some, wordB]
    by_cases h1 : -16 ≤ l ∧ l ≤ 15 <;> by_cases h2 : -16 ≤ h ∧ h ≤ 15 <;> simp [h1, h2] <;> omega
theorem FnExactSpanOk : laws_FnExactSpanOk.Pure := by
  intro a l h _ _
  unfold laws_FnExactSpanOk.f laws_toSpan.f
  simp [specOk_eq, implOk_eq]

end Go.Proofs.Ytbgaoidihgpldaa.Pure
