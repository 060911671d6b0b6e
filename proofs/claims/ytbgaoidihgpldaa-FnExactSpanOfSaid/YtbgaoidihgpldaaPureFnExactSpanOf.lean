/- What is proved: the pure statement of the law FnExactSpanOf: at every input that fits, the printed function answers true. No condition. -/
import Derived.Test.YtbgaoidihgpldaaQx5
namespace Go.Proofs.Ytbgaoidihgpldaa.Pure
open Go.RowKit Go.Proofs.Ytbgaoidihgpldaa.Q Go.Proofs.YtbgaoidihgpldaaW.PrintWords Go.Proofs.YtbgaoidihgpldaaW.PrintLast

/-- Is a span valid? -/
def okS (a : Bool) (l h : Int) : Bool := if a = true then decide (-16 ≤ l ∧ l ≤ 15 ∧ -16 ≤ h ∧ h ≤ 15 ∧ l ≤ h) else (l == 0 && h == 0)
/-- A word? -/
def wordB (n : Int) : Bool := decide (-16 ≤ n ∧ n ≤ 15)
theorem some_if_true {p : Prop} [Decidable p] (b : Bool) : (if p then (some b) else (some false)) = some (decide p && b) := by
  by_cases h : p <;> simp [h]
theorem isWord_eq (n : Int) : impl_isWord.f n = some (wordB n) := by
  unfold impl_isWord.f wordB
  by_cases h1 : n ≥ -16
  · rw [if_pos h1]; congr 1; rw [decide_eq_decide]; omega
  · rw [if_neg h1]; congr 1; symm; rw [decide_eq_false_iff_not]; omega
theorem implOk_eq (a : Bool) (l h : Int) : impl_SpanOk.f a l h = some (okS a l h) := by
  unfold impl_SpanOk.f okS
  cases a
  · simp
  · simp only [if_true, isWord_eq, Option.bind_some, wordB]
    by_cases h1 : -16 ≤ l ∧ l ≤ 15 <;> by_cases h2 : -16 ≤ h ∧ h ≤ 15 <;> simp [h1, h2] <;> omega
theorem l6In_eq (n lo hi : Int) : spec_l6In.f n lo hi = some (decide (lo ≤ n ∧ n ≤ hi)) := by
  unfold spec_l6In.f
  by_cases h1 : n ≥ lo
  · rw [if_pos h1]; congr 1; rw [decide_eq_decide]; omega
  · rw [if_neg h1]; congr 1; symm; rw [decide_eq_false_iff_not]; omega
theorem l1Word_eq (n : Int) : spec_l1Word.f n = some (wordB n) := by
  unfold spec_l1Word.f
  rw [l6In_eq]; rfl
theorem specOk_eq (a : Bool) (l h : Int) : spec_SpanOk.f a l h = some (okS a l h) := by
  unfold spec_SpanOk.f okS
  cases a
  · simp
  · simp only [if_true, l1Word_eq, Option.bind_some, wordB]
    by_cases h1 : -16 ≤ l ∧ l ≤ 15 <;> by_cases h2 : -16 ≤ h ∧ h ≤ 15 <;> simp [h1, h2] <;> omega
theorem l1Of_eq (l h : Int) : spec_l1Of.f l h = some (if l ≤ h then (true, l, h) else (false, 0, 0)) := by
  unfold spec_l1Of.f
  by_cases c : l ≤ h
  · rw [if_neg (by omega), if_pos c]
  · rw [if_pos (by omega), if_neg c]
/-- The span of a word. -/
def ofS (n : Int) : Bool × Int × Int := if wordB n = true then (true, n, n) else (false, 0, 0)
theorem specOf_eq (n : Int) : spec_SpanOf.f n = some (ofS n) := by
  unfold spec_SpanOf.f ofS
  rw [l1Word_eq]; simp only [Option.bind_some]
  cases wordB n <;> simp [l1Of_eq]
theorem implOf_eq (n : Int) : impl_SpanOf.f n = some (ofS n) := by
  unfold impl_SpanOf.f ofS
  rw [isWord_eq]; simp only [Option.bind_some]
  cases wordB n <;> simp
theorem eqSpan_self (a : Bool) (l h : Int) : laws_eqSpan.f a l h a l h = some true := by
  unfold laws_eqSpan.f
  simp
theorem FnExactSpanOf : laws_FnExactSpanOf.Pure := by
  intro n _
  unfold laws_FnExactSpanOf.f
  rw [specOf_eq, implOf_eq]; simp only [Option.bind_some]
  rw [eqSpan_self]; simp

end Go.Proofs.Ytbgaoidihgpldaa.Pure
