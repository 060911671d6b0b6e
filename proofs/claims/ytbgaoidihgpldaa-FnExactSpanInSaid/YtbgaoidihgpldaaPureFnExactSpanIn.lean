/- What is proved: the pure statement of the law FnExactSpanIn: at every input that fits, the printed function answers true. No condition. -/
import Derived.Test.YtbgaoidihgpldaaQx4
namespace Go.Proofs.Ytbgaoidihgpldaa.Pure
open Go.RowKit Go.Proofs.Ytbgaoidihgpldaa.Q Go.Proofs.YtbgaoidihgpldaaW.PrintWords Go.Proofs.YtbgaoidihgpldaaW.PrintLast

/-- Is a span valid? -/
def okS (a : Bool) (l h : Int) : Bool := if a = true then decide (-16 ≤ l ∧ l ≤ 15 ∧ -16 ≤ h ∧ h ≤ 15 ∧ l ≤ h) else (l == 0 && h == 0)
/-- A word? -/
def wordB (n : Int) : Bool := decide (-16 ≤ n ∧ n ≤ 15)
theorem some_if_true {p : Prop} [Decidable p] (b : Bool) : (if p then (some b) else (some false)) = some (decide p && b) := by
  by_cases h : p <;> simp [h]
theorem l6In_eq (n lo hi : Int) : spec_l6In.f n lo hi = some (decide (lo ≤ n ∧ n ≤ hi)) := by
  unfold spec_l6In.f
  by_cases h1 : n ≥ lo
  · rw [if_pos h1]; congr 1; rw [decide_eq_decide]; omega
  · rw [if_neg h1]; congr 1; symm; rw [decide_eq_false_iff_not]; omega
theorem l1Word_eq (n : Int) : spec_l1Word.f n = some (wordB n) := by
  unfold spec_l1Word.f
  rw [l6In_eq]; rfl
theorem specOk_eq (a : Bool) (l h : Int) : spec_SpanOk.f a l h = some (okS a l h) := by
  unfold spec_SpanOk.f okS
  cases a
  · simp
  · simp only [if_true, l1Word_eq, Option.bind_some, wordB]
    by_cases h1 : -16 ≤ l ∧ l ≤ 15 <;> by_cases h2 : -16 ≤ h ∧ h ≤ 15 <;> simp [h1, h2] <;> omega
/-- Is a span in another one? -/
def inS (a : Bool) (l h : Int) (b : Bool) (m k : Int) : Bool := okS a l h && (okS b m k && (!a || (b && decide (m ≤ l ∧ h ≤ k))))
theorem specIn_eq (a : Bool) (l h : Int) (b : Bool) (m k : Int) : spec_SpanIn.f a l h b m k = some (inS a l h b m k) := by
  unfold spec_SpanIn.f inS
  rw [specOk_eq, specOk_eq]; simp only [Option.bind_some]
  cases okS a l h <;> cases okS b m k <;> cases a <;> cases b <;> simp
  by_cases h1 : m ≤ l <;> simp [h1]
theorem isWord_eq (n : Int) : impl_isWord.f n = some (wordB n) := by
  unfold impl_isWord.f wordB
  by_cases h1 : n ≥ -16
  · rw [if_pos h1]; congr 1; rw [decide_eq_decide]; omega
  · rw [if_neg h1]; congr 1; symm; rw [decide_eq_false_iff_not]; omega
theorem implOk_eq (a : Bool) (l h : Int) : impl_SpanOk.f a l h = some (okS a l h) := by
  unfold impl_SpanOk.f okS
  cases a
  · simp
  · simp only [if_true, isWord_eq, Option.bind_some, wordB]
    by_cases h1 : -16 ≤ l ∧ l ≤ 15 <;> by_cases h2 : -16 ≤ h ∧ h ≤ 15 <;> simp [h1, h2] <;> omega
theorem bothOk_eq (a : Bool) (l h : Int) (b : Bool) (m k : Int) : impl_bothOk.f a l h b m k = some (okS a l h && okS b m k) := by
  unfold impl_bothOk.f
  rw [implOk_eq, implOk_eq]; simp only [Option.bind_some]
  cases okS a l h <;> simp
theorem implIn_eq (a : Bool) (l h : Int) (b : Bool) (m k : Int) : impl_SpanIn.f a l h b m k = some (inS a l h b m k) := by
  unfold impl_SpanIn.f inS
  rw [bothOk_eq]; simp only [Option.bind_some]
  cases okS a l h <;> cases okS b m k <;> cases a <;> cases b <;> simp
  by_cases h1 : m ≤ l <;> simp [h1]
theorem FnExactSpanIn : laws_FnExactSpanIn.Pure := by
  intro a l h b m k _ _ _ _
  unfold laws_FnExactSpanIn.f laws_toSpan.f
  simp [specIn_eq, implIn_eq]

end Go.Proofs.Ytbgaoidihgpldaa.Pure
