/- What is proved: the pure statement of the law FnExactKindSpan: at every input that fits, the printed function answers true. No condition. -/
import Derived.Test.YtbgaoidihgpldacQx4
namespace Go.Proofs.Ytbgaoidihgpldac.Pure
open Go.RowKit Go.Proofs.Ytbgaoidihgpldac.Q Go.Proofs.YtbgaoidihgpldacW.PrintWords Go.Proofs.YtbgaoidihgpldacW.PrintLast

/-- Is a span valid? -/
def okS (a : Bool) (l h : Int) : Bool := if a = true then decide (-16 ≤ l ∧ l ≤ 15 ∧ -16 ≤ h ∧ h ≤ 15 ∧ l ≤ h) else (l == 0 && h == 0)
/-- A word? -/
def wordB (n : Int) : Bool := decide (-16 ≤ n ∧ n ≤ 15)
theorem some_if_true {p : Prop} [Decidable p] (b : Bool) : (if p then (some b) else (some false)) = some (decide p && b) := by
  by_cases h : p <;> simp [h]
theorem l6In_eq (n lo hi : Int) : spec_l6In.f n lo hi = some (decide (lo ≤ n ∧ n ≤ hi)) := by
  unfold spec_l6In.f
  by_cases h1 : n ≥ lo
  · rw [if_pos h1]; congr 1; rw [decide_eq_decide]; omega
  · rw [if_neg h1]; congr 1; symm; rw [decide_eq_false_iff_not]; omega
theorem l1Word_eq (n : Int) : spec_l1Word.f n = some (wordB n) := by
  unfold spec_l1Word.f
  rw [l6In_eq]; rfl
theorem l1Of_eq (l h : Int) : spec_l1Of.f l h = some (if l ≤ h then (true, l, h) else (false, 0, 0)) := by
  unfold spec_l1Of.f
  by_cases c : l ≤ h
  · rw [if_neg (by omega), if_pos c]
  · rw [if_pos (by omega), if_neg c]
/-- The span of a word. -/
def ofS (n : Int) : Bool × Int × Int := if wordB n = true then (true, n, n) else (false, 0, 0)
theorem eqSpan_self (a : Bool) (l h : Int) : laws_eqSpan.f a l h a l h = some true := by
  unfold laws_eqSpan.f
  simp
theorem FnExactKindSpan : laws_FnExactKindSpan.Pure := by
  intro a _
  refine ⟨100, ?_⟩
  unfold laws_FnExactKindSpan.f
  by_cases h : 0 ≤ a ∧ a ≤ 2
  · have : a = 0 ∨ a = 1 ∨ a = 2 := by omega
    rcases this with rfl | rfl | rfl
    · rw [show spec_KindSpan.f 0 = some (true, -16, -1) by decide, show impl_KindSpan.f 100 0 = some (true, -16, -1) by decide +kernel]
      simp [eqSpan_self]
    · rw [show spec_KindSpan.f 1 = some (true, 0, 0) by decide, show impl_KindSpan.f 100 1 = some (true, 0, 0) by decide +kernel]
      simp [eqSpan_self]
    · rw [show spec_KindSpan.f 2 = some (true, 1, 15) by decide, show impl_KindSpan.f 100 2 = some (true, 1, 15) by decide +kernel]
      simp [eqSpan_self]
  · have e1 : spec_KindSpan.f a = some (false, 0, 0) := by
      unfold spec_KindSpan.f
      rw [if_neg (by omega), if_neg (by omega), if_neg (by omega)]
    have e2 : impl_KindSpan.f 100 a = some (false, 0, 0) := by
      unfold impl_KindSpan.f impl_isKind.f
      by_cases c : a ≥ 0
      · rw [if_pos c, show decide (a ≤ 2) = false by simp; omega]
        simp
      · rw [if_neg c]
        simp
    rw [e1, e2]
    simp [eqSpan_self]

end Go.Proofs.Ytbgaoidihgpldac.Pure
