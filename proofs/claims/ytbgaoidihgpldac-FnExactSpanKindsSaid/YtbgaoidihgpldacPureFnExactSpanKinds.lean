/- What is proved: the pure statement of the law FnExactSpanKinds: at every input that fits, the printed function answers true. No condition. -/
import Derived.Test.YtbgaoidihgpldacQx6
namespace Go.Proofs.Ytbgaoidihgpldac.Pure
open Go.RowKit Go.Proofs.Ytbgaoidihgpldac.Q Go.Proofs.YtbgaoidihgpldacW.PrintWords Go.Proofs.YtbgaoidihgpldacW.PrintLast

/-- Is a span valid? -/
def okS (a : Bool) (l h : Int) : Bool := if a = true then decide (-16 ≤ l ∧ l ≤ 15 ∧ -16 ≤ h ∧ h ≤ 15 ∧ l ≤ h) else (l == 0 && h == 0)
/-- A word? -/
def wordB (n : Int) : Bool := decide (-16 ≤ n ∧ n ≤ 15)
theorem some_if_true {p : Prop} [Decidable p] (b : Bool) : (if p then (some b) else (some false)) = some (decide p && b) := by
  by_cases h : p <;> simp [h]
theorem isWord_eq (n : Int) : impl_isWord.f n = some (wordB n) := by
  unfold impl_isWord.f wordB
  by_cases h1 : n ≥ -16
  · rw [if_pos h1]; congr 1; rw [decide_eq_decide]; omega
  · rw [if_neg h1]; congr 1; symm; rw [decide_eq_false_iff_not]; omega
theorem implOk_eq (a : Bool) (l h : Int) : impl_SpanOk.f a l h = some (okS a l h) := by
  unfold impl_SpanOk.f okS
  cases a
  · simp
  · simp only [if_true, isWord_eq, Option.bind_some, wordB]
    by_cases h1 : -16 ≤ l ∧ l ≤ 15 <;> by_cases h2 : -16 ≤ h ∧ h ≤ 15 <;> simp [h1, h2] <;> omega
theorem ok_true {l h : Int} : okS true l h = true ↔ -16 ≤ l ∧ l ≤ 15 ∧ -16 ≤ h ∧ h ≤ 15 ∧ l ≤ h := by
  unfold okS
  simp
theorem ok_false {l h : Int} : okS false l h = true ↔ l = 0 ∧ h = 0 := by
  unfold okS
  simp
theorem l6In_eq (n lo hi : Int) : spec_l6In.f n lo hi = some (decide (lo ≤ n ∧ n ≤ hi)) := by
  unfold spec_l6In.f
  by_cases h1 : n ≥ lo
  · rw [if_pos h1]; congr 1; rw [decide_eq_decide]; omega
  · rw [if_neg h1]; congr 1; symm; rw [decide_eq_false_iff_not]; omega
theorem l1Word_eq (n : Int) : spec_l1Word.f n = some (wordB n) := by
  unfold spec_l1Word.f
  rw [l6In_eq]; rfl
theorem specOk_eq (a : Bool) (l h : Int) : spec_SpanOk.f a l h = some (okS a l h) := by
  unfold spec_SpanOk.f okS
  cases a
  · simp
  · simp only [if_true, l1Word_eq, Option.bind_some, wordB]
    by_cases h1 : -16 ≤ l ∧ l ≤ 15 <;> by_cases h2 : -16 ≤ h ∧ h ≤ 15 <;> simp [h1, h2] <;> omega
theorem l1Of_eq (l h : Int) : spec_l1Of.f l h = some (if l ≤ h then (true, l, h) else (false, 0, 0)) := by
  unfold spec_l1Of.f
  by_cases c : l ≤ h
  · rw [if_neg (by omega), if_pos c]
  · rw [if_pos (by omega), if_neg c]
/-- The span of a word. -/
def ofS (n : Int) : Bool × Int × Int := if wordB n = true then (true, n, n) else (false, 0, 0)
/-- The meet of two spans. -/
def meetS (a : Bool) (l h : Int) (b : Bool) (m q : Int) : Bool × Int × Int :=
  if (okS a l h && okS b m q && a && b) = true then (if mx l m ≤ mn h q then (true, mx l m, mn h q) else (false, 0, 0)) else (false, 0, 0)
theorem l1Some_eq (a : Bool) (l h : Int) : spec_l1Some.f a l h = some (a && okS a l h) := by
  unfold spec_l1Some.f
  rw [specOk_eq]; simp only [Option.bind_some]
  cases a <;> simp
theorem specMeet_eq (a : Bool) (l h : Int) (b : Bool) (m q : Int) : spec_SpanMeet.f a l h b m q = some (meetS a l h b m q) := by
  unfold spec_SpanMeet.f meetS
  rw [l1Some_eq, l1Some_eq, l1Of_eq]; simp only [Option.bind_some]
  cases a <;> cases b <;> simp
  cases okS true l h <;> cases okS true m q <;> simp
/-- More rounds change nothing. -/
theorem up_fuel {α : Type} {f : Nat → Option α} (mono : ∀ k, LeO (f k) (f (k + 1))) {a b : Nat} {v : α} (h : f a = some v) (hab : a ≤ b) : f b = some v := by
  induction b with
  | zero => rw [show a = 0 by omega] at h; exact h
  | succ b ih =>
    by_cases e : a = b + 1
    · rw [← e]; exact h
    · exact mono b _ (ih (by omega))
theorem spread (p : Int → Int → Bool) (h : (List.range 32).all (fun i => (List.range 32).all (fun j => p ((i : Int) - 16) ((j : Int) - 16))) = true) (l m : Int) (h1 : -16 ≤ l) (h2 : l ≤ 15) (h3 : -16 ≤ m) (h4 : m ≤ 15) : p l m = true := by
  rw [List.all_eq_true] at h
  have a := h (l + 16).toNat (by rw [List.mem_range]; omega)
  rw [List.all_eq_true] at a
  have b := a (m + 16).toNat (by rw [List.mem_range]; omega)
  rw [show (((l + 16).toNat : Nat) : Int) - 16 = l by omega, show (((m + 16).toNat : Nat) : Int) - 16 = m by omega] at b
  exact b
theorem kinds_bad (k : Nat) (a : Bool) (l h : Int) (c : okS a l h = false) : impl_SpanKinds.f k a l h = some [] := by
  unfold impl_SpanKinds.f
  rw [implOk_eq, c]
  rfl
theorem meet_bad (a : Bool) (l h : Int) (c : (a && okS a l h) = false) (b : Bool) (m q : Int) : meetS a l h b m q = (false, 0, 0) := by
  unfold meetS
  rw [if_neg]
  intro hh
  simp only [Bool.and_eq_true] at hh
  rw [hh.1.1.1, hh.1.2] at c
  simp at c
theorem specKinds_bad (k : Nat) (a : Bool) (l h : Int) (c : (a && okS a l h) = false) : spec_SpanKinds.f (k + 4) a l h = some [] := by
  have w0 : wrap64 1 = 1 := by decide +kernel
  have w1 : wrap64 2 = 2 := by decide +kernel
  have w2 : wrap64 3 = 3 := by decide +kernel
  have e0 : spec_KindSpan.f 0 = some (true, -16, -1) := by decide
  have e1 : spec_KindSpan.f 1 = some (true, 0, 0) := by decide
  have e2 : spec_KindSpan.f 2 = some (true, 1, 15) := by decide
  unfold spec_SpanKinds.f
  simp [spec_SpanKinds.l0, w0, w1, w2, e0, e1, e2, specMeet_eq, meet_bad a l h c, l1Some_eq]
theorem kinds_law : (List.range 32).all (fun i => (List.range 32).all (fun j => decide (laws_FnExactSpanKinds.f 60 true ((i : Int) - 16) ((j : Int) - 16) = some true))) = true := by decide +kernel
theorem FnExactSpanKinds : laws_FnExactSpanKinds.Pure := by
  intro a l h _ _
  refine ⟨60, ?_⟩
  by_cases c : (a && okS a l h) = true
  · simp only [Bool.and_eq_true] at c
    obtain ⟨rfl, c⟩ := c
    rw [ok_true] at c
    exact of_decide_eq_true (spread (fun l h => decide (laws_FnExactSpanKinds.f 60 true l h = some true)) kinds_law l h (by omega) (by omega) (by omega) (by omega))
  · have c' : (a && okS a l h) = false := by simpa using c
    have i : impl_SpanKinds.f 60 a l h = some [] := by
      by_cases d : okS a l h = true
      · have : a = false := by
          cases a
          · rfl
          · rw [d] at c'; simp at c'
        subst this
        obtain ⟨rfl, rfl⟩ := ok_false.1 d
        decide +kernel
      · exact kinds_bad 60 a l h (by simpa using d)
    unfold laws_FnExactSpanKinds.f laws_toSpan.f
    simp only [Option.bind_some, i, specKinds_bad 56 a l h c']
    decide +kernel

end Go.Proofs.Ytbgaoidihgpldac.Pure
