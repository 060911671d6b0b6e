/- What is proved: the pure statement of the law FnExactSpanWide: at every input that fits, the printed function answers true. No condition. -/
import Derived.Test.YtbgaoidihgpldabQx17
namespace Go.Proofs.Ytbgaoidihgpldab.Pure
open Go.RowKit Go.Proofs.Ytbgaoidihgpldab.Q Go.Proofs.YtbgaoidihgpldabW.PrintWords Go.Proofs.YtbgaoidihgpldabW.PrintLast

/-- Is a span valid? -/
def okS (a : Bool) (l h : Int) : Bool := if a = true then decide (-16 ≤ l ∧ l ≤ 15 ∧ -16 ≤ h ∧ h ≤ 15 ∧ l ≤ h) else (l == 0 && h == 0)
/-- A word? -/
def wordB (n : Int) : Bool := decide (-16 ≤ n ∧ n ≤ 15)
theorem some_if_true {p : Prop} [Decidable p] (b : Bool) : (if p then (some b) else (some false)) = some (decide p && b) := by
  by_cases h : p <;> simp [h]
theorem l6In_eq (n lo hi : Int) : spec_l6In.f n lo hi = some (decide (lo ≤ n ∧ n ≤ hi)) := by
  unfold spec_l6In.f
  by_cases h1 : n ≥ lo
  · rw [if_pos h1]; congr 1; rw [decide_eq_decide]; omega
  · rw [if_neg h1]; congr 1; symm; rw [decide_eq_false_iff_not]; omega
theorem l1Word_eq (n : Int) : spec_l1Word.f n = some (wordB n) := by
  unfold spec_l1Word.f
  rw [l6In_eq]; rfl
theorem specOk_eq (a : Bool) (l h : Int) : spec_SpanOk.f a l h = some (okS a l h) := by
  unfold spec_SpanOk.f okS
  cases a
  · simp
  · simp only [if_true, l1Word_eq, Option.bind_some, wordB]
    by_cases h1 : -16 ≤ l ∧ l ≤ 15 <;> by_cases h2 : -16 ≤ h ∧ h ≤ 15 <;> simp [h1, h2] <;> omega
theorem l1Of_eq (l h : Int) : spec_l1Of.f l h = some (if l ≤ h then (true, l, h) else (false, 0, 0)) := by
  unfold spec_l1Of.f
  by_cases c : l ≤ h
  · rw [if_neg (by omega), if_pos c]
  · rw [if_pos (by omega), if_neg c]
/-- The span of a word. -/
def ofS (n : Int) : Bool × Int × Int := if wordB n = true then (true, n, n) else (false, 0, 0)
theorem specOf_eq (n : Int) : spec_SpanOf.f n = some (ofS n) := by
  unfold spec_SpanOf.f ofS
  rw [l1Word_eq]; simp only [Option.bind_some]
  cases wordB n <;> simp [l1Of_eq]
theorem ok_true {l h : Int} : okS true l h = true ↔ -16 ≤ l ∧ l ≤ 15 ∧ -16 ≤ h ∧ h ≤ 15 ∧ l ≤ h := by
  unfold okS
  simp
theorem ok_false {l h : Int} : okS false l h = true ↔ l = 0 ∧ h = 0 := by
  unfold okS
  simp
/-- The join of two spans. -/
def joinS (a : Bool) (l h : Int) (b : Bool) (m k : Int) : Bool × Int × Int :=
  if (okS a l h && okS b m k) = true then (if a = true then (if b = true then (true, mn l m, mx h k) else (a, l, h)) else (b, m, k)) else (false, 0, 0)
theorem specJoin_eq (q : Nat) (a : Bool) (l h : Int) (b : Bool) (m k : Int) : spec_SpanJoin.f (q + 1) a l h b m k = some (joinS a l h b m k) := by
  unfold spec_SpanJoin.f joinS
  rw [specOk_eq, specOk_eq]; simp only [Option.bind_some]
  by_cases c1 : okS a l h = true
  · rw [c1]
    by_cases c2 : okS b m k = true
    · rw [c2]
      simp only [if_true, spec_SpanJoin.j0, Bool.not_true, Bool.and_true]
      cases a <;> cases b <;> simp
      rw [ok_true] at c1 c2
      rw [l1Of_eq, if_pos (by unfold mn mx; omega)]
      rfl
    · have c2' : okS b m k = false := by simpa using c2
      rw [c2']
      simp [spec_SpanJoin.j0]
  · have c1' : okS a l h = false := by simpa using c1
    rw [c1']
    simp [spec_SpanJoin.j0]
/-- An end that falls falls to the next step, one that grows grows to it. -/
def downI (n : Int) : Int := if n ≥ 0 then 0 else if n ≥ -4 then -4 else -16
def upI (n : Int) : Int := if n ≤ 0 then 0 else if n ≤ 4 then 4 else 15
/-- The join in a hurry. -/
def wideS (a : Bool) (l h : Int) (b : Bool) (m q : Int) : Bool × Int × Int :=
  if (okS a l h && okS b m q && a && b) = true then
    ((joinS a l h b m q).1, (if (joinS a l h b m q).2.1 < l then downI (joinS a l h b m q).2.1 else (joinS a l h b m q).2.1), (if (joinS a l h b m q).2.2 > h then upI (joinS a l h b m q).2.2 else (joinS a l h b m q).2.2))
  else joinS a l h b m q
theorem l1SomeW_eq (a : Bool) (l h : Int) : spec_l1Some.f a l h = some (a && okS a l h) := by
  unfold spec_l1Some.f
  rw [specOk_eq]; simp only [Option.bind_some]
  cases a <;> simp
theorem l1Down_eq (n : Int) : spec_l1Down.f n = some (downI n) := by
  unfold spec_l1Down.f downI
  split
  · rfl
  · split <;> rfl
theorem l1Up_eq (n : Int) : spec_l1Up.f n = some (upI n) := by
  unfold spec_l1Up.f upI
  split
  · rfl
  · split <;> rfl
theorem specWide_eq (k : Nat) (a : Bool) (l h : Int) (b : Bool) (m q : Int) : spec_SpanWide.f (k + 1) a l h b m q = some (wideS a l h b m q) := by
  unfold spec_SpanWide.f wideS
  rw [specJoin_eq, l1SomeW_eq, l1SomeW_eq]; simp only [Option.bind_some]
  generalize joinS a l h b m q = X
  cases a <;> cases b <;> simp [spec_SpanWide.j0]
  cases okS true l h <;> cases okS true m q <;> simp [l1Down_eq, l1Up_eq]
  split <;> split <;> rfl
theorem tm32 (a : Int) : ∃ q, a = 32 * q + Int.tmod a 32 ∧ -32 < Int.tmod a 32 ∧ Int.tmod a 32 < 32 := ⟨Int.tdiv a 32, (Int.mul_tdiv_add_tmod a 32).symm, Int.lt_tmod_of_pos a (by decide), Int.tmod_lt_of_pos a (by decide)⟩
theorem wrap_small (a : Int) (h0 : -9223372036854775808 ≤ a) (h1 : a ≤ 9223372036854775807) : wrap64 a = a := by
  unfold wrap64; omega
theorem rd_get {l : List Int} {i : Int} (h0 : 0 ≤ i) (h : i < l.length) : rd l i = l[i.toNat]'(by omega) := by
  unfold rd
  rw [List.getD_eq_getElem?_getD, List.getElem?_eq_getElem (by omega)]; rfl
theorem rd_mem {l : List Int} {i : Int} (h0 : 0 ≤ i) (h : i < l.length) : rd l i ∈ l := by
  rw [rd_get h0 h]
  exact List.getElem_mem _
theorem rd_drop {l : List Int} {i : Int} (h0 : 0 ≤ i) (h : i < l.length) : l.drop i.toNat = rd l i :: l.drop (i + 1).toNat := by
  rw [rd_get h0 h, show (i + 1).toNat = i.toNat + 1 by omega]
  exact List.drop_eq_getElem_cons (by omega)
/-- d numbers in line, from n on. -/
def upFrom : Nat → Int → List Int
  | 0, _ => []
  | d + 1, n => n :: upFrom d (n + 1)
theorem upFrom_mem (d : Nat) : ∀ n x : Int, x ∈ upFrom d n ↔ n ≤ x ∧ x < n + d := by
  induction d with
  | zero => intro n x; simp [upFrom] <;> omega
  | succ d ih => intro n x; simp only [upFrom, List.mem_cons, ih]; omega
theorem upFrom_length (d : Nat) : ∀ n : Int, (upFrom d n).length = d := by
  induction d with
  | zero => intro n; rfl
  | succ d ih => intro n; simp [upFrom, ih]
theorem isWord_eq (n : Int) : impl_isWord.f n = some (wordB n) := by
  unfold impl_isWord.f wordB
  by_cases h1 : n ≥ -16
  · rw [if_pos h1]; congr 1; rw [decide_eq_decide]; omega
  · rw [if_neg h1]; congr 1; symm; rw [decide_eq_false_iff_not]; omega
theorem implOk_eq (a : Bool) (l h : Int) : impl_SpanOk.f a l h = some (okS a l h) := by
  unfold impl_SpanOk.f okS
  cases a
  · simp
  · simp only [if_true, isWord_eq, Option.bind_some, wordB]
    by_cases h1 : -16 ≤ l ∧ l ≤ 15 <;> by_cases h2 : -16 ≤ h ∧ h ≤ 15 <;> simp [h1, h2] <;> omega
/-- The words of a span. -/
def wordsL (a : Bool) (l h : Int) : List Int := if a = true then upFrom (h + 1 - l).toNat l else []
theorem words_loop (l h : Int) (hl : -16 ≤ l) (hh : h ≤ 15) (d : Nat) : ∀ (k : Nat) (acc : List Int) (n : Int), l ≤ n → n ≤ h + 1 → h + 1 - n = d → d < k → acc.length + d ≤ 1000 →
    impl_Span_words.l0 k acc n true l h = some (acc ++ upFrom d n) := by
  induction d with
  | zero =>
    intro k acc n h1 h2 hd hk hc
    obtain ⟨k, rfl⟩ : ∃ j, k = j + 1 := ⟨k - 1, by omega⟩
    simp only [impl_Span_words.l0, if_true]
    rw [if_neg (by omega)]; simp [upFrom]
  | succ d ih =>
    intro k acc n h1 h2 hd hk hc
    obtain ⟨k, rfl⟩ : ∃ j, k = j + 1 := ⟨k - 1, by omega⟩
    simp only [impl_Span_words.l0, if_true]
    rw [if_pos (by omega), if_pos (by omega), wrap_small _ (by omega) (by omega), ih k (acc ++ [n]) (n + 1) (by omega) (by omega) (by omega) (by omega) (by simp; omega)]
    simp [upFrom]
theorem words_eq (k : Nat) (hk : 40 ≤ k) (a : Bool) (l h : Int) (ok : okS a l h = true) : impl_Span_words.f k a l h = some (wordsL a l h) := by
  unfold impl_Span_words.f wordsL
  cases a
  · obtain ⟨k, rfl⟩ : ∃ j, k = j + 1 := ⟨k - 1, by omega⟩
    simp [impl_Span_words.l0]
  · rw [ok_true] at ok
    rw [words_loop l h (by omega) (by omega) (h + 1 - l).toNat k [] l (by omega) (by omega) (by omega) (by omega) (by simp; omega)]
    simp
theorem wordsL_mem (a : Bool) (l h x : Int) (ok : okS a l h = true) : x ∈ wordsL a l h ↔ a = true ∧ l ≤ x ∧ x ≤ h := by
  unfold wordsL
  cases a
  · simp
  · rw [ok_true] at ok
    rw [if_pos rfl, upFrom_mem]
    simp; omega
theorem wordsL_length (a : Bool) (l h : Int) (ok : okS a l h = true) : (wordsL a l h).length ≤ 32 := by
  unfold wordsL
  cases a
  · simp
  · rw [ok_true] at ok
    rw [if_pos rfl, upFrom_length]; omega
theorem min_loop (l : List Int) (hl : l.length ≤ 1000) (d : Nat) : ∀ (k : Nat) (m i : Int), 0 ≤ i → i ≤ l.length → (l.length : Int) - i = d → d < k →
    ∃ r, slices_Min_int_int.l0 k l m i = some r ∧ (r = m ∨ r ∈ l) ∧ r ≤ m ∧ ∀ x ∈ l.drop i.toNat, r ≤ x := by
  induction d with
  | zero =>
    intro k m i h0 h1 hd hk
    obtain ⟨k, rfl⟩ : ∃ j, k = j + 1 := ⟨k - 1, by omega⟩
    simp only [slices_Min_int_int.l0]
    rw [if_neg (by omega)]
    refine ⟨m, rfl, .inl rfl, by omega, fun x hx => ?_⟩
    rw [List.drop_of_length_le (by omega)] at hx
    simp at hx
  | succ d ih =>
    intro k m i h0 h1 hd hk
    obtain ⟨k, rfl⟩ : ∃ j, k = j + 1 := ⟨k - 1, by omega⟩
    simp only [slices_Min_int_int.l0]
    rw [if_pos (by omega), if_pos h0, wrap_small _ (by omega) (by omega)]
    obtain ⟨r, hr, h2, h3, h4⟩ := ih k (mn m (rd l i)) (i + 1) (by omega) (by omega) (by omega) (by omega)
    have hm : rd l i ∈ l := rd_mem h0 (by omega)
    refine ⟨r, hr, ?_, by unfold mn at h3; split at h3 <;> omega, fun x hx => ?_⟩
    · rcases h2 with h2 | h2
      · unfold mn at h2
        split at h2
        · exact .inr (by rw [h2]; first | exact hm | exact hm)
        · exact .inl h2
      · exact .inr h2
    · rw [rd_drop h0 (by omega)] at hx
      rcases List.mem_cons.1 hx with rfl | hx
      · unfold mn at h3; split at h3 <;> omega
      · exact h4 x hx
theorem max_loop (l : List Int) (hl : l.length ≤ 1000) (d : Nat) : ∀ (k : Nat) (m i : Int), 0 ≤ i → i ≤ l.length → (l.length : Int) - i = d → d < k →
    ∃ r, slices_Max_int_int.l0 k l m i = some r ∧ (r = m ∨ r ∈ l) ∧ m ≤ r ∧ ∀ x ∈ l.drop i.toNat, x ≤ r := by
  induction d with
  | zero =>
    intro k m i h0 h1 hd hk
    obtain ⟨k, rfl⟩ : ∃ j, k = j + 1 := ⟨k - 1, by omega⟩
    simp only [slices_Max_int_int.l0]
    rw [if_neg (by omega)]
    refine ⟨m, rfl, .inl rfl, by omega, fun x hx => ?_⟩
    rw [List.drop_of_length_le (by omega)] at hx
    simp at hx
  | succ d ih =>
    intro k m i h0 h1 hd hk
    obtain ⟨k, rfl⟩ : ∃ j, k = j + 1 := ⟨k - 1, by omega⟩
    simp only [slices_Max_int_int.l0]
    rw [if_pos (by omega), if_pos h0, wrap_small _ (by omega) (by omega)]
    obtain ⟨r, hr, h2, h3, h4⟩ := ih k (mx m (rd l i)) (i + 1) (by omega) (by omega) (by omega) (by omega)
    have hm : rd l i ∈ l := rd_mem h0 (by omega)
    refine ⟨r, hr, ?_, by unfold mx at h3; split at h3 <;> omega, fun x hx => ?_⟩
    · rcases h2 with h2 | h2
      · unfold mx at h2
        split at h2
        · exact .inr (by rw [h2]; exact hm)
        · exact .inl h2
      · exact .inr h2
    · rw [rd_drop h0 (by omega)] at hx
      rcases List.mem_cons.1 hx with rfl | hx
      · unfold mx at h3; split at h3 <;> omega
      · exact h4 x hx
/-- The least span round numbers. -/
theorem spanned_eq (k : Nat) (l : List Int) (hl : l.length ≤ 1000) (hk : 1001 < k) :
    (l = [] → impl_spanned.f k l = some (false, 0, 0)) ∧ (l ≠ [] → ∃ lo hi, impl_spanned.f k l = some (true, lo, hi) ∧ lo ∈ l ∧ hi ∈ l ∧ ∀ x ∈ l, lo ≤ x ∧ x ≤ hi) := by
  constructor
  · rintro rfl
    unfold impl_spanned.f impl_between_int.f
    simp
  · intro hne
    have hpos : 0 < l.length := List.length_pos_iff.2 hne
    have h0 : rd l 0 ∈ l := rd_mem (by omega) (by omega)
    obtain ⟨lo, h1, h2, h3, h4⟩ := min_loop l hl (l.length - 1) k (rd l 0) 1 (by omega) (by omega) (by omega) (by omega)
    obtain ⟨hi, g1, g2, g3, g4⟩ := max_loop l hl (l.length - 1) k (rd l 0) 1 (by omega) (by omega) (by omega) (by omega)
    refine ⟨lo, hi, ?_, ?_, ?_, ?_⟩
    · unfold impl_spanned.f impl_between_int.f slices_Min_int_int.f slices_Max_int_int.f
      rw [if_neg (by omega), if_neg (by omega), if_pos (by omega), if_neg (by omega), if_pos (by omega), h1, g1]
      rfl
    · rcases h2 with h2 | h2
      · rw [h2]; exact h0
      · exact h2
    · rcases g2 with g2 | g2
      · rw [g2]; exact h0
      · exact g2
    · intro x hx
      have e : l = rd l 0 :: l.drop 1 := by
        have := rd_drop (l := l) (i := 0) (by omega) (by omega)
        simpa using this
      rw [e] at hx
      rcases List.mem_cons.1 hx with rfl | hx
      · exact ⟨h3, g3⟩
      · exact ⟨h4 x (by simpa using hx), g4 x (by simpa using hx)⟩
/-- Is a span in another one? -/
def inS (a : Bool) (l h : Int) (b : Bool) (m k : Int) : Bool := okS a l h && (okS b m k && (!a || (b && decide (m ≤ l ∧ h ≤ k))))
theorem bothOk_eq (a : Bool) (l h : Int) (b : Bool) (m k : Int) : impl_bothOk.f a l h b m k = some (okS a l h && okS b m k) := by
  unfold impl_bothOk.f
  rw [implOk_eq, implOk_eq]; simp only [Option.bind_some]
  cases okS a l h <;> simp
theorem implJoin_eq (k : Nat) (hk : 1001 < k) (a : Bool) (l h : Int) (b : Bool) (m q : Int) : impl_SpanJoin.f k a l h b m q = some (joinS a l h b m q) := by
  unfold impl_SpanJoin.f joinS
  rw [bothOk_eq]; simp only [Option.bind_some]
  by_cases c : (okS a l h && okS b m q) = true
  · rw [if_pos c, if_pos c]
    simp only [Bool.and_eq_true] at c
    obtain ⟨c1, c2⟩ := c
    have n1 := wordsL_length a l h c1
    have n2 := wordsL_length b m q c2
    rw [words_eq k (by omega) a l h c1, words_eq k (by omega) b m q c2]; simp only [Option.bind_some]
    rw [if_pos (by omega)]
    have mem : ∀ x, x ∈ wordsL a l h ++ wordsL b m q ↔ (a = true ∧ l ≤ x ∧ x ≤ h) ∨ (b = true ∧ m ≤ x ∧ x ≤ q) := by
      intro x; rw [List.mem_append, wordsL_mem _ _ _ _ c1, wordsL_mem _ _ _ _ c2]
    obtain ⟨s1, s2⟩ := spanned_eq k (wordsL a l h ++ wordsL b m q) (by rw [List.length_append]; omega) hk
    by_cases e : wordsL a l h ++ wordsL b m q = []
    · rw [s1 e]; simp only [Option.bind_some]
      have ea : a = false := by
        cases a
        · rfl
        · have := (mem l).2 (.inl ⟨rfl, by omega, by rw [ok_true] at c1; omega⟩)
          rw [e] at this; simp at this
      have eb : b = false := by
        cases b
        · rfl
        · have := (mem m).2 (.inr ⟨rfl, by omega, by rw [ok_true] at c2; omega⟩)
          rw [e] at this; simp at this
      subst ea eb
      rw [ok_false] at c2
      simp [c2]
    · obtain ⟨lo, hi, h1, h2, h3, h4⟩ := s2 e
      rw [h1]; simp only [Option.bind_some]
      rw [mem] at h2 h3
      have h5 : ∀ x, ((a = true ∧ l ≤ x ∧ x ≤ h) ∨ (b = true ∧ m ≤ x ∧ x ≤ q)) → lo ≤ x ∧ x ≤ hi := fun x hx => h4 x ((mem x).2 hx)
      clear s1 s2 h4 mem h1 e n1 n2
      cases a <;> cases b
      · simp at h2
      · rw [ok_true] at c2
        have := h5 m (by simp; omega)
        have := h5 q (by simp; omega)
        simp at h2 h3 ⊢
        omega
      · rw [ok_true] at c1
        have := h5 l (by simp; omega)
        have := h5 h (by simp; omega)
        simp at h2 h3 ⊢
        omega
      · rw [ok_true] at c1 c2
        have := h5 m (by simp; omega)
        have := h5 q (by simp; omega)
        have := h5 l (by simp; omega)
        have := h5 h (by simp; omega)
        simp at h2 h3 ⊢
        unfold mn mx
        refine ⟨?_, ?_⟩ <;> split <;> omega
  · rw [if_neg c, if_neg c]
theorem mn_le {a b : Int} : mn a b ≤ a ∧ mn a b ≤ b ∧ (mn a b = a ∨ mn a b = b) := by
  unfold mn
  split <;> omega
theorem mx_le {a b : Int} : a ≤ mx a b ∧ b ≤ mx a b ∧ (mx a b = a ∨ mx a b = b) := by
  unfold mx
  split <;> omega
theorem wide_l1 (k : Nat) (b : Bool) (m q : Int) (x : Bool) (y z : Int) (hq : q ≤ 15) : impl_SpanWide.l1 (k + 4) [15, 4, 0] 3 0 b m q x y z = some (x, y, upI q) := by
  have w0 : wrap64 1 = 1 := by decide +kernel
  have w1 : wrap64 2 = 2 := by decide +kernel
  have w2 : wrap64 3 = 3 := by decide +kernel
  have r0 : rd [15, 4, 0] 0 = 15 := by decide +kernel
  have r1 : rd [15, 4, 0] 1 = 4 := by decide +kernel
  have r2 : rd [15, 4, 0] 2 = 0 := by decide +kernel
  unfold upI
  by_cases c0 : (4 : Int) ≥ q
  · by_cases c1 : (0 : Int) ≥ q
    · simp [impl_SpanWide.l1, w0, w1, w2, r0, r1, r2, c0, c1, hq]
    · simp [impl_SpanWide.l1, w0, w1, w2, r0, r1, r2, c0, c1, hq]
  · simp [impl_SpanWide.l1, w0, w1, w2, r0, r1, r2, c0, hq, show ¬ q ≤ 0 by omega]
theorem wide_j2 (k : Nat) (a : Bool) (l h : Int) (b : Bool) (m q : Int) (x : Bool) (y z : Int) (hq : q ≤ 15) : impl_SpanWide.j2 (k + 5) a l h b m q x y z = some (x, y, if z > h then upI q else z) := by
  have e := wide_l1 k b m q x y z hq
  simp only [impl_SpanWide.j2, Option.bind_some]
  by_cases c : z > h
  · rw [if_pos c, if_pos c]
    exact e
  · rw [if_neg c, if_neg c]
theorem wide_l0 (k : Nat) (a : Bool) (l h : Int) (b : Bool) (m q : Int) (x : Bool) (y z : Int) (hm : -16 ≤ m) : impl_SpanWide.l0 (k + 4) [-16, -4, 0] 3 0 a l h b m q x y z = impl_SpanWide.j2 k a l h b m q x (downI m) z := by
  have w0 : wrap64 1 = 1 := by decide +kernel
  have w1 : wrap64 2 = 2 := by decide +kernel
  have w2 : wrap64 3 = 3 := by decide +kernel
  have r0 : rd [-16, -4, 0] 0 = -16 := by decide +kernel
  have r1 : rd [-16, -4, 0] 1 = -4 := by decide +kernel
  have r2 : rd [-16, -4, 0] 2 = 0 := by decide +kernel
  unfold downI
  by_cases c0 : (-4 : Int) ≤ m
  · by_cases c1 : (0 : Int) ≤ m
    · simp [impl_SpanWide.l0, w0, w1, w2, r0, r1, r2, c0, c1, hm]
    · simp [impl_SpanWide.l0, w0, w1, w2, r0, r1, r2, c0, c1, hm]
  · simp [impl_SpanWide.l0, w0, w1, w2, r0, r1, r2, c0, hm, show ¬ (0 : Int) ≤ m by omega]
theorem implWide_eq (k : Nat) (hk : 1001 < k) (a : Bool) (l h : Int) (b : Bool) (m q : Int) : impl_SpanWide.f k a l h b m q = some (wideS a l h b m q) := by
  obtain ⟨k, rfl⟩ : ∃ j, k = j + 11 := ⟨k - 11, by omega⟩
  unfold impl_SpanWide.f wideS
  rw [implJoin_eq _ hk, bothOk_eq]; simp only [Option.bind_some]
  by_cases c : (okS a l h && okS b m q) = true
  · rw [if_pos c, c]
    simp only [Bool.and_eq_true] at c
    obtain ⟨c1, c2⟩ := c
    cases a <;> cases b <;> simp [impl_SpanWide.j0]
    rw [show joinS true l h true m q = (true, mn l m, mx h q) by unfold joinS; simp [c1, c2]]
    rw [ok_true] at c1 c2
    have A := @mn_le l m
    have B := @mx_le h q
    simp only
    by_cases e : mn l m < l
    · rw [if_pos e, if_pos e, show mn l m = m by omega]
      have := wide_l0 (k + 6) true l h true m q true m (mx h q) (by omega)
      rw [this, show k + 6 = (k + 1) + 5 by omega, wide_j2 _ _ _ _ _ _ _ _ _ _ (by omega)]
      by_cases g : mx h q > h
      · rw [if_pos g, if_pos g, show mx h q = q by omega]
      · rw [if_neg g, if_neg g]
    · rw [if_neg e, if_neg e, show k + 10 = (k + 5) + 5 by omega, wide_j2 _ _ _ _ _ _ _ _ _ _ (by omega)]
      by_cases g : mx h q > h
      · rw [if_pos g, if_pos g, show mx h q = q by omega]
      · rw [if_neg g, if_neg g]
  · rw [if_neg c, show (okS a l h && okS b m q) = false by simpa using c]
    simp [impl_SpanWide.j0]
theorem eqSpan_self (a : Bool) (l h : Int) : laws_eqSpan.f a l h a l h = some true := by
  unfold laws_eqSpan.f
  simp
theorem FnExactSpanWide : laws_FnExactSpanWide.Pure := by
  intro a l h b m q _ _ _ _
  refine ⟨2000, ?_⟩
  unfold laws_FnExactSpanWide.f laws_toSpan.f
  simp [specWide_eq 1999, implWide_eq 2000 (by omega), eqSpan_self]

end Go.Proofs.Ytbgaoidihgpldab.Pure
