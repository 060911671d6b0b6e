/- What is proved: the pure statement of the law FnSpanKinds: at every input that fits, the printed function answers true. No condition. -/
import Derived.Test.YtbgaoidihgpldacQx11
namespace Go.Proofs.Ytbgaoidihgpldac.Pure
open Go.RowKit Go.Proofs.Ytbgaoidihgpldac.Q Go.Proofs.YtbgaoidihgpldacW.PrintWords Go.Proofs.YtbgaoidihgpldacW.PrintLast

theorem tm32 (a : Int) : ∃ q, a = 32 * q + Int.tmod a 32 ∧ -32 < Int.tmod a 32 ∧ Int.tmod a 32 < 32 := ⟨Int.tdiv a 32, (Int.mul_tdiv_add_tmod a 32).symm, Int.lt_tmod_of_pos a (by decide), Int.tmod_lt_of_pos a (by decide)⟩
theorem wrap_small (a : Int) (h0 : -9223372036854775808 ≤ a) (h1 : a ≤ 9223372036854775807) : wrap64 a = a := by
  unfold wrap64; omega
theorem xor_nonneg (a b : Int) (ha : 0 ≤ a) (ha1 : a < 4611686018427387904) (hb : 0 ≤ b) (hb1 : b < 4611686018427387904) : 0 ≤ Go.bits .xor .i64 a b := by
  obtain ⟨x, rfl⟩ := Int.eq_ofNat_of_zero_le ha
  obtain ⟨y, rfl⟩ := Int.eq_ofNat_of_zero_le hb
  have hx : x < 2 ^ 62 := by omega
  have hy : y < 2 ^ 62 := by omega
  have hx' : x % 2 ^ 64 = x := Nat.mod_eq_of_lt (by omega)
  have hy' : y % 2 ^ 64 = y := Nat.mod_eq_of_lt (by omega)
  have hz : x ^^^ y < 2 ^ 62 := Nat.xor_lt_two_pow hx hy
  have key : Go.bits .xor .i64 (x : Int) (y : Int) = IntKind.i64.wrap (((BitVec.ofInt 64 (x : Int)) ^^^ (BitVec.ofInt 64 (y : Int))).toNat : Int) := rfl
  rw [key, BitVec.ofInt_natCast, BitVec.ofInt_natCast, BitVec.toNat_xor, BitVec.toNat_ofNat, BitVec.toNat_ofNat, hx', hy', IntKind.wrap_i64]
  omega
theorem byte_of_wf {x : Int} (h : (Lit.int .u8 x).wf = true) : 0 ≤ x ∧ x ≤ 255 := by
  simp [Lit.wf, IntKind.min, IntKind.max, IntKind.signed, IntKind.bits] at h
  omega
theorem rd_byte {l : List Int} (hb : ∀ x ∈ l, 0 ≤ x ∧ x ≤ 255) (i : Int) : 0 ≤ rd l i ∧ rd l i ≤ 255 := by
  unfold rd
  by_cases h : i.toNat < l.length
  · rw [List.getD_eq_getElem?_getD, List.getElem?_eq_getElem h]
    exact hb _ (List.getElem_mem h)
  · rw [List.getD_eq_getElem?_getD, List.getElem?_eq_none (by omega)]
    simp
theorem tmod_range (a n : Int) (ha : 0 ≤ a) (hn : 0 < n) : 0 ≤ Int.tmod a n ∧ Int.tmod a n < n := by
  rw [Int.tmod_eq_emod_of_nonneg ha]
  exact ⟨Int.emod_nonneg _ (by omega), Int.emod_lt_of_pos _ hn⟩
theorem tdiv_range (a n : Int) (ha : 0 ≤ a) (hn : 0 < n) : 0 ≤ Int.tdiv a n ∧ Int.tdiv a n ≤ a := by
  rw [Int.tdiv_eq_ediv_of_nonneg ha]
  exact ⟨Int.ediv_nonneg ha (by omega), Int.ediv_le_self _ ha⟩
/-- What a reader of a code gives: a number below n. -/
theorem pick_ok (k : Nat) (l : List Int) (p n : Int) (hb : ∀ x ∈ l, 0 ≤ x ∧ x ≤ 255) (hp : 0 ≤ p) (hp1 : p ≤ 100000000) :
    ∃ r, spec_l6Rd_pick.f (k + 1) l p n = some (r, p + 1) ∧ 0 ≤ r ∧ (1 ≤ n → r < n) := by
  have hw : wrap64 (p + 1) = p + 1 := wrap_small _ (by omega) (by omega)
  have hw2 : wrap64 (p + 1 - 1) = p := by rw [show p + 1 - 1 = p by omega]; exact wrap_small _ (by omega) (by omega)
  unfold spec_l6Rd_pick.f
  rw [hw]
  by_cases h1 : n < 1
  · rw [if_pos h1]
    simp only [spec_l6Rd_pick.j0, if_true]
    exact ⟨0, rfl, by omega, by omega⟩
  rw [if_neg h1]
  by_cases h2 : (l.length : Int) = 0
  · have e : ((l.length : Int) == 0) = true := by simpa using h2
    rw [e]
    simp only [spec_l6Rd_pick.j0, if_true]
    exact ⟨0, rfl, by omega, by omega⟩
  have e : ((l.length : Int) == 0) = false := by simpa using h2
  rw [e]
  simp only [spec_l6Rd_pick.j0, hw2]
  rw [if_neg (by simp)]
  by_cases h3 : p < (l.length : Int)
  · rw [if_pos h3, if_pos hp, if_neg (by omega)]
    have hr := rd_byte hb p
    rw [wrap_small _ (by omega) (by omega)]
    have := tmod_range (rd l p) n hr.1 (by omega)
    exact ⟨_, rfl, this.1, fun _ => this.2⟩
  · rw [if_neg h3, if_neg h2]
    have hL : (0 : Int) < (l.length : Int) := by omega
    have e7 : wrap64 (p * 7) = p * 7 := wrap_small _ (by omega) (by omega)
    have e73 : wrap64 (p * 7 + 3) = p * 7 + 3 := wrap_small _ (by omega) (by omega)
    rw [e7, e73]
    have m1 := tmod_range p l.length hp hL
    have m2 := tmod_range (p * 7 + 3) l.length (by omega) hL
    rw [if_pos m1.1, if_pos m1.2, if_pos m2.1, if_pos m2.2, if_neg (by omega)]
    have r1 := rd_byte hb (Int.tmod p l.length)
    have r2 := rd_byte hb (Int.tmod (p * 7 + 3) l.length)
    have d1 := tdiv_range p l.length hp hL
    generalize rd l (Int.tmod p l.length) = u at *
    generalize rd l (Int.tmod (p * 7 + 3) l.length) = v at *
    generalize Int.tdiv p l.length = d at *
    have w1 : wrap64 u = u := wrap_small _ (by omega) (by omega)
    have w2 : wrap64 v = v := wrap_small _ (by omega) (by omega)
    have w3 : wrap64 (u * 131) = u * 131 := wrap_small _ (by omega) (by omega)
    have w4 : wrap64 (v * 1117) = v * 1117 := wrap_small _ (by omega) (by omega)
    have w5 : wrap64 (u * 131 + v * 1117) = u * 131 + v * 1117 := wrap_small _ (by omega) (by omega)
    have w6 : wrap64 (p * 29) = p * 29 := wrap_small _ (by omega) (by omega)
    have w7 : wrap64 (u * 131 + v * 1117 + p * 29) = u * 131 + v * 1117 + p * 29 := wrap_small _ (by omega) (by omega)
    have w8 : wrap64 d = d := wrap_small _ (by omega) (by omega)
    have w9 : wrap64 (d * 53) = d * 53 := wrap_small _ (by omega) (by omega)
    have w10 : wrap64 (u * 131 + v * 1117 + p * 29 + d * 53) = u * 131 + v * 1117 + p * 29 + d * 53 := wrap_small _ (by omega) (by omega)
    simp only [w1, w2, w3, w4, w5, w6, w7, w8, w9, w10]
    have hx0 : 0 ≤ u * 131 + v * 1117 + p * 29 + d * 53 := by omega
    have hx1 : u * 131 + v * 1117 + p * 29 + d * 53 < 1000000000000 := by omega
    generalize u * 131 + v * 1117 + p * 29 + d * 53 = x at *
    have t1 := tdiv_range x 64 hx0 (by decide)
    rw [wrap_small (Int.tdiv x 64) (by omega) (by omega)]
    have x1 := xor_nonneg x (Int.tdiv x 64) (by omega) (by omega) (by omega) (by omega)
    have := tmod_range (Go.bits .xor .i64 x (Int.tdiv x 64)) n x1 (by omega)
    exact ⟨_, rfl, this.1, fun _ => this.2⟩
theorem open_ok (l : List Int) (hb : ∀ x ∈ l, 0 ≤ x ∧ x ≤ 255) : ∃ l', spec_l6Open.f l = some (l', 0) ∧ ∀ x ∈ l', 0 ≤ x ∧ x ≤ 255 := by
  unfold spec_l6Open.f
  by_cases h : (l.length : Int) > 2000
  · rw [if_pos h, if_pos (by omega)]
    exact ⟨_, rfl, fun x hx => hb x (List.mem_of_mem_take hx)⟩
  · rw [if_neg h]
    exact ⟨l, rfl, hb⟩
theorem word_ok (k : Nat) (l : List Int) (p : Int) (hb : ∀ x ∈ l, 0 ≤ x ∧ x ≤ 255) (hp : 0 ≤ p) (hp1 : p ≤ 50000000) :
    ∃ n p', spec_l71Word.f (k + 1) l p = some (n, p') ∧ -16 ≤ n ∧ n ≤ 15 ∧ p ≤ p' ∧ p' ≤ p + 2 := by
  unfold spec_l71Word.f
  obtain ⟨r1, h1, q1, s1⟩ := pick_ok k l p 3 hb (by omega) (by omega)
  rw [h1]; simp only [Option.bind_some]
  by_cases c : r1 = 0
  · rw [if_pos c]
    obtain ⟨r2, h2, q2, s2⟩ := pick_ok k l (p + 1) 6 hb (by omega) (by omega)
    rw [h2]; simp only [Option.bind_some]
    have s2' := s2 (by omega)
    rw [if_pos q2, if_pos (by simp; omega)]
    refine ⟨_, _, rfl, ?_⟩
    have hc : r2 = 0 ∨ r2 = 1 ∨ r2 = 2 ∨ r2 = 3 ∨ r2 = 4 ∨ r2 = 5 := by omega
    rcases hc with rfl | rfl | rfl | rfl | rfl | rfl <;> simp [rd] <;> omega
  · rw [if_neg c]
    unfold spec_l1Many.f
    simp only [Option.bind_some]
    obtain ⟨r2, h2, q2, s2⟩ := pick_ok k l (p + 1) 32 hb (by omega) (by omega)
    rw [h2]; simp only [Option.bind_some]
    have s2' := s2 (by omega)
    rw [wrap_small _ (by omega) (by omega)]
    exact ⟨_, _, rfl, by omega, by omega, by omega, by omega⟩
/-- Is a span valid? -/
def okS (a : Bool) (l h : Int) : Bool := if a = true then decide (-16 ≤ l ∧ l ≤ 15 ∧ -16 ≤ h ∧ h ≤ 15 ∧ l ≤ h) else (l == 0 && h == 0)
/-- A word? -/
def wordB (n : Int) : Bool := decide (-16 ≤ n ∧ n ≤ 15)
theorem some_if_true {p : Prop} [Decidable p] (b : Bool) : (if p then (some b) else (some false)) = some (decide p && b) := by
  by_cases h : p <;> simp [h]
theorem l6In_eq (n lo hi : Int) : spec_l6In.f n lo hi = some (decide (lo ≤ n ∧ n ≤ hi)) := by
  unfold spec_l6In.f
  by_cases h1 : n ≥ lo
  · rw [if_pos h1]; congr 1; rw [decide_eq_decide]; omega
  · rw [if_neg h1]; congr 1; symm; rw [decide_eq_false_iff_not]; omega
theorem l1Word_eq (n : Int) : spec_l1Word.f n = some (wordB n) := by
  unfold spec_l1Word.f
  rw [l6In_eq]; rfl
theorem specOk_eq (a : Bool) (l h : Int) : spec_SpanOk.f a l h = some (okS a l h) := by
  unfold spec_SpanOk.f okS
  cases a
  · simp
  · simp only [if_true, l1Word_eq, Option.bind_some, wordB]
    by_cases h1 : -16 ≤ l ∧ l ≤ 15 <;> by_cases h2 : -16 ≤ h ∧ h ≤ 15 <;> simp [h1, h2] <;> omega
theorem l1Of_eq (l h : Int) : spec_l1Of.f l h = some (if l ≤ h then (true, l, h) else (false, 0, 0)) := by
  unfold spec_l1Of.f
  by_cases c : l ≤ h
  · rw [if_neg (by omega), if_pos c]
  · rw [if_pos (by omega), if_neg c]
/-- The span of a word. -/
def ofS (n : Int) : Bool × Int × Int := if wordB n = true then (true, n, n) else (false, 0, 0)
theorem some_ok (k : Nat) (l : List Int) (p : Int) (hb : ∀ x ∈ l, 0 ≤ x ∧ x ≤ 255) (hp : 0 ≤ p) (hp1 : p ≤ 40000000) :
    ∃ a lo hi p', spec_l71Some.f (k + 1) l p = some (a, lo, hi, p') ∧ p ≤ p' ∧ p' ≤ p + 7 := by
  unfold spec_l71Some.f
  obtain ⟨n1, p1, h1, q1, s1, t1, u1⟩ := word_ok k l p hb (by omega) (by omega)
  rw [h1]; simp only [Option.bind_some]
  obtain ⟨r2, h2, q2, s2⟩ := pick_ok k l p1 4 hb (by omega) (by omega)
  rw [h2]; simp only [Option.bind_some]
  by_cases c : r2 = 0
  · rw [if_pos c, l1Of_eq]; simp only [Option.bind_some]
    exact ⟨_, _, _, _, rfl, by omega, by omega⟩
  · rw [if_neg c]
    obtain ⟨n3, p3, h3, q3, s3, t3, u3⟩ := word_ok k l (p1 + 1) hb (by omega) (by omega)
    rw [h3]; simp only [Option.bind_some]
    obtain ⟨r4, h4, q4, s4⟩ := pick_ok k l p3 2 hb (by omega) (by omega)
    rw [h4]; simp only [Option.bind_some]
    by_cases c4 : r4 = 0
    · rw [if_pos c4]
      obtain ⟨r5, h5, q5, s5⟩ := pick_ok k l (p3 + 1) 5 hb (by omega) (by omega)
      rw [h5]; simp only [Option.bind_some]
      rw [l1Of_eq]; simp only [Option.bind_some]
      exact ⟨_, _, _, _, rfl, by omega, by omega⟩
    · rw [if_neg c4, l1Of_eq]; simp only [Option.bind_some]
      exact ⟨_, _, _, _, rfl, by omega, by omega⟩
theorem span_ok (k : Nat) (l : List Int) (p : Int) (hb : ∀ x ∈ l, 0 ≤ x ∧ x ≤ 255) (hp : 0 ≤ p) (hp1 : p ≤ 30000000) :
    ∃ a lo hi p', spec_l71Span.f (k + 1) l p = some (a, lo, hi, p') ∧ p ≤ p' ∧ p' ≤ p + 10 := by
  unfold spec_l71Span.f
  obtain ⟨r1, h1, q1, s1⟩ := pick_ok k l p 24 hb (by omega) (by omega)
  rw [h1]; simp only [Option.bind_some]
  by_cases c : r1 = 0
  · rw [if_pos c]
    exact ⟨_, _, _, _, rfl, by omega, by omega⟩
  rw [if_neg c]
  by_cases c2 : r1 = 1
  · rw [if_pos c2]
    obtain ⟨r2, h2, q2, s2⟩ := pick_ok k l (p + 1) 4 hb (by omega) (by omega)
    rw [h2]; simp only [Option.bind_some]
    have s2' := s2 (by omega)
    rw [if_pos q2, if_pos (by simp; omega)]
    exact ⟨_, _, _, _, rfl, by omega, by omega⟩
  · rw [if_neg c2]
    obtain ⟨a, lo, hi, p', h3, q3, s3⟩ := some_ok k l (p + 1) hb (by omega) (by omega)
    rw [h3]; simp only [Option.bind_some]
    exact ⟨_, _, _, _, rfl, by omega, by omega⟩
theorem isWord_eq (n : Int) : impl_isWord.f n = some (wordB n) := by
  unfold impl_isWord.f wordB
  by_cases h1 : n ≥ -16
  · rw [if_pos h1]; congr 1; rw [decide_eq_decide]; omega
  · rw [if_neg h1]; congr 1; symm; rw [decide_eq_false_iff_not]; omega
theorem implOk_eq (a : Bool) (l h : Int) : impl_SpanOk.f a l h = some (okS a l h) := by
  unfold impl_SpanOk.f okS
  cases a
  · simp
  · simp only [if_true, isWord_eq, Option.bind_some, wordB]
    by_cases h1 : -16 ≤ l ∧ l ≤ 15 <;> by_cases h2 : -16 ≤ h ∧ h ≤ 15 <;> simp [h1, h2] <;> omega
/-- Does a span have a number? -/
def hasS (a : Bool) (l h n : Int) : Bool := okS a l h && (a && decide (l ≤ n ∧ n ≤ h))
theorem implHas_eq (a : Bool) (l h n : Int) : impl_SpanHas.f a l h n = some (hasS a l h n) := by
  unfold impl_SpanHas.f hasS
  rw [implOk_eq]; simp only [Option.bind_some]
  cases okS a l h <;> cases a <;> simp
  by_cases h1 : l ≤ n <;> simp [h1]
theorem ok_true {l h : Int} : okS true l h = true ↔ -16 ≤ l ∧ l ≤ 15 ∧ -16 ≤ h ∧ h ≤ 15 ∧ l ≤ h := by
  unfold okS
  simp
theorem ok_false {l h : Int} : okS false l h = true ↔ l = 0 ∧ h = 0 := by
  unfold okS
  simp
/-- The meet of two spans. -/
def meetS (a : Bool) (l h : Int) (b : Bool) (m q : Int) : Bool × Int × Int :=
  if (okS a l h && okS b m q && a && b) = true then (if mx l m ≤ mn h q then (true, mx l m, mn h q) else (false, 0, 0)) else (false, 0, 0)
theorem l1Some_eq (a : Bool) (l h : Int) : spec_l1Some.f a l h = some (a && okS a l h) := by
  unfold spec_l1Some.f
  rw [specOk_eq]; simp only [Option.bind_some]
  cases a <;> simp
theorem specMeet_eq (a : Bool) (l h : Int) (b : Bool) (m q : Int) : spec_SpanMeet.f a l h b m q = some (meetS a l h b m q) := by
  unfold spec_SpanMeet.f meetS
  rw [l1Some_eq, l1Some_eq, l1Of_eq]; simp only [Option.bind_some]
  cases a <;> cases b <;> simp
  cases okS true l h <;> cases okS true m q <;> simp
/-- More rounds change nothing. -/
theorem up_fuel {α : Type} {f : Nat → Option α} (mono : ∀ k, LeO (f k) (f (k + 1))) {a b : Nat} {v : α} (h : f a = some v) (hab : a ≤ b) : f b = some v := by
  induction b with
  | zero => rw [show a = 0 by omega] at h; exact h
  | succ b ih =>
    by_cases e : a = b + 1
    · rw [← e]; exact h
    · exact mono b _ (ih (by omega))
theorem spread (p : Int → Int → Bool) (h : (List.range 32).all (fun i => (List.range 32).all (fun j => p ((i : Int) - 16) ((j : Int) - 16))) = true) (l m : Int) (h1 : -16 ≤ l) (h2 : l ≤ 15) (h3 : -16 ≤ m) (h4 : m ≤ 15) : p l m = true := by
  rw [List.all_eq_true] at h
  have a := h (l + 16).toNat (by rw [List.mem_range]; omega)
  rw [List.all_eq_true] at a
  have b := a (m + 16).toNat (by rw [List.mem_range]; omega)
  rw [show (((l + 16).toNat : Nat) : Int) - 16 = l by omega, show (((m + 16).toNat : Nat) : Int) - 16 = m by omega] at b
  exact b
theorem kinds_bad (k : Nat) (a : Bool) (l h : Int) (c : okS a l h = false) : impl_SpanKinds.f k a l h = some [] := by
  unfold impl_SpanKinds.f
  rw [implOk_eq, c]
  rfl
theorem meet_bad (a : Bool) (l h : Int) (c : (a && okS a l h) = false) (b : Bool) (m q : Int) : meetS a l h b m q = (false, 0, 0) := by
  unfold meetS
  rw [if_neg]
  intro hh
  simp only [Bool.and_eq_true] at hh
  rw [hh.1.1.1, hh.1.2] at c
  simp at c
theorem specKinds_bad (k : Nat) (a : Bool) (l h : Int) (c : (a && okS a l h) = false) : spec_SpanKinds.f (k + 4) a l h = some [] := by
  have w0 : wrap64 1 = 1 := by decide +kernel
  have w1 : wrap64 2 = 2 := by decide +kernel
  have w2 : wrap64 3 = 3 := by decide +kernel
  have e0 : spec_KindSpan.f 0 = some (true, -16, -1) := by decide
  have e1 : spec_KindSpan.f 1 = some (true, 0, 0) := by decide
  have e2 : spec_KindSpan.f 2 = some (true, 1, 15) := by decide
  unfold spec_SpanKinds.f
  simp [spec_SpanKinds.l0, w0, w1, w2, e0, e1, e2, specMeet_eq, meet_bad a l h c, l1Some_eq]
theorem draw_SpanKinds (k : Nat) (l : List Int) (hb : ∀ x ∈ l, 0 ≤ x ∧ x ≤ 255) : ∃ r, spec_DrawSpanKinds.f (k + 1) l = some r := by
  unfold spec_DrawSpanKinds.f
  obtain ⟨l', h, hb'⟩ := open_ok l hb
  rw [h]; simp only [Option.bind_some]
  obtain ⟨a, lo, hi, p1, h1, q1, s1⟩ := span_ok k l' 0 hb' (by omega) (by omega)
  rw [h1]; simp only [Option.bind_some]
  exact ⟨_, rfl⟩
/-- What is found of a span, up to a word. -/
def f0I (a : Bool) (l _h n : Int) : Int := if a = true ∧ l ≤ -1 ∧ l < n then 1 else 0
def f1I (a : Bool) (l h n : Int) : Int := if a = true ∧ l ≤ 0 ∧ 0 ≤ h ∧ 0 < n then 1 else 0
def f2I (a : Bool) (l h n : Int) : Int := if a = true ∧ 1 ≤ h ∧ l < n ∧ 1 < n then 1 else 0
theorem kind_of (k : Nat) (hk : 100 ≤ k) : impl_KindSpan.f k 0 = some (true, -16, -1) ∧ impl_KindSpan.f k 1 = some (true, 0, 0) ∧ impl_KindSpan.f k 2 = some (true, 1, 15) :=
  ⟨up_fuel (f := fun k => impl_KindSpan.f k 0) (fun k => impl_KindSpan.mono 0 k) (show impl_KindSpan.f 100 0 = some (true, -16, -1) by decide +kernel) hk,
   up_fuel (f := fun k => impl_KindSpan.f k 1) (fun k => impl_KindSpan.mono 1 k) (show impl_KindSpan.f 100 1 = some (true, 0, 0) by decide +kernel) hk,
   up_fuel (f := fun k => impl_KindSpan.f k 2) (fun k => impl_KindSpan.mono 2 k) (show impl_KindSpan.f 100 2 = some (true, 1, 15) by decide +kernel) hk⟩
theorem round_kinds (k : Nat) (hk : 110 ≤ k) (K : List Int) (g0 g1 g2 n : Int) (a : Bool) (l h : Int) (h0 : -16 ≤ n) (h1 : n ≤ 15) :
    laws_FnSpanKinds.l1 (k + 4) K [g0, g1, g2] n 0 0 a l h = laws_FnSpanKinds.l0 k K (if hasS a l h n = true then (if n ≤ -1 then [1, g1, g2] else if n = 0 then [g0, 1, g2] else [g0, g1, 1]) else [g0, g1, g2]) (n + 1) a l h := by
  have w0 : wrap64 1 = 1 := by decide +kernel
  have w1 : wrap64 2 = 2 := by decide +kernel
  have w2 : wrap64 3 = 3 := by decide +kernel
  have wn : wrap64 (n + 1) = n + 1 := wrap_small _ (by omega) (by omega)
  obtain ⟨a0, _, _⟩ := kind_of (k + 3) (by omega)
  obtain ⟨_, a1, _⟩ := kind_of (k + 2) (by omega)
  obtain ⟨_, _, a2⟩ := kind_of (k + 1) (by omega)
  have b0 : hasS true (-16) (-1) n = decide (n ≤ -1) := by unfold hasS; rw [show okS true (-16) (-1) = true by decide, Bool.true_and, Bool.true_and, decide_eq_decide]; omega
  have b1 : hasS true 0 0 n = decide (n = 0) := by unfold hasS; rw [show okS true 0 0 = true by decide, Bool.true_and, Bool.true_and, decide_eq_decide]; omega
  have b2 : hasS true 1 15 n = decide (1 ≤ n) := by unfold hasS; rw [show okS true 1 15 = true by decide, Bool.true_and, Bool.true_and, decide_eq_decide]; omega
  by_cases c0 : n ≤ -1
  · have d1 : ¬ n = 0 := by omega
    have d2 : ¬ 1 ≤ n := by omega
    cases e : hasS a l h n <;> simp [laws_FnSpanKinds.l1, a0, a1, a2, implHas_eq, b0, b1, b2, c0, d1, d2, e, w0, w1, w2, wn]
  · by_cases c1 : n = 0
    · subst c1
      cases e : hasS a l h 0 <;> simp [laws_FnSpanKinds.l1, a0, a1, a2, implHas_eq, b0, b1, b2, e, w0, w1, w2]
    · have d2 : 1 ≤ n := by omega
      cases e : hasS a l h n <;> simp [laws_FnSpanKinds.l1, a0, a1, a2, implHas_eq, b0, b1, b2, c0, c1, d2, e, w0, w1, w2, wn]
theorem loop_kinds (K : List Int) (a : Bool) (l h : Int) (ok : okS a l h = true ∨ a = false) (V : Bool) (d : Nat) : ∀ (k : Nat) (n : Int), -16 ≤ n → n ≤ 16 → 16 - n = d → 120 + 5 * d < k →
    (∀ k, 120 < k → laws_FnSpanKinds.l0 k K [f0I a l h 16, f1I a l h 16, f2I a l h 16] 16 a l h = some V) →
    laws_FnSpanKinds.l0 k K [f0I a l h n, f1I a l h n, f2I a l h n] n a l h = some V := by
  induction d with
  | zero =>
    intro k n h0 h1 hd hk hV
    obtain rfl : n = 16 := by omega
    exact hV k (by omega)
  | succ d ih =>
    intro k n h0 h1 hd hk hV
    obtain ⟨k, rfl⟩ : ∃ j, k = j + 5 := ⟨k - 5, by omega⟩
    rw [show laws_FnSpanKinds.l0 (k + 5) K [f0I a l h n, f1I a l h n, f2I a l h n] n a l h = laws_FnSpanKinds.l1 (k + 4) K [f0I a l h n, f1I a l h n, f2I a l h n] n 0 0 a l h by simp only [laws_FnSpanKinds.l0]; rw [if_pos (by omega)]]
    rw [round_kinds k (by omega) K _ _ _ n a l h h0 (by omega)]
    have := ih k (n + 1) (by omega) (by omega) (by omega) (by omega) hV
    have e : (if hasS a l h n = true then (if n ≤ -1 then [1, f1I a l h n, f2I a l h n] else if n = 0 then [f0I a l h n, 1, f2I a l h n] else [f0I a l h n, f1I a l h n, 1]) else [f0I a l h n, f1I a l h n, f2I a l h n]) = [f0I a l h (n + 1), f1I a l h (n + 1), f2I a l h (n + 1)] := by
      rcases ok with ok | rfl
      · cases a
        · simp [hasS, f0I, f1I, f2I]
        · have ok' := ok_true.1 ok
          have hs : hasS true l h n = decide (l ≤ n ∧ n ≤ h) := by unfold hasS; rw [ok]; simp
          rw [hs]
          unfold f0I f1I f2I
          simp only [decide_eq_true_eq, true_and]
          by_cases c : l ≤ n ∧ n ≤ h
          · rw [if_pos c]
            by_cases c0 : n ≤ -1
            · rw [if_pos c0, if_pos (show l ≤ -1 ∧ l < n + 1 by omega), if_neg (show ¬ (l ≤ 0 ∧ 0 ≤ h ∧ 0 < n) by omega), if_neg (show ¬ (l ≤ 0 ∧ 0 ≤ h ∧ 0 < n + 1) by omega), if_neg (show ¬ (1 ≤ h ∧ l < n ∧ 1 < n) by omega), if_neg (show ¬ (1 ≤ h ∧ l < n + 1 ∧ 1 < n + 1) by omega)]
            · rw [if_neg c0]
              by_cases c1 : n = 0
              · subst c1
                rw [if_pos rfl, if_pos (show l ≤ 0 ∧ 0 ≤ h ∧ (0 : Int) < 0 + 1 by omega), if_neg (show ¬ (1 ≤ h ∧ l < 0 ∧ (1 : Int) < 0) by omega), if_neg (show ¬ (1 ≤ h ∧ l < 0 + 1 ∧ (1 : Int) < 0 + 1) by omega)]
                congr 1
                by_cases g : l ≤ -1
                · rw [if_pos (by omega), if_pos (by omega)]
                · rw [if_neg (by omega), if_neg (by omega)]
              · rw [if_neg c1, if_pos (show 1 ≤ h ∧ l < n + 1 ∧ 1 < n + 1 by omega)]
                have x0 : (if l ≤ -1 ∧ l < n then (1 : Int) else 0) = (if l ≤ -1 ∧ l < n + 1 then 1 else 0) := by
                  by_cases g : l ≤ -1
                  · rw [if_pos (by omega), if_pos (by omega)]
                  · rw [if_neg (by omega), if_neg (by omega)]
                have x1 : (if l ≤ 0 ∧ 0 ≤ h ∧ 0 < n then (1 : Int) else 0) = (if l ≤ 0 ∧ 0 ≤ h ∧ 0 < n + 1 then 1 else 0) := by
                  by_cases g : l ≤ 0
                  · rw [if_pos (by omega), if_pos (by omega)]
                  · rw [if_neg (by omega), if_neg (by omega)]
                rw [x0, x1]
          · rw [if_neg c]
            have x0 : (if l ≤ -1 ∧ l < n then (1 : Int) else 0) = (if l ≤ -1 ∧ l < n + 1 then 1 else 0) := by
              by_cases g : l ≤ -1 ∧ l < n
              · rw [if_pos g, if_pos (by omega)]
              · rw [if_neg g, if_neg (by omega)]
            have x1 : (if l ≤ 0 ∧ 0 ≤ h ∧ 0 < n then (1 : Int) else 0) = (if l ≤ 0 ∧ 0 ≤ h ∧ 0 < n + 1 then 1 else 0) := by
              by_cases g : l ≤ 0 ∧ 0 ≤ h ∧ 0 < n
              · rw [if_pos g, if_pos (by omega)]
              · rw [if_neg g, if_neg (by omega)]
            have x2 : (if 1 ≤ h ∧ l < n ∧ 1 < n then (1 : Int) else 0) = (if 1 ≤ h ∧ l < n + 1 ∧ 1 < n + 1 then 1 else 0) := by
              by_cases g : 1 ≤ h ∧ l < n ∧ 1 < n
              · rw [if_pos g, if_pos (by omega)]
              · rw [if_neg g, if_neg (by omega)]
            rw [x0, x1, x2]
      · simp [hasS, f0I, f1I, f2I]
    rw [e]
    exact this
/-- What is at the end: all at a span that is told. -/
def lastB (K : List Int) (a : Bool) (l h : Int) : Bool := decide (laws_FnSpanKinds.l0 60 K [f0I a l h 16, f1I a l h 16, f2I a l h 16] 16 a l h = some true)
theorem kinds_two : (List.range 32).all (fun i => (List.range 32).all (fun j => !okS true ((i : Int) - 16) ((j : Int) - 16) || ((spec_SpanKinds.f 60 true ((i : Int) - 16) ((j : Int) - 16)).any fun K => decide (impl_SpanKinds.f 60 true ((i : Int) - 16) ((j : Int) - 16) = some K) && decide (laws_lgInts.f 60 K K = some true) && lastB K true ((i : Int) - 16) ((j : Int) - 16)))) = true := by decide +kernel
theorem l0_up (K L : List Int) (n : Int) (a : Bool) (l h : Int) {v : Bool} {i j : Nat} (e : laws_FnSpanKinds.l0 i K L n a l h = some v) (hij : i ≤ j) : laws_FnSpanKinds.l0 j K L n a l h = some v :=
  up_fuel (f := fun k => laws_FnSpanKinds.l0 k K L n a l h) (fun k => (laws_FnSpanKinds.mono_l k).1 K L n a l h) e hij
theorem spoilt_last (a : Bool) (l h : Int) (hs : ∀ n, hasS a l h n = false) (V : Bool) (d : Nat) : ∀ (k : Nat) (n : Int), -16 ≤ n → n ≤ 16 → 16 - n = d → 120 + 5 * d < k →
    (∀ k, 120 < k → laws_FnSpanKinds.l0 k [] [0, 0, 0] 16 a l h = some V) → laws_FnSpanKinds.l0 k [] [0, 0, 0] n a l h = some V := by
  induction d with
  | zero =>
    intro k n h0 h1 hd hk hV
    obtain rfl : n = 16 := by omega
    exact hV k (by omega)
  | succ d ih =>
    intro k n h0 h1 hd hk hV
    obtain ⟨k, rfl⟩ : ∃ j, k = j + 5 := ⟨k - 5, by omega⟩
    rw [show laws_FnSpanKinds.l0 (k + 5) [] [0, 0, 0] n a l h = laws_FnSpanKinds.l1 (k + 4) [] [0, 0, 0] n 0 0 a l h by simp only [laws_FnSpanKinds.l0]; rw [if_pos (by omega)]]
    rw [round_kinds k (by omega) [] _ _ _ n a l h h0 (by omega), hs n, if_neg (by simp)]
    exact ih k (n + 1) (by omega) (by omega) (by omega) (by omega) hV
theorem FnSpanKinds : laws_FnSpanKinds.Pure := by
  intro l0 _ _ hb
  refine ⟨3000, ?_⟩
  unfold laws_FnSpanKinds.f
  by_cases g0 : (l0.length : Int) > 1048576
  · rw [if_pos g0]
  rw [if_neg g0]
  obtain ⟨⟨a, l, h⟩, hn⟩ := draw_SpanKinds 2999 l0 (fun x hx => byte_of_wf (hb x hx))
  rw [hn]; simp only [Option.bind_some]
  by_cases c : (a && okS a l h) = true
  · simp only [Bool.and_eq_true] at c
    obtain ⟨rfl, c⟩ := c
    have c' := ok_true.1 c
    have t := spread (fun l h => !okS true l h || ((spec_SpanKinds.f 60 true l h).any fun K => decide (impl_SpanKinds.f 60 true l h = some K) && decide (laws_lgInts.f 60 K K = some true) && lastB K true l h)) kinds_two l h (by omega) (by omega) (by omega) (by omega)
    simp only [c, Bool.not_true, Bool.false_or] at t
    cases hs : spec_SpanKinds.f 60 true l h with
    | none => rw [hs] at t; simp at t
    | some K =>
      rw [hs] at t
      simp only [Option.any_some, Bool.and_eq_true, decide_eq_true_eq] at t
      obtain ⟨⟨t1, t2⟩, t3⟩ := t
      have u1 : impl_SpanKinds.f 3000 true l h = some K := up_fuel (f := fun k => impl_SpanKinds.f k true l h) (fun k => impl_SpanKinds.mono true l h k) t1 (by omega)
      have u2 : spec_SpanKinds.f 3000 true l h = some K := up_fuel (f := fun k => spec_SpanKinds.f k true l h) (fun k => spec_SpanKinds.mono true l h k) hs (by omega)
      have u3 : laws_lgInts.f 3000 K K = some true := up_fuel (f := fun k => laws_lgInts.f k K K) (fun k => laws_lgInts.mono K K k) t2 (by omega)
      rw [u1, u2]
      simp only [Option.bind_some]
      rw [u3]
      simp only [Option.bind_some, if_true]
      have t4 : laws_FnSpanKinds.l0 60 K [f0I true l h 16, f1I true l h 16, f2I true l h 16] 16 true l h = some true := of_decide_eq_true t3
      have := loop_kinds K true l h (.inl c) true 32 3000 (-16) (by omega) (by omega) (by omega) (by omega) (fun k hk => l0_up _ _ _ _ _ _ t4 (by omega))
      have e0 : f0I true l h (-16) = 0 := by unfold f0I; rw [if_neg (by omega)]
      have e1 : f1I true l h (-16) = 0 := by unfold f1I; rw [if_neg (by omega)]
      have e2 : f2I true l h (-16) = 0 := by unfold f2I; rw [if_neg (by omega)]
      rw [e0, e1, e2] at this
      exact this
  · have c' : (a && okS a l h) = false := by simpa using c
    have i : impl_SpanKinds.f 3000 a l h = some [] := by
      by_cases d : okS a l h = true
      · have : a = false := by
          cases a
          · rfl
          · rw [d] at c'; simp at c'
        subst this
        obtain ⟨rfl, rfl⟩ := ok_false.1 d
        exact up_fuel (f := fun k => impl_SpanKinds.f k false 0 0) (fun k => impl_SpanKinds.mono false 0 0 k) (show impl_SpanKinds.f 60 false 0 0 = some [] by decide +kernel) (by omega)
      · exact kinds_bad 3000 a l h (by simpa using d)
    rw [i, specKinds_bad 2996 a l h c']
    simp only [Option.bind_some]
    rw [show laws_lgInts.f 3000 [] [] = some true from up_fuel (f := fun k => laws_lgInts.f k [] []) (fun k => laws_lgInts.mono [] [] k) (show laws_lgInts.f 60 [] [] = some true by decide +kernel) (by omega)]
    simp only [Option.bind_some, if_true]
    have hs : ∀ n, hasS a l h n = false := fun n => by
      unfold hasS
      cases a
      · simp
      · rw [show okS true l h = false by simpa using c']; rfl
    refine spoilt_last a l h hs true 32 3000 (-16) (by omega) (by omega) (by omega) (by omega) (fun k hk => ?_)
    obtain ⟨k, rfl⟩ : ∃ j, k = j + 2 := ⟨k - 2, by omega⟩
    have r0 : rd [0, 0, 0] 0 = 0 := rfl
    have r1 : rd [0, 0, 0] 1 = 0 := rfl
    have r2 : rd [0, 0, 0] 2 = 0 := rfl
    simp [laws_FnSpanKinds.l0, laws_lgHas.f, laws_lgHas.l0, r0, r1, r2]

end Go.Proofs.Ytbgaoidihgpldac.Pure
