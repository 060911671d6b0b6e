/- What is proved: the pure statement of the law FnSpanLattice: at every input that fits, the printed function answers true. No condition. -/
import Derived.Test.YtbgaoidihgpldacQx9
namespace Go.Proofs.Ytbgaoidihgpldac.Pure
open Go.RowKit Go.Proofs.Ytbgaoidihgpldac.Q Go.Proofs.YtbgaoidihgpldacW.PrintWords Go.Proofs.YtbgaoidihgpldacW.PrintLast

theorem tm32 (a : Int) : ∃ q, a = 32 * q + Int.tmod a 32 ∧ -32 < Int.tmod a 32 ∧ Int.tmod a 32 < 32 := ⟨Int.tdiv a 32, (Int.mul_tdiv_add_tmod a 32).symm, Int.lt_tmod_of_pos a (by decide), Int.tmod_lt_of_pos a (by decide)⟩
theorem wrap_small (a : Int) (h0 : -9223372036854775808 ≤ a) (h1 : a ≤ 9223372036854775807) : wrap64 a = a := by
  unfold wrap64; omega
theorem xor_nonneg (a b : Int) (ha : 0 ≤ a) (ha1 : a < 4611686018427387904) (hb : 0 ≤ b) (hb1 : b < 4611686018427387904) : 0 ≤ Go.bits .xor .i64 a b := by
  obtain ⟨x, rfl⟩ := Int.eq_ofNat_of_zero_le ha
  obtain ⟨y, rfl⟩ := Int.eq_ofNat_of_zero_le hb
  have hx : x < 2 ^ 62 := by omega
  have hy : y < 2 ^ 62 := by omega
  have hx' : x % 2 ^ 64 = x := Nat.mod_eq_of_lt (by omega)
  have hy' : y % 2 ^ 64 = y := Nat.mod_eq_of_lt (by omega)
  have hz : x ^^^ y < 2 ^ 62 := Nat.xor_lt_two_pow hx hy
  have key : Go.bits .xor .i64 (x : Int) (y : Int) = IntKind.i64.wrap (((BitVec.ofInt 64 (x : Int)) ^^^ (BitVec.ofInt 64 (y : Int))).toNat : Int) := rfl
  rw [key, BitVec.ofInt_natCast, BitVec.ofInt_natCast, BitVec.toNat_xor, BitVec.toNat_ofNat, BitVec.toNat_ofNat, hx', hy', IntKind.wrap_i64]
  omega
theorem byte_of_wf {x : Int} (h : (Lit.int .u8 x).wf = true) : 0 ≤ x ∧ x ≤ 255 := by
  simp [Lit.wf, IntKind.min, IntKind.max, IntKind.signed, IntKind.bits] at h
  omega
theorem rd_byte {l : List Int} (hb : ∀ x ∈ l, 0 ≤ x ∧ x ≤ 255) (i : Int) : 0 ≤ rd l i ∧ rd l i ≤ 255 := by
  unfold rd
  by_cases h : i.toNat < l.length
  · rw [List.getD_eq_getElem?_getD, List.getElem?_eq_getElem h]
    exact hb _ (List.getElem_mem h)
  · rw [List.getD_eq_getElem?_getD, List.getElem?_eq_none (by omega)]
    simp
theorem tmod_range (a n : Int) (ha : 0 ≤ a) (hn : 0 < n) : 0 ≤ Int.tmod a n ∧ Int.tmod a n < n := by
  rw [Int.tmod_eq_emod_of_nonneg ha]
  exact ⟨Int.emod_nonneg _ (by omega), Int.emod_lt_of_pos _ hn⟩
theorem tdiv_range (a n : Int) (ha : 0 ≤ a) (hn : 0 < n) : 0 ≤ Int.tdiv a n ∧ Int.tdiv a n ≤ a := by
  rw [Int.tdiv_eq_ediv_of_nonneg ha]
  exact ⟨Int.ediv_nonneg ha (by omega), Int.ediv_le_self _ ha⟩
/-- What a reader of a code gives: a number below n. -/
theorem pick_ok (k : Nat) (l : List Int) (p n : Int) (hb : ∀ x ∈ l, 0 ≤ x ∧ x ≤ 255) (hp : 0 ≤ p) (hp1 : p ≤ 100000000) :
    ∃ r, spec_l6Rd_pick.f (k + 1) l p n = some (r, p + 1) ∧ 0 ≤ r ∧ (1 ≤ n → r < n) := by
  have hw : wrap64 (p + 1) = p + 1 := wrap_small _ (by omega) (by omega)
  have hw2 : wrap64 (p + 1 - 1) = p := by rw [show p + 1 - 1 = p by omega]; exact wrap_small _ (by omega) (by omega)
  unfold spec_l6Rd_pick.f
  rw [hw]
  by_cases h1 : n < 1
  · rw [if_pos h1]
    simp only [spec_l6Rd_pick.j0, if_true]
    exact ⟨0, rfl, by omega, by omega⟩
  rw [if_neg h1]
  by_cases h2 : (l.length : Int) = 0
  · have e : ((l.length : Int) == 0) = true := by simpa using h2
    rw [e]
    simp only [spec_l6Rd_pick.j0, if_true]
    exact ⟨0, rfl, by omega, by omega⟩
  have e : ((l.length : Int) == 0) = false := by simpa using h2
  rw [e]
  simp only [spec_l6Rd_pick.j0, hw2]
  rw [if_neg (by simp)]
  by_cases h3 : p < (l.length : Int)
  · rw [if_pos h3, if_pos hp, if_neg (by omega)]
    have hr := rd_byte hb p
    rw [wrap_small _ (by omega) (by omega)]
    have := tmod_range (rd l p) n hr.1 (by omega)
    exact ⟨_, rfl, this.1, fun _ => this.2⟩
  · rw [if_neg h3, if_neg h2]
    have hL : (0 : Int) < (l.length : Int) := by omega
    have e7 : wrap64 (p * 7) = p * 7 := wrap_small _ (by omega) (by omega)
    have e73 : wrap64 (p * 7 + 3) = p * 7 + 3 := wrap_small _ (by omega) (by omega)
    rw [e7, e73]
    have m1 := tmod_range p l.length hp hL
    have m2 := tmod_range (p * 7 + 3) l.length (by omega) hL
    rw [if_pos m1.1, if_pos m1.2, if_pos m2.1, if_pos m2.2, if_neg (by omega)]
    have r1 := rd_byte hb (Int.tmod p l.length)
    have r2 := rd_byte hb (Int.tmod (p * 7 + 3) l.length)
    have d1 := tdiv_range p l.length hp hL
    generalize rd l (Int.tmod p l.length) = u at *
    generalize rd l (Int.tmod (p * 7 + 3) l.length) = v at *
    generalize Int.tdiv p l.length = d at *
    have w1 : wrap64 u = u := wrap_small _ (by omega) (by omega)
    have w2 : wrap64 v = v := wrap_small _ (by omega) (by omega)
    have w3 : wrap64 (u * 131) = u * 131 := wrap_small _ (by omega) (by omega)
    have w4 : wrap64 (v * 1117) = v * 1117 := wrap_small _ (by omega) (by omega)
    have w5 : wrap64 (u * 131 + v * 1117) = u * 131 + v * 1117 := wrap_small _ (by omega) (by omega)
    have w6 : wrap64 (p * 29) = p * 29 := wrap_small _ (by omega) (by omega)
    have w7 : wrap64 (u * 131 + v * 1117 + p * 29) = u * 131 + v * 1117 + p * 29 := wrap_small _ (by omega) (by omega)
    have w8 : wrap64 d = d := wrap_small _ (by omega) (by omega)
    have w9 : wrap64 (d * 53) = d * 53 := wrap_small _ (by omega) (by omega)
    have w10 : wrap64 (u * 131 + v * 1117 + p * 29 + d * 53) = u * 131 + v * 1117 + p * 29 + d * 53 := wrap_small _ (by omega) (by omega)
    simp only [w1, w2, w3, w4, w5, w6, w7, w8, w9, w10]
    have hx0 : 0 ≤ u * 131 + v * 1117 + p * 29 + d * 53 := by omega
    have hx1 : u * 131 + v * 1117 + p * 29 + d * 53 < 1000000000000 := by omega
    generalize u * 131 + v * 1117 + p * 29 + d * 53 = x at *
    have t1 := tdiv_range x 64 hx0 (by decide)
    rw [wrap_small (Int.tdiv x 64) (by omega) (by omega)]
    have x1 := xor_nonneg x (Int.tdiv x 64) (by omega) (by omega) (by omega) (by omega)
    have := tmod_range (Go.bits .xor .i64 x (Int.tdiv x 64)) n x1 (by omega)
    exact ⟨_, rfl, this.1, fun _ => this.2⟩
theorem open_ok (l : List Int) (hb : ∀ x ∈ l, 0 ≤ x ∧ x ≤ 255) : ∃ l', spec_l6Open.f l = some (l', 0) ∧ ∀ x ∈ l', 0 ≤ x ∧ x ≤ 255 := by
  unfold spec_l6Open.f
  by_cases h : (l.length : Int) > 2000
  · rw [if_pos h, if_pos (by omega)]
    exact ⟨_, rfl, fun x hx => hb x (List.mem_of_mem_take hx)⟩
  · rw [if_neg h]
    exact ⟨l, rfl, hb⟩
theorem word_ok (k : Nat) (l : List Int) (p : Int) (hb : ∀ x ∈ l, 0 ≤ x ∧ x ≤ 255) (hp : 0 ≤ p) (hp1 : p ≤ 50000000) :
    ∃ n p', spec_l71Word.f (k + 1) l p = some (n, p') ∧ -16 ≤ n ∧ n ≤ 15 ∧ p ≤ p' ∧ p' ≤ p + 2 := by
  unfold spec_l71Word.f
  obtain ⟨r1, h1, q1, s1⟩ := pick_ok k l p 3 hb (by omega) (by omega)
  rw [h1]; simp only [Option.bind_some]
  by_cases c : r1 = 0
  · rw [if_pos c]
    obtain ⟨r2, h2, q2, s2⟩ := pick_ok k l (p + 1) 6 hb (by omega) (by omega)
    rw [h2]; simp only [Option.bind_some]
    have s2' := s2 (by omega)
    rw [if_pos q2, if_pos (by simp; omega)]
    refine ⟨_, _, rfl, ?_⟩
    have hc : r2 = 0 ∨ r2 = 1 ∨ r2 = 2 ∨ r2 = 3 ∨ r2 = 4 ∨ r2 = 5 := by omega
    rcases hc with rfl | rfl | rfl | rfl | rfl | rfl <;> simp [rd] <;> omega
  · rw [if_neg c]
    unfold spec_l1Many.f
    simp only [Option.bind_some]
    obtain ⟨r2, h2, q2, s2⟩ := pick_ok k l (p + 1) 32 hb (by omega) (by omega)
    rw [h2]; simp only [Option.bind_some]
    have s2' := s2 (by omega)
    rw [wrap_small _ (by omega) (by omega)]
    exact ⟨_, _, rfl, by omega, by omega, by omega, by omega⟩
/-- Is a span valid? -/
def okS (a : Bool) (l h : Int) : Bool := if a = true then decide (-16 ≤ l ∧ l ≤ 15 ∧ -16 ≤ h ∧ h ≤ 15 ∧ l ≤ h) else (l == 0 && h == 0)
/-- A word? -/
def wordB (n : Int) : Bool := decide (-16 ≤ n ∧ n ≤ 15)
theorem some_if_true {p : Prop} [Decidable p] (b : Bool) : (if p then (some b) else (some false)) = some (decide p && b) := by
  by_cases h : p <;> simp [h]
theorem l6In_eq (n lo hi : Int) : spec_l6In.f n lo hi = some (decide (lo ≤ n ∧ n ≤ hi)) := by
  unfold spec_l6In.f
  by_cases h1 : n ≥ lo
  · rw [if_pos h1]; congr 1; rw [decide_eq_decide]; omega
  · rw [if_neg h1]; congr 1; symm; rw [decide_eq_false_iff_not]; omega
theorem l1Word_eq (n : Int) : spec_l1Word.f n = some (wordB n) := by
  unfold spec_l1Word.f
  rw [l6In_eq]; rfl
theorem specOk_eq (a : Bool) (l h : Int) : spec_SpanOk.f a l h = some (okS a l h) := by
  unfold spec_SpanOk.f okS
  cases a
  · simp
  · simp only [if_true, l1Word_eq, Option.bind_some, wordB]
    by_cases h1 : -16 ≤ l ∧ l ≤ 15 <;> by_cases h2 : -16 ≤ h ∧ h ≤ 15 <;> simp [h1, h2] <;> omega
theorem l1Of_eq (l h : Int) : spec_l1Of.f l h = some (if l ≤ h then (true, l, h) else (false, 0, 0)) := by
  unfold spec_l1Of.f
  by_cases c : l ≤ h
  · rw [if_neg (by omega), if_pos c]
  · rw [if_pos (by omega), if_neg c]
/-- The span of a word. -/
def ofS (n : Int) : Bool × Int × Int := if wordB n = true then (true, n, n) else (false, 0, 0)
theorem some_ok (k : Nat) (l : List Int) (p : Int) (hb : ∀ x ∈ l, 0 ≤ x ∧ x ≤ 255) (hp : 0 ≤ p) (hp1 : p ≤ 40000000) :
    ∃ a lo hi p', spec_l71Some.f (k + 1) l p = some (a, lo, hi, p') ∧ p ≤ p' ∧ p' ≤ p + 7 := by
  unfold spec_l71Some.f
  obtain ⟨n1, p1, h1, q1, s1, t1, u1⟩ := word_ok k l p hb (by omega) (by omega)
  rw [h1]; simp only [Option.bind_some]
  obtain ⟨r2, h2, q2, s2⟩ := pick_ok k l p1 4 hb (by omega) (by omega)
  rw [h2]; simp only [Option.bind_some]
  by_cases c : r2 = 0
  · rw [if_pos c, l1Of_eq]; simp only [Option.bind_some]
    exact ⟨_, _, _, _, rfl, by omega, by omega⟩
  · rw [if_neg c]
    obtain ⟨n3, p3, h3, q3, s3, t3, u3⟩ := word_ok k l (p1 + 1) hb (by omega) (by omega)
    rw [h3]; simp only [Option.bind_some]
    obtain ⟨r4, h4, q4, s4⟩ := pick_ok k l p3 2 hb (by omega) (by omega)
    rw [h4]; simp only [Option.bind_some]
    by_cases c4 : r4 = 0
    · rw [if_pos c4]
      obtain ⟨r5, h5, q5, s5⟩ := pick_ok k l (p3 + 1) 5 hb (by omega) (by omega)
      rw [h5]; simp only [Option.bind_some]
      rw [l1Of_eq]; simp only [Option.bind_some]
      exact ⟨_, _, _, _, rfl, by omega, by omega⟩
    · rw [if_neg c4, l1Of_eq]; simp only [Option.bind_some]
      exact ⟨_, _, _, _, rfl, by omega, by omega⟩
theorem span_ok (k : Nat) (l : List Int) (p : Int) (hb : ∀ x ∈ l, 0 ≤ x ∧ x ≤ 255) (hp : 0 ≤ p) (hp1 : p ≤ 30000000) :
    ∃ a lo hi p', spec_l71Span.f (k + 1) l p = some (a, lo, hi, p') ∧ p ≤ p' ∧ p' ≤ p + 10 := by
  unfold spec_l71Span.f
  obtain ⟨r1, h1, q1, s1⟩ := pick_ok k l p 24 hb (by omega) (by omega)
  rw [h1]; simp only [Option.bind_some]
  by_cases c : r1 = 0
  · rw [if_pos c]
    exact ⟨_, _, _, _, rfl, by omega, by omega⟩
  rw [if_neg c]
  by_cases c2 : r1 = 1
  · rw [if_pos c2]
    obtain ⟨r2, h2, q2, s2⟩ := pick_ok k l (p + 1) 4 hb (by omega) (by omega)
    rw [h2]; simp only [Option.bind_some]
    have s2' := s2 (by omega)
    rw [if_pos q2, if_pos (by simp; omega)]
    exact ⟨_, _, _, _, rfl, by omega, by omega⟩
  · rw [if_neg c2]
    obtain ⟨a, lo, hi, p', h3, q3, s3⟩ := some_ok k l (p + 1) hb (by omega) (by omega)
    rw [h3]; simp only [Option.bind_some]
    exact ⟨_, _, _, _, rfl, by omega, by omega⟩
theorem draw_SpanJoin (k : Nat) (l : List Int) (hb : ∀ x ∈ l, 0 ≤ x ∧ x ≤ 255) : ∃ r, spec_DrawSpanJoin.f (k + 1) l = some r := by
  unfold spec_DrawSpanJoin.f
  obtain ⟨l', h, hb'⟩ := open_ok l hb
  rw [h]; simp only [Option.bind_some]
  obtain ⟨a, lo, hi, p1, h1, q1, s1⟩ := span_ok k l' 0 hb' (by omega) (by omega)
  rw [h1]; simp only [Option.bind_some]
  obtain ⟨b, lo2, hi2, p2, h2, q2, s2⟩ := span_ok k l' p1 hb' (by omega) (by omega)
  rw [h2]; simp only [Option.bind_some]
  exact ⟨_, rfl⟩
theorem ok_true {l h : Int} : okS true l h = true ↔ -16 ≤ l ∧ l ≤ 15 ∧ -16 ≤ h ∧ h ≤ 15 ∧ l ≤ h := by
  unfold okS
  simp
theorem ok_false {l h : Int} : okS false l h = true ↔ l = 0 ∧ h = 0 := by
  unfold okS
  simp
/-- The join of two spans. -/
def joinS (a : Bool) (l h : Int) (b : Bool) (m k : Int) : Bool × Int × Int :=
  if (okS a l h && okS b m k) = true then (if a = true then (if b = true then (true, mn l m, mx h k) else (a, l, h)) else (b, m, k)) else (false, 0, 0)
theorem specJoin_eq (q : Nat) (a : Bool) (l h : Int) (b : Bool) (m k : Int) : spec_SpanJoin.f (q + 1) a l h b m k = some (joinS a l h b m k) := by
  unfold spec_SpanJoin.f joinS
  rw [specOk_eq, specOk_eq]; simp only [Option.bind_some]
  by_cases c1 : okS a l h = true
  · rw [c1]
    by_cases c2 : okS b m k = true
    · rw [c2]
      simp only [if_true, spec_SpanJoin.j0, Bool.not_true, Bool.and_true]
      cases a <;> cases b <;> simp
      rw [ok_true] at c1 c2
      rw [l1Of_eq, if_pos (by unfold mn mx; omega)]
      rfl
    · have c2' : okS b m k = false := by simpa using c2
      rw [c2']
      simp [spec_SpanJoin.j0]
  · have c1' : okS a l h = false := by simpa using c1
    rw [c1']
    simp [spec_SpanJoin.j0]
theorem rd_get {l : List Int} {i : Int} (h0 : 0 ≤ i) (h : i < l.length) : rd l i = l[i.toNat]'(by omega) := by
  unfold rd
  rw [List.getD_eq_getElem?_getD, List.getElem?_eq_getElem (by omega)]; rfl
theorem rd_mem {l : List Int} {i : Int} (h0 : 0 ≤ i) (h : i < l.length) : rd l i ∈ l := by
  rw [rd_get h0 h]
  exact List.getElem_mem _
theorem rd_drop {l : List Int} {i : Int} (h0 : 0 ≤ i) (h : i < l.length) : l.drop i.toNat = rd l i :: l.drop (i + 1).toNat := by
  rw [rd_get h0 h, show (i + 1).toNat = i.toNat + 1 by omega]
  exact List.drop_eq_getElem_cons (by omega)
/-- d numbers in line, from n on. -/
def upFrom : Nat → Int → List Int
  | 0, _ => []
  | d + 1, n => n :: upFrom d (n + 1)
theorem upFrom_mem (d : Nat) : ∀ n x : Int, x ∈ upFrom d n ↔ n ≤ x ∧ x < n + d := by
  induction d with
  | zero => intro n x; simp [upFrom] <;> omega
  | succ d ih => intro n x; simp only [upFrom, List.mem_cons, ih]; omega
theorem upFrom_length (d : Nat) : ∀ n : Int, (upFrom d n).length = d := by
  induction d with
  | zero => intro n; rfl
  | succ d ih => intro n; simp [upFrom, ih]
theorem isWord_eq (n : Int) : impl_isWord.f n = some (wordB n) := by
  unfold impl_isWord.f wordB
  by_cases h1 : n ≥ -16
  · rw [if_pos h1]; congr 1; rw [decide_eq_decide]; omega
  · rw [if_neg h1]; congr 1; symm; rw [decide_eq_false_iff_not]; omega
theorem implOk_eq (a : Bool) (l h : Int) : impl_SpanOk.f a l h = some (okS a l h) := by
  unfold impl_SpanOk.f okS
  cases a
  · simp
  · simp only [if_true, isWord_eq, Option.bind_some, wordB]
    by_cases h1 : -16 ≤ l ∧ l ≤ 15 <;> by_cases h2 : -16 ≤ h ∧ h ≤ 15 <;> simp [h1, h2] <;> omega
/-- The words of a span. -/
def wordsL (a : Bool) (l h : Int) : List Int := if a = true then upFrom (h + 1 - l).toNat l else []
theorem words_loop (l h : Int) (hl : -16 ≤ l) (hh : h ≤ 15) (d : Nat) : ∀ (k : Nat) (acc : List Int) (n : Int), l ≤ n → n ≤ h + 1 → h + 1 - n = d → d < k → acc.length + d ≤ 1000 →
    impl_Span_words.l0 k acc n true l h = some (acc ++ upFrom d n) := by
  induction d with
  | zero =>
    intro k acc n h1 h2 hd hk hc
    obtain ⟨k, rfl⟩ : ∃ j, k = j + 1 := ⟨k - 1, by omega⟩
    simp only [impl_Span_words.l0, if_true]
    rw [if_neg (by omega)]; simp [upFrom]
  | succ d ih =>
    intro k acc n h1 h2 hd hk hc
    obtain ⟨k, rfl⟩ : ∃ j, k = j + 1 := ⟨k - 1, by omega⟩
    simp only [impl_Span_words.l0, if_true]
    rw [if_pos (by omega), if_pos (by omega), wrap_small _ (by omega) (by omega), ih k (acc ++ [n]) (n + 1) (by omega) (by omega) (by omega) (by omega) (by simp; omega)]
    simp [upFrom]
theorem words_eq (k : Nat) (hk : 40 ≤ k) (a : Bool) (l h : Int) (ok : okS a l h = true) : impl_Span_words.f k a l h = some (wordsL a l h) := by
  unfold impl_Span_words.f wordsL
  cases a
  · obtain ⟨k, rfl⟩ : ∃ j, k = j + 1 := ⟨k - 1, by omega⟩
    simp [impl_Span_words.l0]
  · rw [ok_true] at ok
    rw [words_loop l h (by omega) (by omega) (h + 1 - l).toNat k [] l (by omega) (by omega) (by omega) (by omega) (by simp; omega)]
    simp
theorem wordsL_mem (a : Bool) (l h x : Int) (ok : okS a l h = true) : x ∈ wordsL a l h ↔ a = true ∧ l ≤ x ∧ x ≤ h := by
  unfold wordsL
  cases a
  · simp
  · rw [ok_true] at ok
    rw [if_pos rfl, upFrom_mem]
    simp; omega
theorem wordsL_length (a : Bool) (l h : Int) (ok : okS a l h = true) : (wordsL a l h).length ≤ 32 := by
  unfold wordsL
  cases a
  · simp
  · rw [ok_true] at ok
    rw [if_pos rfl, upFrom_length]; omega
theorem min_loop (l : List Int) (hl : l.length ≤ 1000) (d : Nat) : ∀ (k : Nat) (m i : Int), 0 ≤ i → i ≤ l.length → (l.length : Int) - i = d → d < k →
    ∃ r, slices_Min_int_int.l0 k l m i = some r ∧ (r = m ∨ r ∈ l) ∧ r ≤ m ∧ ∀ x ∈ l.drop i.toNat, r ≤ x := by
  induction d with
  | zero =>
    intro k m i h0 h1 hd hk
    obtain ⟨k, rfl⟩ : ∃ j, k = j + 1 := ⟨k - 1, by omega⟩
    simp only [slices_Min_int_int.l0]
    rw [if_neg (by omega)]
    refine ⟨m, rfl, .inl rfl, by omega, fun x hx => ?_⟩
    rw [List.drop_of_length_le (by omega)] at hx
    simp at hx
  | succ d ih =>
    intro k m i h0 h1 hd hk
    obtain ⟨k, rfl⟩ : ∃ j, k = j + 1 := ⟨k - 1, by omega⟩
    simp only [slices_Min_int_int.l0]
    rw [if_pos (by omega), if_pos h0, wrap_small _ (by omega) (by omega)]
    obtain ⟨r, hr, h2, h3, h4⟩ := ih k (mn m (rd l i)) (i + 1) (by omega) (by omega) (by omega) (by omega)
    have hm : rd l i ∈ l := rd_mem h0 (by omega)
    refine ⟨r, hr, ?_, by unfold mn at h3; split at h3 <;> omega, fun x hx => ?_⟩
    · rcases h2 with h2 | h2
      · unfold mn at h2
        split at h2
        · exact .inr (by rw [h2]; first | exact hm | exact hm)
        · exact .inl h2
      · exact .inr h2
    · rw [rd_drop h0 (by omega)] at hx
      rcases List.mem_cons.1 hx with rfl | hx
      · unfold mn at h3; split at h3 <;> omega
      · exact h4 x hx
theorem max_loop (l : List Int) (hl : l.length ≤ 1000) (d : Nat) : ∀ (k : Nat) (m i : Int), 0 ≤ i → i ≤ l.length → (l.length : Int) - i = d → d < k →
    ∃ r, slices_Max_int_int.l0 k l m i = some r ∧ (r = m ∨ r ∈ l) ∧ m ≤ r ∧ ∀ x ∈ l.drop i.toNat, x ≤ r := by
  induction d with
  | zero =>
    intro k m i h0 h1 hd hk
    obtain ⟨k, rfl⟩ : ∃ j, k = j + 1 := ⟨k - 1, by omega⟩
    simp only [slices_Max_int_int.l0]
    rw [if_neg (by omega)]
    refine ⟨m, rfl, .inl rfl, by omega, fun x hx => ?_⟩
    rw [List.drop_of_length_le (by omega)] at hx
    simp at hx
  | succ d ih =>
    intro k m i h0 h1 hd hk
    obtain ⟨k, rfl⟩ : ∃ j, k = j + 1 := ⟨k - 1, by omega⟩
    simp only [slices_Max_int_int.l0]
    rw [if_pos (by omega), if_pos h0, wrap_small _ (by omega) (by omega)]
    obtain ⟨r, hr, h2, h3, h4⟩ := ih k (mx m (rd l i)) (i + 1) (by omega) (by omega) (by omega) (by omega)
    have hm : rd l i ∈ l := rd_mem h0 (by omega)
    refine ⟨r, hr, ?_, by unfold mx at h3; split at h3 <;> omega, fun x hx => ?_⟩
    · rcases h2 with h2 | h2
      · unfold mx at h2
        split at h2
        · exact .inr (by rw [h2]; exact hm)
        · exact .inl h2
      · exact .inr h2
    · rw [rd_drop h0 (by omega)] at hx
      rcases List.mem_cons.1 hx with rfl | hx
      · unfold mx at h3; split at h3 <;> omega
      · exact h4 x hx
/-- The least span round numbers. -/
theorem spanned_eq (k : Nat) (l : List Int) (hl : l.length ≤ 1000) (hk : 1001 < k) :
    (l = [] → impl_spanned.f k l = some (false, 0, 0)) ∧ (l ≠ [] → ∃ lo hi, impl_spanned.f k l = some (true, lo, hi) ∧ lo ∈ l ∧ hi ∈ l ∧ ∀ x ∈ l, lo ≤ x ∧ x ≤ hi) := by
  constructor
  · rintro rfl
    unfold impl_spanned.f impl_between_int.f
    simp
  · intro hne
    have hpos : 0 < l.length := List.length_pos_iff.2 hne
    have h0 : rd l 0 ∈ l := rd_mem (by omega) (by omega)
    obtain ⟨lo, h1, h2, h3, h4⟩ := min_loop l hl (l.length - 1) k (rd l 0) 1 (by omega) (by omega) (by omega) (by omega)
    obtain ⟨hi, g1, g2, g3, g4⟩ := max_loop l hl (l.length - 1) k (rd l 0) 1 (by omega) (by omega) (by omega) (by omega)
    refine ⟨lo, hi, ?_, ?_, ?_, ?_⟩
    · unfold impl_spanned.f impl_between_int.f slices_Min_int_int.f slices_Max_int_int.f
      rw [if_neg (by omega), if_neg (by omega), if_pos (by omega), if_neg (by omega), if_pos (by omega), h1, g1]
      rfl
    · rcases h2 with h2 | h2
      · rw [h2]; exact h0
      · exact h2
    · rcases g2 with g2 | g2
      · rw [g2]; exact h0
      · exact g2
    · intro x hx
      have e : l = rd l 0 :: l.drop 1 := by
        have := rd_drop (l := l) (i := 0) (by omega) (by omega)
        simpa using this
      rw [e] at hx
      rcases List.mem_cons.1 hx with rfl | hx
      · exact ⟨h3, g3⟩
      · exact ⟨h4 x (by simpa using hx), g4 x (by simpa using hx)⟩
/-- Is a span in another one? -/
def inS (a : Bool) (l h : Int) (b : Bool) (m k : Int) : Bool := okS a l h && (okS b m k && (!a || (b && decide (m ≤ l ∧ h ≤ k))))
theorem bothOk_eq (a : Bool) (l h : Int) (b : Bool) (m k : Int) : impl_bothOk.f a l h b m k = some (okS a l h && okS b m k) := by
  unfold impl_bothOk.f
  rw [implOk_eq, implOk_eq]; simp only [Option.bind_some]
  cases okS a l h <;> simp
theorem implJoin_eq (k : Nat) (hk : 1001 < k) (a : Bool) (l h : Int) (b : Bool) (m q : Int) : impl_SpanJoin.f k a l h b m q = some (joinS a l h b m q) := by
  unfold impl_SpanJoin.f joinS
  rw [bothOk_eq]; simp only [Option.bind_some]
  by_cases c : (okS a l h && okS b m q) = true
  · rw [if_pos c, if_pos c]
    simp only [Bool.and_eq_true] at c
    obtain ⟨c1, c2⟩ := c
    have n1 := wordsL_length a l h c1
    have n2 := wordsL_length b m q c2
    rw [words_eq k (by omega) a l h c1, words_eq k (by omega) b m q c2]; simp only [Option.bind_some]
    rw [if_pos (by omega)]
    have mem : ∀ x, x ∈ wordsL a l h ++ wordsL b m q ↔ (a = true ∧ l ≤ x ∧ x ≤ h) ∨ (b = true ∧ m ≤ x ∧ x ≤ q) := by
      intro x; rw [List.mem_append, wordsL_mem _ _ _ _ c1, wordsL_mem _ _ _ _ c2]
    obtain ⟨s1, s2⟩ := spanned_eq k (wordsL a l h ++ wordsL b m q) (by rw [List.length_append]; omega) hk
    by_cases e : wordsL a l h ++ wordsL b m q = []
    · rw [s1 e]; simp only [Option.bind_some]
      have ea : a = false := by
        cases a
        · rfl
        · have := (mem l).2 (.inl ⟨rfl, by omega, by rw [ok_true] at c1; omega⟩)
          rw [e] at this; simp at this
      have eb : b = false := by
        cases b
        · rfl
        · have := (mem m).2 (.inr ⟨rfl, by omega, by rw [ok_true] at c2; omega⟩)
          rw [e] at this; simp at this
      subst ea eb
      rw [ok_false] at c2
      simp [c2]
    · obtain ⟨lo, hi, h1, h2, h3, h4⟩ := s2 e
      rw [h1]; simp only [Option.bind_some]
      rw [mem] at h2 h3
      have h5 : ∀ x, ((a = true ∧ l ≤ x ∧ x ≤ h) ∨ (b = true ∧ m ≤ x ∧ x ≤ q)) → lo ≤ x ∧ x ≤ hi := fun x hx => h4 x ((mem x).2 hx)
      clear s1 s2 h4 mem h1 e n1 n2
      cases a <;> cases b
      · simp at h2
      · rw [ok_true] at c2
        have := h5 m (by simp; omega)
        have := h5 q (by simp; omega)
        simp at h2 h3 ⊢
        omega
      · rw [ok_true] at c1
        have := h5 l (by simp; omega)
        have := h5 h (by simp; omega)
        simp at h2 h3 ⊢
        omega
      · rw [ok_true] at c1 c2
        have := h5 m (by simp; omega)
        have := h5 q (by simp; omega)
        have := h5 l (by simp; omega)
        have := h5 h (by simp; omega)
        simp at h2 h3 ⊢
        unfold mn mx
        refine ⟨?_, ?_⟩ <;> split <;> omega
  · rw [if_neg c, if_neg c]
theorem join_tt {l h m q : Int} (h1 : okS true l h = true) (h2 : okS true m q = true) : joinS true l h true m q = (true, mn l m, mx h q) := by
  unfold joinS
  simp [h1, h2]
theorem join_tf {l h : Int} (h1 : okS true l h = true) : joinS true l h false 0 0 = (true, l, h) := by
  unfold joinS
  rw [if_pos (by rw [h1]; rfl)]
  rfl
theorem join_ft {m q : Int} (h2 : okS true m q = true) : joinS false 0 0 true m q = (true, m, q) := by
  unfold joinS
  rw [if_pos (by rw [h2]; rfl)]
  rfl
theorem join_ff : joinS false 0 0 false 0 0 = (false, 0, 0) := by decide
theorem ok_join {l h m q : Int} (h1 : okS true l h = true) (h2 : okS true m q = true) : okS true (mn l m) (mx h q) = true := by
  rw [ok_true] at *
  unfold mn mx
  refine ⟨?_, ?_, ?_, ?_, ?_⟩ <;> split <;> (try split) <;> omega
theorem in_tt {l h m q : Int} (h1 : okS true l h = true) (h2 : okS true m q = true) : inS true l h true m q = decide (m ≤ l ∧ h ≤ q) := by
  unfold inS
  simp [h1, h2]
theorem in_tf {l h : Int} : inS true l h false 0 0 = false := by
  unfold inS
  simp
theorem in_f {b : Bool} {m q : Int} (h2 : okS b m q = true) : inS false 0 0 b m q = true := by
  unfold inS
  simp [h2, show okS false 0 0 = true from rfl]
/-- A span that is valid: none, or one from l to h. -/
theorem ok_cases {a : Bool} {l h : Int} (ho : okS a l h = true) : (a = false ∧ l = 0 ∧ h = 0) ∨ a = true := by
  cases a
  · exact .inl ⟨rfl, ok_false.1 ho⟩
  · exact .inr rfl
theorem mn_le {a b : Int} : mn a b ≤ a ∧ mn a b ≤ b ∧ (mn a b = a ∨ mn a b = b) := by
  unfold mn
  split <;> omega
theorem mx_le {a b : Int} : a ≤ mx a b ∧ b ≤ mx a b ∧ (mx a b = a ∨ mx a b = b) := by
  unfold mx
  split <;> omega
/-- Does a span have a number? -/
def hasS (a : Bool) (l h n : Int) : Bool := okS a l h && (a && decide (l ≤ n ∧ n ≤ h))
theorem implHas_eq (a : Bool) (l h n : Int) : impl_SpanHas.f a l h n = some (hasS a l h n) := by
  unfold impl_SpanHas.f hasS
  rw [implOk_eq]; simp only [Option.bind_some]
  cases okS a l h <;> cases a <;> simp
  by_cases h1 : l ≤ n <;> simp [h1]
theorem wrap_l (a : Int) (h0 : -9223372036854775808 ≤ a) (h1 : a ≤ 9223372036854775807) : wrap64 a = a := by
  unfold wrap64; omega
theorem take_set_succ (l : List Int) (n : Nat) (v : Int) (h : n < l.length) : (l.set n v).take (n + 1) = l.take n ++ [v] := by
  rw [List.set_eq_take_append_cons_drop, if_pos h, List.take_append, List.take_of_length_le (by rw [List.length_take]; omega), List.length_take, Nat.min_eq_left (Nat.le_of_lt h), show n + 1 - n = 1 by omega]
  rfl
/-- Deleting in place keeps what is not to go. -/
theorem del_loop (p : Int → Bool) (L : Nat → List Int → Int → Int → Option (List Int))
    (hL : ∀ k x0 x5 x6, L (k + 1) x0 x5 x6 = if x6 < (x0.length : Int) then (if 0 ≤ x6 then (if p (rd x0 x6) = true then L k x0 x5 (wrap64 (x6 + 1)) else (if 0 ≤ x5 then (if x5 < (x0.length : Int) then L k (x0.set (x5 : Int).toNat (rd x0 x6)) (wrap64 (x5 + 1)) (wrap64 (x6 + 1)) else none) else none)) else none) else (if 0 ≤ x5 then (if x5 ≤ (x0.length : Int) then some ((x0.take (x5 : Int).toNat ++ List.replicate (x0.length - (x5 : Int).toNat) 0).take (x5 : Int).toNat) else none) else none))
    (d : Nat) : ∀ (k : Nat) (x0 : List Int) (x5 x6 : Int), 0 ≤ x5 → x5 ≤ x6 → x6 ≤ x0.length → (x0.length : Int) - x6 = d → d < k → x0.length ≤ 1000000 →
      L k x0 x5 x6 = some (x0.take x5.toNat ++ (x0.drop x6.toNat).filter (fun x => !p x)) := by
  induction d with
  | zero =>
    intro k x0 x5 x6 h1 h2 h3 h4 h5 h6
    obtain ⟨k, rfl⟩ : ∃ j, k = j + 1 := ⟨k - 1, by omega⟩
    rw [hL, if_neg (by omega), if_pos h1, if_pos (by omega), List.drop_eq_nil_of_le (by omega)]
    congr 1
    rw [List.take_append_of_le_length (by rw [List.length_take]; omega), List.take_take]
    simp
  | succ d ih =>
    intro k x0 x5 x6 h1 h2 h3 h4 h5 h6
    obtain ⟨k, rfl⟩ : ∃ j, k = j + 1 := ⟨k - 1, by omega⟩
    have w6 : wrap64 (x6 + 1) = x6 + 1 := wrap_l _ (by omega) (by omega)
    have w5 : wrap64 (x5 + 1) = x5 + 1 := wrap_l _ (by omega) (by omega)
    rw [hL, if_pos (by omega), if_pos (by omega), w6, w5, rd_drop (l := x0) (i := x6) (by omega) (by omega), List.filter_cons]
    by_cases c : p (rd x0 x6) = true
    · rw [if_pos c, ih k x0 x5 (x6 + 1) h1 (by omega) (by omega) (by omega) (by omega) h6]
      simp [c]
    · rw [if_neg c, if_pos h1, if_pos (by omega), ih k _ (x5 + 1) (x6 + 1) (by omega) (by omega) (by rw [List.length_set]; omega) (by rw [List.length_set]; omega) (by omega) (by rw [List.length_set]; omega)]
      rw [show (x5 + 1).toNat = x5.toNat + 1 by omega, take_set_succ _ _ _ (by omega), List.drop_set_of_lt (by omega)]
      simp [c]
theorem idx_loop (p : Int → Bool) (I : Nat → List Int → Int → Int → Option Int)
    (hI : ∀ k x0 x7 x8, I (k + 1) x0 x7 x8 = if x8 < x7 then (if 0 ≤ x8 then (if x8 < (x0.length : Int) then (if p (rd x0 x8) = true then some x8 else I k x0 x7 (wrap64 (x8 + 1))) else none) else none) else some (-1))
    (d : Nat) : ∀ (k : Nat) (x0 : List Int) (x8 : Int), 0 ≤ x8 → x8 ≤ x0.length → (x0.length : Int) - x8 = d → d < k → x0.length ≤ 1000000 →
      (I k x0 (x0.length : Int) x8 = some (-1) ∧ (x0.drop x8.toNat).filter (fun x => !p x) = x0.drop x8.toNat) ∨
      ∃ i, I k x0 (x0.length : Int) x8 = some i ∧ x8 ≤ i ∧ i < x0.length ∧ (x0.drop x8.toNat).filter (fun x => !p x) = (x0.take i.toNat).drop x8.toNat ++ (x0.drop (i + 1).toNat).filter (fun x => !p x) := by
  induction d with
  | zero =>
    intro k x0 x8 h1 h3 h4 h5 h6
    obtain ⟨k, rfl⟩ : ∃ j, k = j + 1 := ⟨k - 1, by omega⟩
    rw [hI, if_neg (by omega), List.drop_eq_nil_of_le (by omega)]
    exact .inl ⟨rfl, rfl⟩
  | succ d ih =>
    intro k x0 x8 h1 h3 h4 h5 h6
    obtain ⟨k, rfl⟩ : ∃ j, k = j + 1 := ⟨k - 1, by omega⟩
    have w8 : wrap64 (x8 + 1) = x8 + 1 := wrap_l _ (by omega) (by omega)
    rw [hI, if_pos (by omega), if_pos h1, if_pos (by omega), w8]
    by_cases c : p (rd x0 x8) = true
    · rw [if_pos c]
      refine .inr ⟨x8, rfl, by omega, by omega, ?_⟩
      have z : (x0.take x8.toNat).drop x8.toNat = [] := List.drop_eq_nil_of_le (by rw [List.length_take]; omega)
      rw [z, rd_drop (l := x0) (i := x8) (by omega) (by omega), List.filter_cons]
      simp [c]
    · rw [if_neg c]
      have e := rd_drop (l := x0) (i := x8) (by omega) (by omega)
      rcases ih k x0 (x8 + 1) (by omega) (by omega) (by omega) (by omega) h6 with ⟨h7, h8⟩ | ⟨i, h7, h8, h9, h10⟩
      · refine .inl ⟨h7, ?_⟩
        rw [e, List.filter_cons, h8]
        simp [c]
      · refine .inr ⟨i, h7, by omega, h9, ?_⟩
        rw [e, List.filter_cons, h10]
        have e2 : (x0.take i.toNat).drop x8.toNat = rd x0 x8 :: (x0.take i.toNat).drop (x8 + 1).toNat := by
          rw [List.drop_take, List.drop_take, e, show i.toNat - x8.toNat = (i.toNat - (x8 + 1).toNat) + 1 by omega, List.take_succ_cons]
        rw [e2]
        simp [c]
theorem del_eq (p : Int → Bool) (I : Nat → List Int → Int → Int → Option Int) (L : Nat → List Int → Int → Int → Option (List Int))
    (hI : ∀ k x0 x7 x8, I (k + 1) x0 x7 x8 = if x8 < x7 then (if 0 ≤ x8 then (if x8 < (x0.length : Int) then (if p (rd x0 x8) = true then some x8 else I k x0 x7 (wrap64 (x8 + 1))) else none) else none) else some (-1))
    (hL : ∀ k x0 x5 x6, L (k + 1) x0 x5 x6 = if x6 < (x0.length : Int) then (if 0 ≤ x6 then (if p (rd x0 x6) = true then L k x0 x5 (wrap64 (x6 + 1)) else (if 0 ≤ x5 then (if x5 < (x0.length : Int) then L k (x0.set (x5 : Int).toNat (rd x0 x6)) (wrap64 (x5 + 1)) (wrap64 (x6 + 1)) else none) else none)) else none) else (if 0 ≤ x5 then (if x5 ≤ (x0.length : Int) then some ((x0.take (x5 : Int).toNat ++ List.replicate (x0.length - (x5 : Int).toNat) 0).take (x5 : Int).toNat) else none) else none))
    (k : Nat) (l : List Int) (hl : l.length ≤ 1000000) (hk : l.length < k) :
    ((I k l (l.length : Int) 0).bind fun t => if t = -1 then some l else L k l t (wrap64 (t + 1))) = some (l.filter (fun x => !p x)) := by
  rcases idx_loop p I hI l.length k l 0 (by omega) (by omega) (by omega) hk hl with ⟨h1, h2⟩ | ⟨i, h1, h2, h3, h4⟩
  · rw [h1]; simp only [Option.bind_some, if_true]
    simp only [Int.toNat_zero, List.drop_zero] at h2
    rw [h2]
  · rw [h1]; simp only [Option.bind_some]
    rw [if_neg (by omega), wrap_l _ (by omega) (by omega), del_loop p L hL (l.length - (i + 1).toNat) k l i (i + 1) (by omega) (by omega) (by omega) (by omega) (by omega) hl]
    simp only [Int.toNat_zero, List.drop_zero] at h4
    rw [h4]
/-- The meet of two spans. -/
def meetS (a : Bool) (l h : Int) (b : Bool) (m q : Int) : Bool × Int × Int :=
  if (okS a l h && okS b m q && a && b) = true then (if mx l m ≤ mn h q then (true, mx l m, mn h q) else (false, 0, 0)) else (false, 0, 0)
theorem meet1_eq (x : Int) (b : Bool) (m q : Int) : impl_SpanMeet_1.f x b m q = some (!hasS b m q x) := by
  unfold impl_SpanMeet_1.f
  rw [implHas_eq]; rfl
theorem meetDel_eq (k : Nat) (l : List Int) (hl : l.length ≤ 1000000) (hk : l.length < k) (b : Bool) (m q : Int) :
    slices_DeleteFunc_int_int__impl_SpanMeet_1.f k l b m q = some (l.filter (fun x => hasS b m q x)) := by
  unfold slices_DeleteFunc_int_int__impl_SpanMeet_1.f slices_IndexFunc_int_int__impl_SpanMeet_1.f
  have := del_eq (fun x => !hasS b m q x) (fun k x0 x7 x8 => slices_IndexFunc_int_int__impl_SpanMeet_1.l0 k x0 x7 x8 b m q) (fun k x0 x5 x6 => slices_DeleteFunc_int_int__impl_SpanMeet_1.l0 k x0 x5 x6 b m q)
    (fun k x0 x7 x8 => by simp only [slices_IndexFunc_int_int__impl_SpanMeet_1.l0, meet1_eq, Option.bind_some])
    (fun k x0 x5 x6 => by simp only [slices_DeleteFunc_int_int__impl_SpanMeet_1.l0, meet1_eq, Option.bind_some]) k l hl hk
  simpa using this
theorem implMeet_eq (k : Nat) (hk : 1001 < k) (a : Bool) (l h : Int) (b : Bool) (m q : Int) : impl_SpanMeet.f k a l h b m q = some (meetS a l h b m q) := by
  unfold impl_SpanMeet.f meetS
  rw [bothOk_eq]; simp only [Option.bind_some]
  by_cases c : (okS a l h && okS b m q) = true
  · rw [if_pos c, c]
    simp only [Bool.and_eq_true] at c
    obtain ⟨c1, c2⟩ := c
    have n1 := wordsL_length a l h c1
    rw [words_eq k (by omega) a l h c1]; simp only [Option.bind_some]
    rw [meetDel_eq k _ (by omega) (by omega)]; simp only [Option.bind_some]
    have mem : ∀ x, x ∈ (wordsL a l h).filter (fun x => hasS b m q x) ↔ (a = true ∧ l ≤ x ∧ x ≤ h) ∧ (b = true ∧ m ≤ x ∧ x ≤ q) := by
      intro x; rw [List.mem_filter, wordsL_mem _ _ _ _ c1]; unfold hasS; rw [c2]; simp
    have n2 : ((wordsL a l h).filter (fun x => hasS b m q x)).length ≤ 32 := Nat.le_trans (List.length_filter_le _ _) n1
    obtain ⟨s1, s2⟩ := spanned_eq k ((wordsL a l h).filter (fun x => hasS b m q x)) (by omega) hk
    by_cases e : (wordsL a l h).filter (fun x => hasS b m q x) = []
    · rw [s1 e]; simp only [Option.bind_some]
      have no : ∀ x, ¬ ((a = true ∧ l ≤ x ∧ x ≤ h) ∧ (b = true ∧ m ≤ x ∧ x ≤ q)) := fun x hx => by
        have := (mem x).2 hx
        rw [e] at this; simp at this
      clear s1 s2 mem e n1 n2
      cases a <;> cases b <;> simp
      rw [ok_true] at c1 c2
      have A := @mx_le l m
      have B := @mn_le h q
      have := no (mx l m)
      simp only [true_and] at this
      omega
    · obtain ⟨lo, hi, h1, h2, h3, h4⟩ := s2 e
      rw [h1]; simp only [Option.bind_some]
      rw [mem] at h2 h3
      have h5 : ∀ x, ((a = true ∧ l ≤ x ∧ x ≤ h) ∧ (b = true ∧ m ≤ x ∧ x ≤ q)) → lo ≤ x ∧ x ≤ hi := fun x hx => h4 x ((mem x).2 hx)
      clear s1 s2 h4 mem h1 e n1 n2
      obtain ⟨⟨rfl, h6, h7⟩, rfl, h8, h9⟩ := h2
      obtain ⟨⟨_, g6, g7⟩, _, g8, g9⟩ := h3
      rw [ok_true] at c1 c2
      simp only [true_and] at h5
      have A := @mx_le l m
      have B := @mn_le h q
      have C := h5 (mx l m) (by omega)
      have D := h5 (mn h q) (by omega)
      have e1 : mx l m = lo := by clear D h5; omega
      have e2 : mn h q = hi := by clear C h5; omega
      rw [e1, e2]
      simp only [Bool.and_self, if_true]
      rw [if_pos (show lo ≤ hi by omega)]
  · rw [if_neg c, show (okS a l h && okS b m q) = false by simpa using c]
    simp
theorem meet_f1 (l h : Int) (b : Bool) (m q : Int) : meetS false l h b m q = (false, 0, 0) := by
  unfold meetS
  rw [if_neg (by simp)]
theorem meet_f2 (a : Bool) (l h : Int) (m q : Int) : meetS a l h false m q = (false, 0, 0) := by
  unfold meetS
  rw [if_neg (by simp)]
theorem meet_tt {l h m q : Int} (h1 : okS true l h = true) (h2 : okS true m q = true) : meetS true l h true m q = if mx l m ≤ mn h q then (true, mx l m, mn h q) else (false, 0, 0) := by
  unfold meetS
  rw [if_pos (by rw [h1, h2]; rfl)]
theorem ok_meet_tt {l h m q : Int} (h1 : okS true l h = true) (_h2 : okS true m q = true) (c : mx l m ≤ mn h q) : okS true (mx l m) (mn h q) = true := by
  rw [ok_true] at *
  have A := @mx_le l m
  have B := @mn_le h q
  omega
theorem lat1 {a : Bool} {l h : Int} {b : Bool} {m q : Int} (h1 : okS a l h = true) (h2 : okS b m q = true) : meetS a l h (joinS a l h b m q).1 (joinS a l h b m q).2.1 (joinS a l h b m q).2.2 = (a, l, h) := by
  rcases ok_cases h1 with ⟨rfl, rfl, rfl⟩ | rfl
  · rw [meet_f1]
  · rcases ok_cases h2 with ⟨rfl, rfl, rfl⟩ | rfl
    · rw [join_tf h1, meet_tt h1 h1]
      have A := @mx_le l l
      have B := @mn_le h h
      rw [ok_true] at h1
      rw [if_pos (show mx l l ≤ mn h h by omega), show mx l l = l by omega, show mn h h = h by omega]
    · rw [join_tt h1 h2, meet_tt h1 (ok_join h1 h2)]
      have A := @mn_le l m
      have B := @mx_le h q
      have C := @mx_le l (mn l m)
      have D := @mn_le h (mx h q)
      rw [ok_true] at h1 h2
      rw [if_pos (show mx l (mn l m) ≤ mn h (mx h q) by omega), show mx l (mn l m) = l by omega, show mn h (mx h q) = h by omega]
theorem lat2 {a : Bool} {l h : Int} {b : Bool} {m q : Int} (h1 : okS a l h = true) (h2 : okS b m q = true) : joinS a l h (meetS a l h b m q).1 (meetS a l h b m q).2.1 (meetS a l h b m q).2.2 = (a, l, h) := by
  rcases ok_cases h1 with ⟨rfl, rfl, rfl⟩ | rfl
  · rw [meet_f1]; exact join_ff
  · rcases ok_cases h2 with ⟨rfl, rfl, rfl⟩ | rfl
    · rw [meet_f2]; exact join_tf h1
    · rw [meet_tt h1 h2]
      by_cases c : mx l m ≤ mn h q
      · rw [if_pos c]
        have A := @mx_le l m
        have B := @mn_le h q
        have C := @mn_le l (mx l m)
        have D := @mx_le h (mn h q)
        show joinS true l h true (mx l m) (mn h q) = _
        rw [join_tt h1 (ok_meet_tt h1 h2 c), show mn l (mx l m) = l by omega, show mx h (mn h q) = h by omega]
      · rw [if_neg c]; exact join_tf h1
theorem lat3 {a : Bool} {l h : Int} {b : Bool} {m q : Int} {c : Bool} {u v : Int} (h1 : okS a l h = true) (h2 : okS b m q = true) (h3 : okS c u v = true) :
    joinS (joinS a l h b m q).1 (joinS a l h b m q).2.1 (joinS a l h b m q).2.2 c u v = joinS a l h (joinS b m q c u v).1 (joinS b m q c u v).2.1 (joinS b m q c u v).2.2 := by
  rcases ok_cases h1 with ⟨rfl, rfl, rfl⟩ | rfl <;> rcases ok_cases h2 with ⟨rfl, rfl, rfl⟩ | rfl <;> rcases ok_cases h3 with ⟨rfl, rfl, rfl⟩ | rfl
  · rfl
  · rw [join_ff]
    show joinS false 0 0 true u v = _
    rw [join_ft h3]
    exact (join_ft h3).symm
  · rw [join_ft h2, join_tf h2]
    exact (join_ft h2).symm
  · rw [join_ft h2]
    show joinS true m q true u v = _
    rw [join_tt h2 h3]
    exact (join_ft (ok_join h2 h3)).symm
  · rw [join_tf h1, join_ff]
  · rw [join_tf h1, join_ft h3]
  · rw [join_tf h2, join_tt h1 h2]
    exact join_tf (ok_join h1 h2)
  · rw [join_tt h1 h2, join_tt h2 h3]
    show joinS true (mn l m) (mx h q) true u v = joinS true l h true (mn m u) (mx q v)
    rw [join_tt (ok_join h1 h2) h3, join_tt h1 (ok_join h2 h3)]
    have A := @mn_le l m
    have B := @mx_le h q
    have C := @mn_le m u
    have D := @mx_le q v
    have E := @mn_le (mn l m) u
    have F := @mn_le l (mn m u)
    have G := @mx_le (mx h q) v
    have H := @mx_le h (mx q v)
    simp only [Prod.mk.injEq, true_and]
    omega
theorem lat4 {a : Bool} {l h : Int} {b : Bool} {m q : Int} {c : Bool} {u v : Int} (h1 : okS a l h = true) (h2 : okS b m q = true) (h3 : okS c u v = true) :
    meetS (meetS a l h b m q).1 (meetS a l h b m q).2.1 (meetS a l h b m q).2.2 c u v = meetS a l h (meetS b m q c u v).1 (meetS b m q c u v).2.1 (meetS b m q c u v).2.2 := by
  rcases ok_cases h1 with ⟨rfl, rfl, rfl⟩ | rfl
  · rw [meet_f1, meet_f1, meet_f1]
  rcases ok_cases h2 with ⟨rfl, rfl, rfl⟩ | rfl
  · rw [meet_f2, meet_f1]
    exact (meet_f2 _ _ _ _ _).symm
  rcases ok_cases h3 with ⟨rfl, rfl, rfl⟩ | rfl
  · rw [meet_f2, meet_f2, meet_f2]
  have A := @mx_le l m
  have B := @mn_le h q
  have C := @mx_le m u
  have D := @mn_le q v
  have E := @mx_le (mx l m) u
  have F := @mx_le l (mx m u)
  have G := @mn_le (mn h q) v
  have H := @mn_le h (mn q v)
  rw [meet_tt h1 h2, meet_tt h2 h3]
  by_cases c1 : mx l m ≤ mn h q
  · rw [if_pos c1]
    by_cases c2 : mx m u ≤ mn q v
    · rw [if_pos c2]
      show meetS true (mx l m) (mn h q) true u v = meetS true l h true (mx m u) (mn q v)
      rw [meet_tt (ok_meet_tt h1 h2 c1) h3, meet_tt h1 (ok_meet_tt h2 h3 c2), show mx (mx l m) u = mx l (mx m u) by omega, show mn (mn h q) v = mn h (mn q v) by omega]
    · rw [if_neg c2]
      show meetS true (mx l m) (mn h q) true u v = meetS true l h false 0 0
      rw [meet_tt (ok_meet_tt h1 h2 c1) h3, meet_f2, if_neg (show ¬ mx (mx l m) u ≤ mn (mn h q) v by omega)]
  · rw [if_neg c1]
    by_cases c2 : mx m u ≤ mn q v
    · rw [if_pos c2]
      show meetS false 0 0 true u v = meetS true l h true (mx m u) (mn q v)
      rw [meet_tt h1 (ok_meet_tt h2 h3 c2), meet_f1, if_neg (show ¬ mx l (mx m u) ≤ mn h (mn q v) by omega)]
    · rw [if_neg c2]
      show meetS false 0 0 true u v = meetS true l h false 0 0
      rw [meet_f1, meet_f2]
theorem FnSpanLattice : laws_FnSpanLattice.Pure := by
  intro l0 l1 _ _ hb0 _ _ hb1
  refine ⟨3000, ?_⟩
  unfold laws_FnSpanLattice.f
  by_cases g0 : (l0.length : Int) > 1048576
  · rw [if_pos g0]
    simp [laws_FnSpanLattice.j0]
  rw [if_neg g0]
  by_cases g1 : (l1.length : Int) > 1048576
  · simp [laws_FnSpanLattice.j0, g1]
  obtain ⟨⟨a, l, h, b, m, q⟩, hn⟩ := draw_SpanJoin 2998 l0 (fun x hx => byte_of_wf (hb0 x hx))
  obtain ⟨⟨c, u, v, _, _, _⟩, hn2⟩ := draw_SpanJoin 2998 l1 (fun x hx => byte_of_wf (hb1 x hx))
  rw [show decide ((l1.length : Int) > 1048576) = false by simpa using g1]
  simp only [laws_FnSpanLattice.j0]
  rw [if_neg (by simp), hn, hn2]
  simp only [Option.bind_some]
  rw [implJoin_eq _ (by omega), specJoin_eq]
  simp only [Option.bind_some]
  rw [if_neg (by simp), specOk_eq, specOk_eq, specOk_eq]
  simp only [Option.bind_some]
  have other : ∀ X, X = joinS a l h b m q → laws_FnSpanLattice.j1 2999 true a l h b m q c u v X.1 X.2.1 X.2.2 = some true := by
    rintro X rfl
    simp [laws_FnSpanLattice.j1, specJoin_eq]
  by_cases o1 : okS a l h = true
  · rw [if_pos o1]
    by_cases o2 : okS b m q = true
    · rw [if_pos o2]
      by_cases o3 : okS c u v = true
      · rw [o3]
        simp only [laws_FnSpanLattice.j1, Bool.not_true]
        simp only [implMeet_eq 2998 (by omega), implJoin_eq 2998 (by omega), Option.bind_some, lat1 o1 o2, lat2 o1 o2, lat3 o1 o2 o3, lat4 o1 o2 o3]
        simp
      · rw [show okS c u v = false by simpa using o3]
        exact other _ rfl
    · rw [if_neg o2]
      exact other _ rfl
  · rw [if_neg o1]
    exact other _ rfl

end Go.Proofs.Ytbgaoidihgpldac.Pure
