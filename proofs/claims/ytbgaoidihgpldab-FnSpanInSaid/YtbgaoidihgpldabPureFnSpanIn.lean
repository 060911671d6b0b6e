/- What is proved: the pure statement of the law FnSpanIn: at every input that fits, the printed function answers true. No condition. -/
import Derived.Test.YtbgaoidihgpldabQx12
namespace Go.Proofs.Ytbgaoidihgpldab.Pure
open Go.RowKit Go.Proofs.Ytbgaoidihgpldab.Q Go.Proofs.YtbgaoidihgpldabW.PrintWords Go.Proofs.YtbgaoidihgpldabW.PrintLast

theorem tm32 (a : Int) : ∃ q, a = 32 * q + Int.tmod a 32 ∧ -32 < Int.tmod a 32 ∧ Int.tmod a 32 < 32 := ⟨Int.tdiv a 32, (Int.mul_tdiv_add_tmod a 32).symm, Int.lt_tmod_of_pos a (by decide), Int.tmod_lt_of_pos a (by decide)⟩
theorem wrap_small (a : Int) (h0 : -9223372036854775808 ≤ a) (h1 : a ≤ 9223372036854775807) : wrap64 a = a := by
  unfold wrap64; omega
theorem xor_nonneg (a b : Int) (ha : 0 ≤ a) (ha1 : a < 4611686018427387904) (hb : 0 ≤ b) (hb1 : b < 4611686018427387904) : 0 ≤ Go.bits .xor .i64 a b := by
  obtain ⟨x, rfl⟩ := Int.eq_ofNat_of_zero_le ha
  obtain ⟨y, rfl⟩ := Int.eq_ofNat_of_zero_le hb
  have hx : x < 2 ^ 62 := by omega
  have hy : y < 2 ^ 62 := by omega
  have hx' : x % 2 ^ 64 = x := Nat.mod_eq_of_lt (by omega)
  have hy' : y % 2 ^ 64 = y := Nat.mod_eq_of_lt (by omega)
  have hz : x ^^^ y < 2 ^ 62 := Nat.xor_lt_two_pow hx hy
  have key : Go.bits .xor .i64 (x : Int) (y : Int) = IntKind.i64.wrap (((BitVec.ofInt 64 (x : Int)) ^^^ (BitVec.ofInt 64 (y : Int))).toNat : Int) := rfl
  rw [key, BitVec.ofInt_natCast, BitVec.ofInt_natCast, BitVec.toNat_xor, BitVec.toNat_ofNat, BitVec.toNat_ofNat, hx', hy', IntKind.wrap_i64]
  omega
theorem byte_of_wf {x : Int} (h : (Lit.int .u8 x).wf = true) : 0 ≤ x ∧ x ≤ 255 := by
  simp [Lit.wf, IntKind.min, IntKind.max, IntKind.signed, IntKind.bits] at h
  omega
theorem rd_byte {l : List Int} (hb : ∀ x ∈ l, 0 ≤ x ∧ x ≤ 255) (i : Int) : 0 ≤ rd l i ∧ rd l i ≤ 255 := by
  unfold rd
  by_cases h : i.toNat < l.length
  · rw [List.getD_eq_getElem?_getD, List.getElem?_eq_getElem h]
    exact hb _ (List.getElem_mem h)
  · rw [List.getD_eq_getElem?_getD, List.getElem?_eq_none (by omega)]
    simp
theorem tmod_range (a n : Int) (ha : 0 ≤ a) (hn : 0 < n) : 0 ≤ Int.tmod a n ∧ Int.tmod a n < n := by
  rw [Int.tmod_eq_emod_of_nonneg ha]
  exact ⟨Int.emod_nonneg _ (by omega), Int.emod_lt_of_pos _ hn⟩
theorem tdiv_range (a n : Int) (ha : 0 ≤ a) (hn : 0 < n) : 0 ≤ Int.tdiv a n ∧ Int.tdiv a n ≤ a := by
  rw [Int.tdiv_eq_ediv_of_nonneg ha]
  exact ⟨Int.ediv_nonneg ha (by omega), Int.ediv_le_self _ ha⟩
/-- What a reader of a code gives: a number below n. -/
theorem pick_ok (k : Nat) (l : List Int) (p n : Int) (hb : ∀ x ∈ l, 0 ≤ x ∧ x ≤ 255) (hp : 0 ≤ p) (hp1 : p ≤ 100000000) :
    ∃ r, spec_l6Rd_pick.f (k + 1) l p n = some (r, p + 1) ∧ 0 ≤ r ∧ (1 ≤ n → r < n) := by
  have hw : wrap64 (p + 1) = p + 1 := wrap_small _ (by omega) (by omega)
  have hw2 : wrap64 (p + 1 - 1) = p := by rw [show p + 1 - 1 = p by omega]; exact wrap_small _ (by omega) (by omega)
  unfold spec_l6Rd_pick.f
  rw [hw]
  by_cases h1 : n < 1
  · rw [if_pos h1]
    simp only [spec_l6Rd_pick.j0, if_true]
    exact ⟨0, rfl, by omega, by omega⟩
  rw [if_neg h1]
  by_cases h2 : (l.length : Int) = 0
  · have e : ((l.length : Int) == 0) = true := by simpa using h2
    rw [e]
    simp only [spec_l6Rd_pick.j0, if_true]
    exact ⟨0, rfl, by omega, by omega⟩
  have e : ((l.length : Int) == 0) = false := by simpa using h2
  rw [e]
  simp only [spec_l6Rd_pick.j0, hw2]
  rw [if_neg (by simp)]
  by_cases h3 : p < (l.length : Int)
  · rw [if_pos h3, if_pos hp, if_neg (by omega)]
    have hr := rd_byte hb p
    rw [wrap_small _ (by omega) (by omega)]
    have := tmod_range (rd l p) n hr.1 (by omega)
    exact ⟨_, rfl, this.1, fun _ => this.2⟩
  · rw [if_neg h3, if_neg h2]
    have hL : (0 : Int) < (l.length : Int) := by omega
    have e7 : wrap64 (p * 7) = p * 7 := wrap_small _ (by omega) (by omega)
    have e73 : wrap64 (p * 7 + 3) = p * 7 + 3 := wrap_small _ (by omega) (by omega)
    rw [e7, e73]
    have m1 := tmod_range p l.length hp hL
    have m2 := tmod_range (p * 7 + 3) l.length (by omega) hL
    rw [if_pos m1.1, if_pos m1.2, if_pos m2.1, if_pos m2.2, if_neg (by omega)]
    have r1 := rd_byte hb (Int.tmod p l.length)
    have r2 := rd_byte hb (Int.tmod (p * 7 + 3) l.length)
    have d1 := tdiv_range p l.length hp hL
    generalize rd l (Int.tmod p l.length) = u at *
    generalize rd l (Int.tmod (p * 7 + 3) l.length) = v at *
    generalize Int.tdiv p l.length = d at *
    have w1 : wrap64 u = u := wrap_small _ (by omega) (by omega)
    have w2 : wrap64 v = v := wrap_small _ (by omega) (by omega)
    have w3 : wrap64 (u * 131) = u * 131 := wrap_small _ (by omega) (by omega)
    have w4 : wrap64 (v * 1117) = v * 1117 := wrap_small _ (by omega) (by omega)
    have w5 : wrap64 (u * 131 + v * 1117) = u * 131 + v * 1117 := wrap_small _ (by omega) (by omega)
    have w6 : wrap64 (p * 29) = p * 29 := wrap_small _ (by omega) (by omega)
    have w7 : wrap64 (u * 131 + v * 1117 + p * 29) = u * 131 + v * 1117 + p * 29 := wrap_small _ (by omega) (by omega)
    have w8 : wrap64 d = d := wrap_small _ (by omega) (by omega)
    have w9 : wrap64 (d * 53) = d * 53 := wrap_small _ (by omega) (by omega)
    have w10 : wrap64 (u * 131 + v * 1117 + p * 29 + d * 53) = u * 131 + v * 1117 + p * 29 + d * 53 := wrap_small _ (by omega) (by omega)
    simp only [w1, w2, w3, w4, w5, w6, w7, w8, w9, w10]
    have hx0 : 0 ≤ u * 131 + v * 1117 + p * 29 + d * 53 := by omega
    have hx1 : u * 131 + v * 1117 + p * 29 + d * 53 < 1000000000000 := by omega
    generalize u * 131 + v * 1117 + p * 29 + d * 53 = x at *
    have t1 := tdiv_range x 64 hx0 (by decide)
    rw [wrap_small (Int.tdiv x 64) (by omega) (by omega)]
    have x1 := xor_nonneg x (Int.tdiv x 64) (by omega) (by omega) (by omega) (by omega)
    have := tmod_range (Go.bits .xor .i64 x (Int.tdiv x 64)) n x1 (by omega)
    exact ⟨_, rfl, this.1, fun _ => this.2⟩
theorem open_ok (l : List Int) (hb : ∀ x ∈ l, 0 ≤ x ∧ x ≤ 255) : ∃ l', spec_l6Open.f l = some (l', 0) ∧ ∀ x ∈ l', 0 ≤ x ∧ x ≤ 255 := by
  unfold spec_l6Open.f
  by_cases h : (l.length : Int) > 2000
  · rw [if_pos h, if_pos (by omega)]
    exact ⟨_, rfl, fun x hx => hb x (List.mem_of_mem_take hx)⟩
  · rw [if_neg h]
    exact ⟨l, rfl, hb⟩
theorem word_ok (k : Nat) (l : List Int) (p : Int) (hb : ∀ x ∈ l, 0 ≤ x ∧ x ≤ 255) (hp : 0 ≤ p) (hp1 : p ≤ 50000000) :
    ∃ n p', spec_l71Word.f (k + 1) l p = some (n, p') ∧ -16 ≤ n ∧ n ≤ 15 ∧ p ≤ p' ∧ p' ≤ p + 2 := by
  unfold spec_l71Word.f
  obtain ⟨r1, h1, q1, s1⟩ := pick_ok k l p 3 hb (by omega) (by omega)
  rw [h1]; simp only [Option.bind_some]
  by_cases c : r1 = 0
  · rw [if_pos c]
    obtain ⟨r2, h2, q2, s2⟩ := pick_ok k l (p + 1) 6 hb (by omega) (by omega)
    rw [h2]; simp only [Option.bind_some]
    have s2' := s2 (by omega)
    rw [if_pos q2, if_pos (by simp; omega)]
    refine ⟨_, _, rfl, ?_⟩
    have hc : r2 = 0 ∨ r2 = 1 ∨ r2 = 2 ∨ r2 = 3 ∨ r2 = 4 ∨ r2 = 5 := by omega
    rcases hc with rfl | rfl | rfl | rfl | rfl | rfl <;> simp [rd] <;> omega
  · rw [if_neg c]
    unfold spec_l1Many.f
    simp only [Option.bind_some]
    obtain ⟨r2, h2, q2, s2⟩ := pick_ok k l (p + 1) 32 hb (by omega) (by omega)
    rw [h2]; simp only [Option.bind_some]
    have s2' := s2 (by omega)
    rw [wrap_small _ (by omega) (by omega)]
    exact ⟨_, _, rfl, by omega, by omega, by omega, by omega⟩
/-- Is a span valid? -/
def okS (a : Bool) (l h : Int) : Bool := if a = true then decide (-16 ≤ l ∧ l ≤ 15 ∧ -16 ≤ h ∧ h ≤ 15 ∧ l ≤ h) else (l == 0 && h == 0)
/-- A word? -/
def wordB (n : Int) : Bool := decide (-16 ≤ n ∧ n ≤ 15)
theorem some_if_true {p : Prop} [Decidable p] (b : Bool) : (if p then (some b) else (some false)) = some (decide p && b) := by
  by_cases h : p <;> simp [h]
theorem l6In_eq (n lo hi : Int) : spec_l6In.f n lo hi = some (decide (lo ≤ n ∧ n ≤ hi)) := by
  unfold spec_l6In.f
  by_cases h1 : n ≥ lo
  · rw [if_pos h1]; congr 1; rw [decide_eq_decide]; omega
  · rw [if_neg h1]; congr 1; symm; rw [decide_eq_false_iff_not]; omega
theorem l1Word_eq (n : Int) : spec_l1Word.f n = some (wordB n) := by
  unfold spec_l1Word.f
  rw [l6In_eq]; rfl
theorem specOk_eq (a : Bool) (l h : Int) : spec_SpanOk.f a l h = some (okS a l h) := by
  unfold spec_SpanOk.f okS
  cases a
  · simp
  · simp only [if_true, l1Word_eq, Option.bind_some, wordB]
    by_cases h1 : -16 ≤ l ∧ l ≤ 15 <;> by_cases h2 : -16 ≤ h ∧ h ≤ 15 <;> simp [h1, h2] <;> omega
theorem l1Of_eq (l h : Int) : spec_l1Of.f l h = some (if l ≤ h then (true, l, h) else (false, 0, 0)) := by
  unfold spec_l1Of.f
  by_cases c : l ≤ h
  · rw [if_neg (by omega), if_pos c]
  · rw [if_pos (by omega), if_neg c]
/-- The span of a word. -/
def ofS (n : Int) : Bool × Int × Int := if wordB n = true then (true, n, n) else (false, 0, 0)
theorem specOf_eq (n : Int) : spec_SpanOf.f n = some (ofS n) := by
  unfold spec_SpanOf.f ofS
  rw [l1Word_eq]; simp only [Option.bind_some]
  cases wordB n <;> simp [l1Of_eq]
theorem some_ok (k : Nat) (l : List Int) (p : Int) (hb : ∀ x ∈ l, 0 ≤ x ∧ x ≤ 255) (hp : 0 ≤ p) (hp1 : p ≤ 40000000) :
    ∃ a lo hi p', spec_l71Some.f (k + 1) l p = some (a, lo, hi, p') ∧ p ≤ p' ∧ p' ≤ p + 7 := by
  unfold spec_l71Some.f
  obtain ⟨n1, p1, h1, q1, s1, t1, u1⟩ := word_ok k l p hb (by omega) (by omega)
  rw [h1]; simp only [Option.bind_some]
  obtain ⟨r2, h2, q2, s2⟩ := pick_ok k l p1 4 hb (by omega) (by omega)
  rw [h2]; simp only [Option.bind_some]
  by_cases c : r2 = 0
  · rw [if_pos c, l1Of_eq]; simp only [Option.bind_some]
    exact ⟨_, _, _, _, rfl, by omega, by omega⟩
  · rw [if_neg c]
    obtain ⟨n3, p3, h3, q3, s3, t3, u3⟩ := word_ok k l (p1 + 1) hb (by omega) (by omega)
    rw [h3]; simp only [Option.bind_some]
    obtain ⟨r4, h4, q4, s4⟩ := pick_ok k l p3 2 hb (by omega) (by omega)
    rw [h4]; simp only [Option.bind_some]
    by_cases c4 : r4 = 0
    · rw [if_pos c4]
      obtain ⟨r5, h5, q5, s5⟩ := pick_ok k l (p3 + 1) 5 hb (by omega) (by omega)
      rw [h5]; simp only [Option.bind_some]
      rw [l1Of_eq]; simp only [Option.bind_some]
      exact ⟨_, _, _, _, rfl, by omega, by omega⟩
    · rw [if_neg c4, l1Of_eq]; simp only [Option.bind_some]
      exact ⟨_, _, _, _, rfl, by omega, by omega⟩
theorem span_ok (k : Nat) (l : List Int) (p : Int) (hb : ∀ x ∈ l, 0 ≤ x ∧ x ≤ 255) (hp : 0 ≤ p) (hp1 : p ≤ 30000000) :
    ∃ a lo hi p', spec_l71Span.f (k + 1) l p = some (a, lo, hi, p') ∧ p ≤ p' ∧ p' ≤ p + 10 := by
  unfold spec_l71Span.f
  obtain ⟨r1, h1, q1, s1⟩ := pick_ok k l p 24 hb (by omega) (by omega)
  rw [h1]; simp only [Option.bind_some]
  by_cases c : r1 = 0
  · rw [if_pos c]
    exact ⟨_, _, _, _, rfl, by omega, by omega⟩
  rw [if_neg c]
  by_cases c2 : r1 = 1
  · rw [if_pos c2]
    obtain ⟨r2, h2, q2, s2⟩ := pick_ok k l (p + 1) 4 hb (by omega) (by omega)
    rw [h2]; simp only [Option.bind_some]
    have s2' := s2 (by omega)
    rw [if_pos q2, if_pos (by simp; omega)]
    exact ⟨_, _, _, _, rfl, by omega, by omega⟩
  · rw [if_neg c2]
    obtain ⟨a, lo, hi, p', h3, q3, s3⟩ := some_ok k l (p + 1) hb (by omega) (by omega)
    rw [h3]; simp only [Option.bind_some]
    exact ⟨_, _, _, _, rfl, by omega, by omega⟩
theorem isWord_eq (n : Int) : impl_isWord.f n = some (wordB n) := by
  unfold impl_isWord.f wordB
  by_cases h1 : n ≥ -16
  · rw [if_pos h1]; congr 1; rw [decide_eq_decide]; omega
  · rw [if_neg h1]; congr 1; symm; rw [decide_eq_false_iff_not]; omega
theorem implOk_eq (a : Bool) (l h : Int) : impl_SpanOk.f a l h = some (okS a l h) := by
  unfold impl_SpanOk.f okS
  cases a
  · simp
  · simp only [if_true, isWord_eq, Option.bind_some, wordB]
    by_cases h1 : -16 ≤ l ∧ l ≤ 15 <;> by_cases h2 : -16 ≤ h ∧ h ≤ 15 <;> simp [h1, h2] <;> omega
/-- Does a span have a number? -/
def hasS (a : Bool) (l h n : Int) : Bool := okS a l h && (a && decide (l ≤ n ∧ n ≤ h))
theorem implHas_eq (a : Bool) (l h n : Int) : impl_SpanHas.f a l h n = some (hasS a l h n) := by
  unfold impl_SpanHas.f hasS
  rw [implOk_eq]; simp only [Option.bind_some]
  cases okS a l h <;> cases a <;> simp
  by_cases h1 : l ≤ n <;> simp [h1]
theorem ok_true {l h : Int} : okS true l h = true ↔ -16 ≤ l ∧ l ≤ 15 ∧ -16 ≤ h ∧ h ≤ 15 ∧ l ≤ h := by
  unfold okS
  simp
theorem ok_false {l h : Int} : okS false l h = true ↔ l = 0 ∧ h = 0 := by
  unfold okS
  simp
/-- The join of two spans. -/
def joinS (a : Bool) (l h : Int) (b : Bool) (m k : Int) : Bool × Int × Int :=
  if (okS a l h && okS b m k) = true then (if a = true then (if b = true then (true, mn l m, mx h k) else (a, l, h)) else (b, m, k)) else (false, 0, 0)
theorem specJoin_eq (q : Nat) (a : Bool) (l h : Int) (b : Bool) (m k : Int) : spec_SpanJoin.f (q + 1) a l h b m k = some (joinS a l h b m k) := by
  unfold spec_SpanJoin.f joinS
  rw [specOk_eq, specOk_eq]; simp only [Option.bind_some]
  by_cases c1 : okS a l h = true
  · rw [c1]
    by_cases c2 : okS b m k = true
    · rw [c2]
      simp only [if_true, spec_SpanJoin.j0, Bool.not_true, Bool.and_true]
      cases a <;> cases b <;> simp
      rw [ok_true] at c1 c2
      rw [l1Of_eq, if_pos (by unfold mn mx; omega)]
      rfl
    · have c2' : okS b m k = false := by simpa using c2
      rw [c2']
      simp [spec_SpanJoin.j0]
  · have c1' : okS a l h = false := by simpa using c1
    rw [c1']
    simp [spec_SpanJoin.j0]
/-- Is a span in another one? -/
def inS (a : Bool) (l h : Int) (b : Bool) (m k : Int) : Bool := okS a l h && (okS b m k && (!a || (b && decide (m ≤ l ∧ h ≤ k))))
theorem specIn_eq (a : Bool) (l h : Int) (b : Bool) (m k : Int) : spec_SpanIn.f a l h b m k = some (inS a l h b m k) := by
  unfold spec_SpanIn.f inS
  rw [specOk_eq, specOk_eq]; simp only [Option.bind_some]
  cases okS a l h <;> cases okS b m k <;> cases a <;> cases b <;> simp
  by_cases h1 : m ≤ l <;> simp [h1]
theorem bothOk_eq (a : Bool) (l h : Int) (b : Bool) (m k : Int) : impl_bothOk.f a l h b m k = some (okS a l h && okS b m k) := by
  unfold impl_bothOk.f
  rw [implOk_eq, implOk_eq]; simp only [Option.bind_some]
  cases okS a l h <;> simp
theorem implIn_eq (a : Bool) (l h : Int) (b : Bool) (m k : Int) : impl_SpanIn.f a l h b m k = some (inS a l h b m k) := by
  unfold impl_SpanIn.f inS
  rw [bothOk_eq]; simp only [Option.bind_some]
  cases okS a l h <;> cases okS b m k <;> cases a <;> cases b <;> simp
  by_cases h1 : m ≤ l <;> simp [h1]
theorem draw_SpanIn (k : Nat) (l : List Int) (hb : ∀ x ∈ l, 0 ≤ x ∧ x ≤ 255) : ∃ r, spec_DrawSpanIn.f (k + 1) l = some r := by
  unfold spec_DrawSpanIn.f
  obtain ⟨l', h, hb'⟩ := open_ok l hb
  rw [h]; simp only [Option.bind_some]
  obtain ⟨a, lo, hi, p1, h1, q1, s1⟩ := span_ok k l' 0 hb' (by omega) (by omega)
  rw [h1]; simp only [Option.bind_some]
  obtain ⟨b, lo2, hi2, p2, h2, q2, s2⟩ := span_ok k l' p1 hb' (by omega) (by omega)
  rw [h2]; simp only [Option.bind_some]
  obtain ⟨r3, h3, q3, s3⟩ := pick_ok k l' p2 2 hb' (by omega) (by omega)
  rw [h3]; simp only [Option.bind_some]
  by_cases c : r3 = 0
  · rw [if_pos c, specJoin_eq]; simp only [Option.bind_some]
    exact ⟨_, rfl⟩
  · rw [if_neg c]
    exact ⟨_, rfl⟩
/-- Are d numbers from n on in b, if in a? -/
def allS (a : Bool) (l h : Int) (b : Bool) (m k : Int) : Nat → Int → Bool
  | 0, _ => true
  | d + 1, n => (!hasS a l h n || hasS b m k n) && allS a l h b m k d (n + 1)
theorem allS_iff (a : Bool) (l h : Int) (b : Bool) (m k : Int) (d : Nat) : ∀ n : Int, allS a l h b m k d n = true ↔ ∀ i, n ≤ i → i < n + d → hasS a l h i = true → hasS b m k i = true := by
  induction d with
  | zero => intro n; simp [allS]; intro i h1 h2; omega
  | succ d ih =>
    intro n
    simp only [allS, Bool.and_eq_true, ih]
    constructor
    · rintro ⟨h1, h2⟩ i h3 h4 h5
      by_cases e : i = n
      · subst e; simpa [h5] using h1
      · exact h2 i (by omega) (by omega) h5
    · intro hh
      refine ⟨?_, fun i h3 h4 h5 => hh i (by omega) (by omega) h5⟩
      cases e : hasS a l h n
      · rfl
      · simpa using hh n (by omega) (by omega) e
theorem loop_in (x5 : Bool) (a : Bool) (l h : Int) (b : Bool) (m q : Int) (d : Nat) : ∀ (k : Nat) (x6 : Bool) (n : Int), -16 ≤ n → n ≤ 16 → 16 - n = d → d < k →
    laws_FnSpanIn.l0 k x5 x6 n a l h b m q = some (x5 == (x6 && allS a l h b m q d n)) := by
  induction d with
  | zero =>
    intro k x6 n h0 h1 hd hk
    obtain ⟨k, rfl⟩ : ∃ j, k = j + 1 := ⟨k - 1, by omega⟩
    simp only [laws_FnSpanIn.l0]
    rw [if_neg (by omega)]; simp [allS]
  | succ d ih =>
    intro k x6 n h0 h1 hd hk
    obtain ⟨k, rfl⟩ : ∃ j, k = j + 1 := ⟨k - 1, by omega⟩
    have hw : wrap64 (n + 1) = n + 1 := wrap_small _ (by omega) (by omega)
    have hn := fun x6 => ih k x6 (n + 1) (by omega) (by omega) (by omega) (by omega)
    simp only [laws_FnSpanIn.l0, hw, hn]
    rw [if_pos (by omega), implHas_eq, implHas_eq]; simp only [Option.bind_some, allS]
    cases x6 <;> cases hasS a l h n <;> simp
theorem all_in (a : Bool) (l h : Int) (b : Bool) (m k : Int) (h1 : okS a l h = true) (h2 : okS b m k = true) : inS a l h b m k = allS a l h b m k 32 (-16) := by
  rw [Bool.eq_iff_iff, allS_iff]
  unfold inS
  rw [h1, h2]
  cases a
  · simp [hasS]
  · rw [ok_true] at h1
    have okA : okS true l h = true := ok_true.2 h1
    cases b
    · simp only [hasS, okA, Bool.true_and, Bool.and_false, Bool.not_true, Bool.false_or, Bool.false_and]
      simp
      exact ⟨l, by omega, by omega, by omega, by omega⟩
    · have okB := h2
      rw [ok_true] at h2
      simp only [hasS, okA, okB, Bool.true_and, Bool.not_true, Bool.false_or, decide_eq_true_eq]
      constructor
      · rintro ⟨h3, h4⟩ i _ _ h5; omega
      · intro hh
        have := hh l (by omega) (by omega) (by omega)
        have := hh h (by omega) (by omega) (by omega)
        omega
theorem FnSpanIn : laws_FnSpanIn.Pure := by
  intro l _ _ hb
  refine ⟨100, ?_⟩
  unfold laws_FnSpanIn.f
  by_cases h : (l.length : Int) > 1048576
  · rw [if_pos h]
  rw [if_neg h]
  obtain ⟨⟨a, lo, hi, b, m, q⟩, hn⟩ := draw_SpanIn 99 l (fun x hx => byte_of_wf (hb x hx))
  rw [hn]; simp only [Option.bind_some]
  rw [implIn_eq, specIn_eq, specOk_eq, specOk_eq]; simp only [Option.bind_some]
  rw [if_neg (by simp)]
  by_cases h1 : okS a lo hi = true
  · rw [if_pos h1]
    by_cases h2 : okS b m q = true
    · rw [h2]
      simp only [Bool.not_true, laws_FnSpanIn.j0]
      rw [if_neg (by simp), loop_in _ _ _ _ _ _ _ 32 _ _ _ (by omega) (by omega) (by omega) (by omega), all_in _ _ _ _ _ _ h1 h2]
      simp
    · have h2' : okS b m q = false := by simpa using h2
      rw [h2']
      simp [laws_FnSpanIn.j0, specIn_eq]
  · rw [if_neg h1]
    simp [laws_FnSpanIn.j0, specIn_eq]

end Go.Proofs.Ytbgaoidihgpldab.Pure
