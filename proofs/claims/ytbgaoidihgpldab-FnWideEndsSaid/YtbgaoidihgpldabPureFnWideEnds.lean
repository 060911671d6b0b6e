/- What is proved: the pure statement of the law FnWideEnds: at every input that fits, the printed function answers true. No condition. -/
import Derived.Test.YtbgaoidihgpldabQx21
namespace Go.Proofs.Ytbgaoidihgpldab.Pure
open Go.RowKit Go.Proofs.Ytbgaoidihgpldab.Q Go.Proofs.YtbgaoidihgpldabW.PrintWords Go.Proofs.YtbgaoidihgpldabW.PrintLast

theorem tm32 (a : Int) : ∃ q, a = 32 * q + Int.tmod a 32 ∧ -32 < Int.tmod a 32 ∧ Int.tmod a 32 < 32 := ⟨Int.tdiv a 32, (Int.mul_tdiv_add_tmod a 32).symm, Int.lt_tmod_of_pos a (by decide), Int.tmod_lt_of_pos a (by decide)⟩
theorem wrap_small (a : Int) (h0 : -9223372036854775808 ≤ a) (h1 : a ≤ 9223372036854775807) : wrap64 a = a := by
  unfold wrap64; omega
theorem xor_nonneg (a b : Int) (ha : 0 ≤ a) (ha1 : a < 4611686018427387904) (hb : 0 ≤ b) (hb1 : b < 4611686018427387904) : 0 ≤ Go.bits .xor .i64 a b := by
  obtain ⟨x, rfl⟩ := Int.eq_ofNat_of_zero_le ha
  obtain ⟨y, rfl⟩ := Int.eq_ofNat_of_zero_le hb
  have hx : x < 2 ^ 62 := by omega
  have hy : y < 2 ^ 62 := by omega
  have hx' : x % 2 ^ 64 = x := Nat.mod_eq_of_lt (by omega)
  have hy' : y % 2 ^ 64 = y := Nat.mod_eq_of_lt (by omega)
  have hz : x ^^^ y < 2 ^ 62 := Nat.xor_lt_two_pow hx hy
  have key : Go.bits .xor .i64 (x : Int) (y : Int) = IntKind.i64.wrap (((BitVec.ofInt 64 (x : Int)) ^^^ (BitVec.ofInt 64 (y : Int))).toNat : Int) := rfl
  rw [key, BitVec.ofInt_natCast, BitVec.ofInt_natCast, BitVec.toNat_xor, BitVec.toNat_ofNat, BitVec.toNat_ofNat, hx', hy', IntKind.wrap_i64]
  omega
theorem byte_of_wf {x : Int} (h : (Lit.int .u8 x).wf = true) : 0 ≤ x ∧ x ≤ 255 := by
  simp [Lit.wf, IntKind.min, IntKind.max, IntKind.signed, IntKind.bits] at h
  omega
theorem rd_byte {l : List Int} (hb : ∀ x ∈ l, 0 ≤ x ∧ x ≤ 255) (i : Int) : 0 ≤ rd l i ∧ rd l i ≤ 255 := by
  unfold rd
  by_cases h : i.toNat < l.length
  · rw [List.getD_eq_getElem?_getD, List.getElem?_eq_getElem h]
    exact hb _ (List.getElem_mem h)
  · rw [List.getD_eq_getElem?_getD, List.getElem?_eq_none (by omega)]
    simp
theorem tmod_range (a n : Int) (ha : 0 ≤ a) (hn : 0 < n) : 0 ≤ Int.tmod a n ∧ Int.tmod a n < n := by
  rw [Int.tmod_eq_emod_of_nonneg ha]
  exact ⟨Int.emod_nonneg _ (by omega), Int.emod_lt_of_pos _ hn⟩
theorem tdiv_range (a n : Int) (ha : 0 ≤ a) (hn : 0 < n) : 0 ≤ Int.tdiv a n ∧ Int.tdiv a n ≤ a := by
  rw [Int.tdiv_eq_ediv_of_nonneg ha]
  exact ⟨Int.ediv_nonneg ha (by omega), Int.ediv_le_self _ ha⟩
/-- What a reader of a code gives: a number below n. -/
theorem pick_ok (k : Nat) (l : List Int) (p n : Int) (hb : ∀ x ∈ l, 0 ≤ x ∧ x ≤ 255) (hp : 0 ≤ p) (hp1 : p ≤ 100000000) :
    ∃ r, spec_l6Rd_pick.f (k + 1) l p n = some (r, p + 1) ∧ 0 ≤ r ∧ (1 ≤ n → r < n) := by
  have hw : wrap64 (p + 1) = p + 1 := wrap_small _ (by omega) (by omega)
  have hw2 : wrap64 (p + 1 - 1) = p := by rw [show p + 1 - 1 = p by omega]; exact wrap_small _ (by omega) (by omega)
  unfold spec_l6Rd_pick.f
  rw [hw]
  by_cases h1 : n < 1
  · rw [if_pos h1]
    simp only [spec_l6Rd_pick.j0, if_true]
    exact ⟨0, rfl, by omega, by omega⟩
  rw [if_neg h1]
  by_cases h2 : (l.length : Int) = 0
  · have e : ((l.length : Int) == 0) = true := by simpa using h2
    rw [e]
    simp only [spec_l6Rd_pick.j0, if_true]
    exact ⟨0, rfl, by omega, by omega⟩
  have e : ((l.length : Int) == 0) = false := by simpa using h2
  rw [e]
  simp only [spec_l6Rd_pick.j0, hw2]
  rw [if_neg (by simp)]
  by_cases h3 : p < (l.length : Int)
  · rw [if_pos h3, if_pos hp, if_neg (by omega)]
    have hr := rd_byte hb p
    rw [wrap_small _ (by omega) (by omega)]
    have := tmod_range (rd l p) n hr.1 (by omega)
    exact ⟨_, rfl, this.1, fun _ => this.2⟩
  · rw [if_neg h3, if_neg h2]
    have hL : (0 : Int) < (l.length : Int) := by omega
    have e7 : wrap64 (p * 7) = p * 7 := wrap_small _ (by omega) (by omega)
    have e73 : wrap64 (p * 7 + 3) = p * 7 + 3 := wrap_small _ (by omega) (by omega)
    rw [e7, e73]
    have m1 := tmod_range p l.length hp hL
    have m2 := tmod_range (p * 7 + 3) l.length (by omega) hL
    rw [if_pos m1.1, if_pos m1.2, if_pos m2.1, if_pos m2.2, if_neg (by omega)]
    have r1 := rd_byte hb (Int.tmod p l.length)
    have r2 := rd_byte hb (Int.tmod (p * 7 + 3) l.length)
    have d1 := tdiv_range p l.length hp hL
    generalize rd l (Int.tmod p l.length) = u at *
    generalize rd l (Int.tmod (p * 7 + 3) l.length) = v at *
    generalize Int.tdiv p l.length = d at *
    have w1 : wrap64 u = u := wrap_small _ (by omega) (by omega)
    have w2 : wrap64 v = v := wrap_small _ (by omega) (by omega)
    have w3 : wrap64 (u * 131) = u * 131 := wrap_small _ (by omega) (by omega)
    have w4 : wrap64 (v * 1117) = v * 1117 := wrap_small _ (by omega) (by omega)
    have w5 : wrap64 (u * 131 + v * 1117) = u * 131 + v * 1117 := wrap_small _ (by omega) (by omega)
    have w6 : wrap64 (p * 29) = p * 29 := wrap_small _ (by omega) (by omega)
    have w7 : wrap64 (u * 131 + v * 1117 + p * 29) = u * 131 + v * 1117 + p * 29 := wrap_small _ (by omega) (by omega)
    have w8 : wrap64 d = d := wrap_small _ (by omega) (by omega)
    have w9 : wrap64 (d * 53) = d * 53 := wrap_small _ (by omega) (by omega)
    have w10 : wrap64 (u * 131 + v * 1117 + p * 29 + d * 53) = u * 131 + v * 1117 + p * 29 + d * 53 := wrap_small _ (by omega) (by omega)
    simp only [w1, w2, w3, w4, w5, w6, w7, w8, w9, w10]
    have hx0 : 0 ≤ u * 131 + v * 1117 + p * 29 + d * 53 := by omega
    have hx1 : u * 131 + v * 1117 + p * 29 + d * 53 < 1000000000000 := by omega
    generalize u * 131 + v * 1117 + p * 29 + d * 53 = x at *
    have t1 := tdiv_range x 64 hx0 (by decide)
    rw [wrap_small (Int.tdiv x 64) (by omega) (by omega)]
    have x1 := xor_nonneg x (Int.tdiv x 64) (by omega) (by omega) (by omega) (by omega)
    have := tmod_range (Go.bits .xor .i64 x (Int.tdiv x 64)) n x1 (by omega)
    exact ⟨_, rfl, this.1, fun _ => this.2⟩
theorem open_ok (l : List Int) (hb : ∀ x ∈ l, 0 ≤ x ∧ x ≤ 255) : ∃ l', spec_l6Open.f l = some (l', 0) ∧ ∀ x ∈ l', 0 ≤ x ∧ x ≤ 255 := by
  unfold spec_l6Open.f
  by_cases h : (l.length : Int) > 2000
  · rw [if_pos h, if_pos (by omega)]
    exact ⟨_, rfl, fun x hx => hb x (List.mem_of_mem_take hx)⟩
  · rw [if_neg h]
    exact ⟨l, rfl, hb⟩
theorem word_ok (k : Nat) (l : List Int) (p : Int) (hb : ∀ x ∈ l, 0 ≤ x ∧ x ≤ 255) (hp : 0 ≤ p) (hp1 : p ≤ 50000000) :
    ∃ n p', spec_l71Word.f (k + 1) l p = some (n, p') ∧ -16 ≤ n ∧ n ≤ 15 ∧ p ≤ p' ∧ p' ≤ p + 2 := by
  unfold spec_l71Word.f
  obtain ⟨r1, h1, q1, s1⟩ := pick_ok k l p 3 hb (by omega) (by omega)
  rw [h1]; simp only [Option.bind_some]
  by_cases c : r1 = 0
  · rw [if_pos c]
    obtain ⟨r2, h2, q2, s2⟩ := pick_ok k l (p + 1) 6 hb (by omega) (by omega)
    rw [h2]; simp only [Option.bind_some]
    have s2' := s2 (by omega)
    rw [if_pos q2, if_pos (by simp; omega)]
    refine ⟨_, _, rfl, ?_⟩
    have hc : r2 = 0 ∨ r2 = 1 ∨ r2 = 2 ∨ r2 = 3 ∨ r2 = 4 ∨ r2 = 5 := by omega
    rcases hc with rfl | rfl | rfl | rfl | rfl | rfl <;> simp [rd] <;> omega
  · rw [if_neg c]
    unfold spec_l1Many.f
    simp only [Option.bind_some]
    obtain ⟨r2, h2, q2, s2⟩ := pick_ok k l (p + 1) 32 hb (by omega) (by omega)
    rw [h2]; simp only [Option.bind_some]
    have s2' := s2 (by omega)
    rw [wrap_small _ (by omega) (by omega)]
    exact ⟨_, _, rfl, by omega, by omega, by omega, by omega⟩
/-- Is a span valid? -/
def okS (a : Bool) (l h : Int) : Bool := if a = true then decide (-16 ≤ l ∧ l ≤ 15 ∧ -16 ≤ h ∧ h ≤ 15 ∧ l ≤ h) else (l == 0 && h == 0)
/-- A word? -/
def wordB (n : Int) : Bool := decide (-16 ≤ n ∧ n ≤ 15)
theorem some_if_true {p : Prop} [Decidable p] (b : Bool) : (if p then (some b) else (some false)) = some (decide p && b) := by
  by_cases h : p <;> simp [h]
theorem l6In_eq (n lo hi : Int) : spec_l6In.f n lo hi = some (decide (lo ≤ n ∧ n ≤ hi)) := by
  unfold spec_l6In.f
  by_cases h1 : n ≥ lo
  · rw [if_pos h1]; congr 1; rw [decide_eq_decide]; omega
  · rw [if_neg h1]; congr 1; symm; rw [decide_eq_false_iff_not]; omega
theorem l1Word_eq (n : Int) : spec_l1Word.f n = some (wordB n) := by
  unfold spec_l1Word.f
  rw [l6In_eq]; rfl
theorem specOk_eq (a : Bool) (l h : Int) : spec_SpanOk.f a l h = some (okS a l h) := by
  unfold spec_SpanOk.f okS
  cases a
  · simp
  · simp only [if_true, l1Word_eq, Option.bind_some, wordB]
    by_cases h1 : -16 ≤ l ∧ l ≤ 15 <;> by_cases h2 : -16 ≤ h ∧ h ≤ 15 <;> simp [h1, h2] <;> omega
theorem l1Of_eq (l h : Int) : spec_l1Of.f l h = some (if l ≤ h then (true, l, h) else (false, 0, 0)) := by
  unfold spec_l1Of.f
  by_cases c : l ≤ h
  · rw [if_neg (by omega), if_pos c]
  · rw [if_pos (by omega), if_neg c]
/-- The span of a word. -/
def ofS (n : Int) : Bool × Int × Int := if wordB n = true then (true, n, n) else (false, 0, 0)
theorem specOf_eq (n : Int) : spec_SpanOf.f n = some (ofS n) := by
  unfold spec_SpanOf.f ofS
  rw [l1Word_eq]; simp only [Option.bind_some]
  cases wordB n <;> simp [l1Of_eq]
theorem some_ok (k : Nat) (l : List Int) (p : Int) (hb : ∀ x ∈ l, 0 ≤ x ∧ x ≤ 255) (hp : 0 ≤ p) (hp1 : p ≤ 40000000) :
    ∃ a lo hi p', spec_l71Some.f (k + 1) l p = some (a, lo, hi, p') ∧ p ≤ p' ∧ p' ≤ p + 7 := by
  unfold spec_l71Some.f
  obtain ⟨n1, p1, h1, q1, s1, t1, u1⟩ := word_ok k l p hb (by omega) (by omega)
  rw [h1]; simp only [Option.bind_some]
  obtain ⟨r2, h2, q2, s2⟩ := pick_ok k l p1 4 hb (by omega) (by omega)
  rw [h2]; simp only [Option.bind_some]
  by_cases c : r2 = 0
  · rw [if_pos c, l1Of_eq]; simp only [Option.bind_some]
    exact ⟨_, _, _, _, rfl, by omega, by omega⟩
  · rw [if_neg c]
    obtain ⟨n3, p3, h3, q3, s3, t3, u3⟩ := word_ok k l (p1 + 1) hb (by omega) (by omega)
    rw [h3]; simp only [Option.bind_some]
    obtain ⟨r4, h4, q4, s4⟩ := pick_ok k l p3 2 hb (by omega) (by omega)
    rw [h4]; simp only [Option.bind_some]
    by_cases c4 : r4 = 0
    · rw [if_pos c4]
      obtain ⟨r5, h5, q5, s5⟩ := pick_ok k l (p3 + 1) 5 hb (by omega) (by omega)
      rw [h5]; simp only [Option.bind_some]
      rw [l1Of_eq]; simp only [Option.bind_some]
      exact ⟨_, _, _, _, rfl, by omega, by omega⟩
    · rw [if_neg c4, l1Of_eq]; simp only [Option.bind_some]
      exact ⟨_, _, _, _, rfl, by omega, by omega⟩
theorem span_ok (k : Nat) (l : List Int) (p : Int) (hb : ∀ x ∈ l, 0 ≤ x ∧ x ≤ 255) (hp : 0 ≤ p) (hp1 : p ≤ 30000000) :
    ∃ a lo hi p', spec_l71Span.f (k + 1) l p = some (a, lo, hi, p') ∧ p ≤ p' ∧ p' ≤ p + 10 := by
  unfold spec_l71Span.f
  obtain ⟨r1, h1, q1, s1⟩ := pick_ok k l p 24 hb (by omega) (by omega)
  rw [h1]; simp only [Option.bind_some]
  by_cases c : r1 = 0
  · rw [if_pos c]
    exact ⟨_, _, _, _, rfl, by omega, by omega⟩
  rw [if_neg c]
  by_cases c2 : r1 = 1
  · rw [if_pos c2]
    obtain ⟨r2, h2, q2, s2⟩ := pick_ok k l (p + 1) 4 hb (by omega) (by omega)
    rw [h2]; simp only [Option.bind_some]
    have s2' := s2 (by omega)
    rw [if_pos q2, if_pos (by simp; omega)]
    exact ⟨_, _, _, _, rfl, by omega, by omega⟩
  · rw [if_neg c2]
    obtain ⟨a, lo, hi, p', h3, q3, s3⟩ := some_ok k l (p + 1) hb (by omega) (by omega)
    rw [h3]; simp only [Option.bind_some]
    exact ⟨_, _, _, _, rfl, by omega, by omega⟩
theorem draw_SpanWide (k : Nat) (l : List Int) (hb : ∀ x ∈ l, 0 ≤ x ∧ x ≤ 255) : ∃ r, spec_DrawSpanWide.f (k + 1) l = some r := by
  unfold spec_DrawSpanWide.f
  obtain ⟨l', h, hb'⟩ := open_ok l hb
  rw [h]; simp only [Option.bind_some]
  obtain ⟨a, lo, hi, p1, h1, q1, s1⟩ := span_ok k l' 0 hb' (by omega) (by omega)
  rw [h1]; simp only [Option.bind_some]
  obtain ⟨b, lo2, hi2, p2, h2, q2, s2⟩ := span_ok k l' p1 hb' (by omega) (by omega)
  rw [h2]; simp only [Option.bind_some]
  exact ⟨_, rfl⟩
theorem ok_true {l h : Int} : okS true l h = true ↔ -16 ≤ l ∧ l ≤ 15 ∧ -16 ≤ h ∧ h ≤ 15 ∧ l ≤ h := by
  unfold okS
  simp
theorem ok_false {l h : Int} : okS false l h = true ↔ l = 0 ∧ h = 0 := by
  unfold okS
  simp
/-- The join of two spans. -/
def joinS (a : Bool) (l h : Int) (b : Bool) (m k : Int) : Bool × Int × Int :=
  if (okS a l h && okS b m k) = true then (if a = true then (if b = true then (true, mn l m, mx h k) else (a, l, h)) else (b, m, k)) else (false, 0, 0)
theorem specJoin_eq (q : Nat) (a : Bool) (l h : Int) (b : Bool) (m k : Int) : spec_SpanJoin.f (q + 1) a l h b m k = some (joinS a l h b m k) := by
  unfold spec_SpanJoin.f joinS
  rw [specOk_eq, specOk_eq]; simp only [Option.bind_some]
  by_cases c1 : okS a l h = true
  · rw [c1]
    by_cases c2 : okS b m k = true
    · rw [c2]
      simp only [if_true, spec_SpanJoin.j0, Bool.not_true, Bool.and_true]
      cases a <;> cases b <;> simp
      rw [ok_true] at c1 c2
      rw [l1Of_eq, if_pos (by unfold mn mx; omega)]
      rfl
    · have c2' : okS b m k = false := by simpa using c2
      rw [c2']
      simp [spec_SpanJoin.j0]
  · have c1' : okS a l h = false := by simpa using c1
    rw [c1']
    simp [spec_SpanJoin.j0]
/-- An end that falls falls to the next step, one that grows grows to it. -/
def downI (n : Int) : Int := if n ≥ 0 then 0 else if n ≥ -4 then -4 else -16
def upI (n : Int) : Int := if n ≤ 0 then 0 else if n ≤ 4 then 4 else 15
/-- The join in a hurry. -/
def wideS (a : Bool) (l h : Int) (b : Bool) (m q : Int) : Bool × Int × Int :=
  if (okS a l h && okS b m q && a && b) = true then
    ((joinS a l h b m q).1, (if (joinS a l h b m q).2.1 < l then downI (joinS a l h b m q).2.1 else (joinS a l h b m q).2.1), (if (joinS a l h b m q).2.2 > h then upI (joinS a l h b m q).2.2 else (joinS a l h b m q).2.2))
  else joinS a l h b m q
theorem l1SomeW_eq (a : Bool) (l h : Int) : spec_l1Some.f a l h = some (a && okS a l h) := by
  unfold spec_l1Some.f
  rw [specOk_eq]; simp only [Option.bind_some]
  cases a <;> simp
theorem l1Down_eq (n : Int) : spec_l1Down.f n = some (downI n) := by
  unfold spec_l1Down.f downI
  split
  · rfl
  · split <;> rfl
theorem l1Up_eq (n : Int) : spec_l1Up.f n = some (upI n) := by
  unfold spec_l1Up.f upI
  split
  · rfl
  · split <;> rfl
theorem specWide_eq (k : Nat) (a : Bool) (l h : Int) (b : Bool) (m q : Int) : spec_SpanWide.f (k + 1) a l h b m q = some (wideS a l h b m q) := by
  unfold spec_SpanWide.f wideS
  rw [specJoin_eq, l1SomeW_eq, l1SomeW_eq]; simp only [Option.bind_some]
  generalize joinS a l h b m q = X
  cases a <;> cases b <;> simp [spec_SpanWide.j0]
  cases okS true l h <;> cases okS true m q <;> simp [l1Down_eq, l1Up_eq]
  split <;> split <;> rfl
theorem rd_get {l : List Int} {i : Int} (h0 : 0 ≤ i) (h : i < l.length) : rd l i = l[i.toNat]'(by omega) := by
  unfold rd
  rw [List.getD_eq_getElem?_getD, List.getElem?_eq_getElem (by omega)]; rfl
theorem rd_mem {l : List Int} {i : Int} (h0 : 0 ≤ i) (h : i < l.length) : rd l i ∈ l := by
  rw [rd_get h0 h]
  exact List.getElem_mem _
theorem rd_drop {l : List Int} {i : Int} (h0 : 0 ≤ i) (h : i < l.length) : l.drop i.toNat = rd l i :: l.drop (i + 1).toNat := by
  rw [rd_get h0 h, show (i + 1).toNat = i.toNat + 1 by omega]
  exact List.drop_eq_getElem_cons (by omega)
/-- d numbers in line, from n on. -/
def upFrom : Nat → Int → List Int
  | 0, _ => []
  | d + 1, n => n :: upFrom d (n + 1)
theorem upFrom_mem (d : Nat) : ∀ n x : Int, x ∈ upFrom d n ↔ n ≤ x ∧ x < n + d := by
  induction d with
  | zero => intro n x; simp [upFrom] <;> omega
  | succ d ih => intro n x; simp only [upFrom, List.mem_cons, ih]; omega
theorem upFrom_length (d : Nat) : ∀ n : Int, (upFrom d n).length = d := by
  induction d with
  | zero => intro n; rfl
  | succ d ih => intro n; simp [upFrom, ih]
theorem isWord_eq (n : Int) : impl_isWord.f n = some (wordB n) := by
  unfold impl_isWord.f wordB
  by_cases h1 : n ≥ -16
  · rw [if_pos h1]; congr 1; rw [decide_eq_decide]; omega
  · rw [if_neg h1]; congr 1; symm; rw [decide_eq_false_iff_not]; omega
theorem implOk_eq (a : Bool) (l h : Int) : impl_SpanOk.f a l h = some (okS a l h) := by
  unfold impl_SpanOk.f okS
  cases a
  · simp
  · simp only [if_true, isWord_eq, Option.bind_some, wordB]
    by_cases h1 : -16 ≤ l ∧ l ≤ 15 <;> by_cases h2 : -16 ≤ h ∧ h ≤ 15 <;> simp [h1, h2] <;> omega
/-- The words of a span. -/
def wordsL (a : Bool) (l h : Int) : List Int := if a = true then upFrom (h + 1 - l).toNat l else []
theorem words_loop (l h : Int) (hl : -16 ≤ l) (hh : h ≤ 15) (d : Nat) : ∀ (k : Nat) (acc : List Int) (n : Int), l ≤ n → n ≤ h + 1 → h + 1 - n = d → d < k → acc.length + d ≤ 1000 →
    impl_Span_words.l0 k acc n true l h = some (acc ++ upFrom d n) := by
  induction d with
  | zero =>
    intro k acc n h1 h2 hd hk hc
    obtain ⟨k, rfl⟩ : ∃ j, k = j + 1 := ⟨k - 1, by omega⟩
    simp only [impl_Span_words.l0, if_true]
    rw [if_neg (by omega)]; simp [upFrom]
  | succ d ih =>
    intro k acc n h1 h2 hd hk hc
    obtain ⟨k, rfl⟩ : ∃ j, k = j + 1 := ⟨k - 1, by omega⟩
    simp only [impl_Span_words.l0, if_true]
    rw [if_pos (by omega), if_pos (by omega), wrap_small _ (by omega) (by omega), ih k (acc ++ [n]) (n + 1) (by omega) (by omega) (by omega) (by omega) (by simp; omega)]
    simp [upFrom]
theorem words_eq (k : Nat) (hk : 40 ≤ k) (a : Bool) (l h : Int) (ok : okS a l h = true) : impl_Span_words.f k a l h = some (wordsL a l h) := by
  unfold impl_Span_words.f wordsL
  cases a
  · obtain ⟨k, rfl⟩ : ∃ j, k = j + 1 := ⟨k - 1, by omega⟩
    simp [impl_Span_words.l0]
  · rw [ok_true] at ok
    rw [words_loop l h (by omega) (by omega) (h + 1 - l).toNat k [] l (by omega) (by omega) (by omega) (by omega) (by simp; omega)]
    simp
theorem wordsL_mem (a : Bool) (l h x : Int) (ok : okS a l h = true) : x ∈ wordsL a l h ↔ a = true ∧ l ≤ x ∧ x ≤ h := by
  unfold wordsL
  cases a
  · simp
  · rw [ok_true] at ok
    rw [if_pos rfl, upFrom_mem]
    simp; omega
theorem wordsL_length (a : Bool) (l h : Int) (ok : okS a l h = true) : (wordsL a l h).length ≤ 32 := by
  unfold wordsL
  cases a
  · simp
  · rw [ok_true] at ok
    rw [if_pos rfl, upFrom_length]; omega
theorem min_loop (l : List Int) (hl : l.length ≤ 1000) (d : Nat) : ∀ (k : Nat) (m i : Int), 0 ≤ i → i ≤ l.length → (l.length : Int) - i = d → d < k →
    ∃ r, slices_Min_int_int.l0 k l m i = some r ∧ (r = m ∨ r ∈ l) ∧ r ≤ m ∧ ∀ x ∈ l.drop i.toNat, r ≤ x := by
  induction d with
  | zero =>
    intro k m i h0 h1 hd hk
    obtain ⟨k, rfl⟩ : ∃ j, k = j + 1 := ⟨k - 1, by omega⟩
    simp only [slices_Min_int_int.l0]
    rw [if_neg (by omega)]
    refine ⟨m, rfl, .inl rfl, by omega, fun x hx => ?_⟩
    rw [List.drop_of_length_le (by omega)] at hx
    simp at hx
  | succ d ih =>
    intro k m i h0 h1 hd hk
    obtain ⟨k, rfl⟩ : ∃ j, k = j + 1 := ⟨k - 1, by omega⟩
    simp only [slices_Min_int_int.l0]
    rw [if_pos (by omega), if_pos h0, wrap_small _ (by omega) (by omega)]
    obtain ⟨r, hr, h2, h3, h4⟩ := ih k (mn m (rd l i)) (i + 1) (by omega) (by omega) (by omega) (by omega)
    have hm : rd l i ∈ l := rd_mem h0 (by omega)
    refine ⟨r, hr, ?_, by unfold mn at h3; split at h3 <;> omega, fun x hx => ?_⟩
    · rcases h2 with h2 | h2
      · unfold mn at h2
        split at h2
        · exact .inr (by rw [h2]; first | exact hm | exact hm)
        · exact .inl h2
      · exact .inr h2
    · rw [rd_drop h0 (by omega)] at hx
      rcases List.mem_cons.1 hx with rfl | hx
      · unfold mn at h3; split at h3 <;> omega
      · exact h4 x hx
theorem max_loop (l : List Int) (hl : l.length ≤ 1000) (d : Nat) : ∀ (k : Nat) (m i : Int), 0 ≤ i → i ≤ l.length → (l.length : Int) - i = d → d < k →
    ∃ r, slices_Max_int_int.l0 k l m i = some r ∧ (r = m ∨ r ∈ l) ∧ m ≤ r ∧ ∀ x ∈ l.drop i.toNat, x ≤ r := by
  induction d with
  | zero =>
    intro k m i h0 h1 hd hk
    obtain ⟨k, rfl⟩ : ∃ j, k = j + 1 := ⟨k - 1, by omega⟩
    simp only [slices_Max_int_int.l0]
    rw [if_neg (by omega)]
    refine ⟨m, rfl, .inl rfl, by omega, fun x hx => ?_⟩
    rw [List.drop_of_length_le (by omega)] at hx
    simp at hx
  | succ d ih =>
    intro k m i h0 h1 hd hk
    obtain ⟨k, rfl⟩ : ∃ j, k = j + 1 := ⟨k - 1, by omega⟩
    simp only [slices_Max_int_int.l0]
    rw [if_pos (by omega), if_pos h0, wrap_small _ (by omega) (by omega)]
    obtain ⟨r, hr, h2, h3, h4⟩ := ih k (mx m (rd l i)) (i + 1) (by omega) (by omega) (by omega) (by omega)
    have hm : rd l i ∈ l := rd_mem h0 (by omega)
    refine ⟨r, hr, ?_, by unfold mx at h3; split at h3 <;> omega, fun x hx => ?_⟩
    · rcases h2 with h2 | h2
      · unfold mx at h2
        split at h2
        · exact .inr (by rw [h2]; exact hm)
        · exact .inl h2
      · exact .inr h2
    · rw [rd_drop h0 (by omega)] at hx
      rcases List.mem_cons.1 hx with rfl | hx
      · unfold mx at h3; split at h3 <;> omega
      · exact h4 x hx
/-- The least span round numbers. -/
theorem spanned_eq (k : Nat) (l : List Int) (hl : l.length ≤ 1000) (hk : 1001 < k) :
    (l = [] → impl_spanned.f k l = some (false, 0, 0)) ∧ (l ≠ [] → ∃ lo hi, impl_spanned.f k l = some (true, lo, hi) ∧ lo ∈ l ∧ hi ∈ l ∧ ∀ x ∈ l, lo ≤ x ∧ x ≤ hi) := by
  constructor
  · rintro rfl
    unfold impl_spanned.f impl_between_int.f
    simp
  · intro hne
    have hpos : 0 < l.length := List.length_pos_iff.2 hne
    have h0 : rd l 0 ∈ l := rd_mem (by omega) (by omega)
    obtain ⟨lo, h1, h2, h3, h4⟩ := min_loop l hl (l.length - 1) k (rd l 0) 1 (by omega) (by omega) (by omega) (by omega)
    obtain ⟨hi, g1, g2, g3, g4⟩ := max_loop l hl (l.length - 1) k (rd l 0) 1 (by omega) (by omega) (by omega) (by omega)
    refine ⟨lo, hi, ?_, ?_, ?_, ?_⟩
    · unfold impl_spanned.f impl_between_int.f slices_Min_int_int.f slices_Max_int_int.f
      rw [if_neg (by omega), if_neg (by omega), if_pos (by omega), if_neg (by omega), if_pos (by omega), h1, g1]
      rfl
    · rcases h2 with h2 | h2
      · rw [h2]; exact h0
      · exact h2
    · rcases g2 with g2 | g2
      · rw [g2]; exact h0
      · exact g2
    · intro x hx
      have e : l = rd l 0 :: l.drop 1 := by
        have := rd_drop (l := l) (i := 0) (by omega) (by omega)
        simpa using this
      rw [e] at hx
      rcases List.mem_cons.1 hx with rfl | hx
      · exact ⟨h3, g3⟩
      · exact ⟨h4 x (by simpa using hx), g4 x (by simpa using hx)⟩
/-- Is a span in another one? -/
def inS (a : Bool) (l h : Int) (b : Bool) (m k : Int) : Bool := okS a l h && (okS b m k && (!a || (b && decide (m ≤ l ∧ h ≤ k))))
theorem bothOk_eq (a : Bool) (l h : Int) (b : Bool) (m k : Int) : impl_bothOk.f a l h b m k = some (okS a l h && okS b m k) := by
  unfold impl_bothOk.f
  rw [implOk_eq, implOk_eq]; simp only [Option.bind_some]
  cases okS a l h <;> simp
theorem implJoin_eq (k : Nat) (hk : 1001 < k) (a : Bool) (l h : Int) (b : Bool) (m q : Int) : impl_SpanJoin.f k a l h b m q = some (joinS a l h b m q) := by
  unfold impl_SpanJoin.f joinS
  rw [bothOk_eq]; simp only [Option.bind_some]
  by_cases c : (okS a l h && okS b m q) = true
  · rw [if_pos c, if_pos c]
    simp only [Bool.and_eq_true] at c
    obtain ⟨c1, c2⟩ := c
    have n1 := wordsL_length a l h c1
    have n2 := wordsL_length b m q c2
    rw [words_eq k (by omega) a l h c1, words_eq k (by omega) b m q c2]; simp only [Option.bind_some]
    rw [if_pos (by omega)]
    have mem : ∀ x, x ∈ wordsL a l h ++ wordsL b m q ↔ (a = true ∧ l ≤ x ∧ x ≤ h) ∨ (b = true ∧ m ≤ x ∧ x ≤ q) := by
      intro x; rw [List.mem_append, wordsL_mem _ _ _ _ c1, wordsL_mem _ _ _ _ c2]
    obtain ⟨s1, s2⟩ := spanned_eq k (wordsL a l h ++ wordsL b m q) (by rw [List.length_append]; omega) hk
    by_cases e : wordsL a l h ++ wordsL b m q = []
    · rw [s1 e]; simp only [Option.bind_some]
      have ea : a = false := by
        cases a
        · rfl
        · have := (mem l).2 (.inl ⟨rfl, by omega, by rw [ok_true] at c1; omega⟩)
          rw [e] at this; simp at this
      have eb : b = false := by
        cases b
        · rfl
        · have := (mem m).2 (.inr ⟨rfl, by omega, by rw [ok_true] at c2; omega⟩)
          rw [e] at this; simp at this
      subst ea eb
      rw [ok_false] at c2
      simp [c2]
    · obtain ⟨lo, hi, h1, h2, h3, h4⟩ := s2 e
      rw [h1]; simp only [Option.bind_some]
      rw [mem] at h2 h3
      have h5 : ∀ x, ((a = true ∧ l ≤ x ∧ x ≤ h) ∨ (b = true ∧ m ≤ x ∧ x ≤ q)) → lo ≤ x ∧ x ≤ hi := fun x hx => h4 x ((mem x).2 hx)
      clear s1 s2 h4 mem h1 e n1 n2
      cases a <;> cases b
      · simp at h2
      · rw [ok_true] at c2
        have := h5 m (by simp; omega)
        have := h5 q (by simp; omega)
        simp at h2 h3 ⊢
        omega
      · rw [ok_true] at c1
        have := h5 l (by simp; omega)
        have := h5 h (by simp; omega)
        simp at h2 h3 ⊢
        omega
      · rw [ok_true] at c1 c2
        have := h5 m (by simp; omega)
        have := h5 q (by simp; omega)
        have := h5 l (by simp; omega)
        have := h5 h (by simp; omega)
        simp at h2 h3 ⊢
        unfold mn mx
        refine ⟨?_, ?_⟩ <;> split <;> omega
  · rw [if_neg c, if_neg c]
theorem mn_le {a b : Int} : mn a b ≤ a ∧ mn a b ≤ b ∧ (mn a b = a ∨ mn a b = b) := by
  unfold mn
  split <;> omega
theorem mx_le {a b : Int} : a ≤ mx a b ∧ b ≤ mx a b ∧ (mx a b = a ∨ mx a b = b) := by
  unfold mx
  split <;> omega
theorem wide_l1 (k : Nat) (b : Bool) (m q : Int) (x : Bool) (y z : Int) (hq : q ≤ 15) : impl_SpanWide.l1 (k + 4) [15, 4, 0] 3 0 b m q x y z = some (x, y, upI q) := by
  have w0 : wrap64 1 = 1 := by decide +kernel
  have w1 : wrap64 2 = 2 := by decide +kernel
  have w2 : wrap64 3 = 3 := by decide +kernel
  have r0 : rd [15, 4, 0] 0 = 15 := by decide +kernel
  have r1 : rd [15, 4, 0] 1 = 4 := by decide +kernel
  have r2 : rd [15, 4, 0] 2 = 0 := by decide +kernel
  unfold upI
  by_cases c0 : (4 : Int) ≥ q
  · by_cases c1 : (0 : Int) ≥ q
    · simp [impl_SpanWide.l1, w0, w1, w2, r0, r1, r2, c0, c1, hq]
    · simp [impl_SpanWide.l1, w0, w1, w2, r0, r1, r2, c0, c1, hq]
  · simp [impl_SpanWide.l1, w0, w1, w2, r0, r1, r2, c0, hq, show ¬ q ≤ 0 by omega]
theorem wide_j2 (k : Nat) (a : Bool) (l h : Int) (b : Bool) (m q : Int) (x : Bool) (y z : Int) (hq : q ≤ 15) : impl_SpanWide.j2 (k + 5) a l h b m q x y z = some (x, y, if z > h then upI q else z) := by
  have e := wide_l1 k b m q x y z hq
  simp only [impl_SpanWide.j2, Option.bind_some]
  by_cases c : z > h
  · rw [if_pos c, if_pos c]
    exact e
  · rw [if_neg c, if_neg c]
theorem wide_l0 (k : Nat) (a : Bool) (l h : Int) (b : Bool) (m q : Int) (x : Bool) (y z : Int) (hm : -16 ≤ m) : impl_SpanWide.l0 (k + 4) [-16, -4, 0] 3 0 a l h b m q x y z = impl_SpanWide.j2 k a l h b m q x (downI m) z := by
  have w0 : wrap64 1 = 1 := by decide +kernel
  have w1 : wrap64 2 = 2 := by decide +kernel
  have w2 : wrap64 3 = 3 := by decide +kernel
  have r0 : rd [-16, -4, 0] 0 = -16 := by decide +kernel
  have r1 : rd [-16, -4, 0] 1 = -4 := by decide +kernel
  have r2 : rd [-16, -4, 0] 2 = 0 := by decide +kernel
  unfold downI
  by_cases c0 : (-4 : Int) ≤ m
  · by_cases c1 : (0 : Int) ≤ m
    · simp [impl_SpanWide.l0, w0, w1, w2, r0, r1, r2, c0, c1, hm]
    · simp [impl_SpanWide.l0, w0, w1, w2, r0, r1, r2, c0, c1, hm]
  · simp [impl_SpanWide.l0, w0, w1, w2, r0, r1, r2, c0, hm, show ¬ (0 : Int) ≤ m by omega]
theorem implWide_eq (k : Nat) (hk : 1001 < k) (a : Bool) (l h : Int) (b : Bool) (m q : Int) : impl_SpanWide.f k a l h b m q = some (wideS a l h b m q) := by
  obtain ⟨k, rfl⟩ : ∃ j, k = j + 11 := ⟨k - 11, by omega⟩
  unfold impl_SpanWide.f wideS
  rw [implJoin_eq _ hk, bothOk_eq]; simp only [Option.bind_some]
  by_cases c : (okS a l h && okS b m q) = true
  · rw [if_pos c, c]
    simp only [Bool.and_eq_true] at c
    obtain ⟨c1, c2⟩ := c
    cases a <;> cases b <;> simp [impl_SpanWide.j0]
    rw [show joinS true l h true m q = (true, mn l m, mx h q) by unfold joinS; simp [c1, c2]]
    rw [ok_true] at c1 c2
    have A := @mn_le l m
    have B := @mx_le h q
    simp only
    by_cases e : mn l m < l
    · rw [if_pos e, if_pos e, show mn l m = m by omega]
      have := wide_l0 (k + 6) true l h true m q true m (mx h q) (by omega)
      rw [this, show k + 6 = (k + 1) + 5 by omega, wide_j2 _ _ _ _ _ _ _ _ _ _ (by omega)]
      by_cases g : mx h q > h
      · rw [if_pos g, if_pos g, show mx h q = q by omega]
      · rw [if_neg g, if_neg g]
    · rw [if_neg e, if_neg e, show k + 10 = (k + 5) + 5 by omega, wide_j2 _ _ _ _ _ _ _ _ _ _ (by omega)]
      by_cases g : mx h q > h
      · rw [if_pos g, if_pos g, show mx h q = q by omega]
      · rw [if_neg g, if_neg g]
  · rw [if_neg c, show (okS a l h && okS b m q) = false by simpa using c]
    simp [impl_SpanWide.j0]
theorem impl_wrap_eq (a : Int) : impl_NumWrap.f a = some ((a + 16) % 32 - 16) := by
  obtain ⟨q, hq, h1, h2⟩ := tm32 a
  unfold impl_NumWrap.f
  have e : wrap64 (Int.tmod a 32 + 32) = Int.tmod a 32 + 32 := wrap_small _ (by omega) (by omega)
  rw [e]
  have e2 : Int.tmod (Int.tmod a 32 + 32) 32 = a % 32 := by rw [Int.tmod_eq_emod_of_nonneg (by omega)]; omega
  rw [e2]
  split
  · rw [wrap_small _ (by omega) (by omega)]; congr 1; omega
  · congr 1; omega
theorem implOf_eq (n : Int) : impl_SpanOf.f n = some (ofS n) := by
  unfold impl_SpanOf.f ofS
  rw [isWord_eq]; simp only [Option.bind_some]
  cases wordB n <;> simp
theorem join_tt {l h m q : Int} (h1 : okS true l h = true) (h2 : okS true m q = true) : joinS true l h true m q = (true, mn l m, mx h q) := by
  unfold joinS
  simp [h1, h2]
theorem join_tf {l h : Int} (h1 : okS true l h = true) : joinS true l h false 0 0 = (true, l, h) := by
  unfold joinS
  rw [if_pos (by rw [h1]; rfl)]
  rfl
theorem join_ft {m q : Int} (h2 : okS true m q = true) : joinS false 0 0 true m q = (true, m, q) := by
  unfold joinS
  rw [if_pos (by rw [h2]; rfl)]
  rfl
theorem join_ff : joinS false 0 0 false 0 0 = (false, 0, 0) := by decide
theorem ok_join {l h m q : Int} (h1 : okS true l h = true) (h2 : okS true m q = true) : okS true (mn l m) (mx h q) = true := by
  rw [ok_true] at *
  unfold mn mx
  refine ⟨?_, ?_, ?_, ?_, ?_⟩ <;> split <;> (try split) <;> omega
theorem in_tt {l h m q : Int} (h1 : okS true l h = true) (h2 : okS true m q = true) : inS true l h true m q = decide (m ≤ l ∧ h ≤ q) := by
  unfold inS
  simp [h1, h2]
theorem in_tf {l h : Int} : inS true l h false 0 0 = false := by
  unfold inS
  simp
theorem in_f {b : Bool} {m q : Int} (h2 : okS b m q = true) : inS false 0 0 b m q = true := by
  unfold inS
  simp [h2, show okS false 0 0 = true from rfl]
/-- A span that is valid: none, or one from l to h. -/
theorem ok_cases {a : Bool} {l h : Int} (ho : okS a l h = true) : (a = false ∧ l = 0 ∧ h = 0) ∨ a = true := by
  cases a
  · exact .inl ⟨rfl, ok_false.1 ho⟩
  · exact .inr rfl
/-- How many steps are still ahead. -/
def aheadI (a : Bool) (l h : Int) : Int := if a = true then (if -16 < l then 1 else 0) + (if -4 < l then 1 else 0) + (if 0 < l then 1 else 0) + (if h < 15 then 1 else 0) + (if h < 4 then 1 else 0) + (if h < 0 then 1 else 0) else 7
theorem wide_step {a : Bool} {l h : Int} {n : Int} (h1 : okS a l h = true) (h2 : -16 ≤ n ∧ n ≤ 15) :
    okS (wideS a l h true n n).1 (wideS a l h true n n).2.1 (wideS a l h true n n).2.2 = true ∧
    (wideS a l h true n n = (a, l, h) ∨ aheadI (wideS a l h true n n).1 (wideS a l h true n n).2.1 (wideS a l h true n n).2.2 + 1 ≤ aheadI a l h) := by
  have o2 : okS true n n = true := by rw [ok_true]; omega
  unfold wideS
  rcases ok_cases h1 with ⟨rfl, rfl, rfl⟩ | rfl
  · rw [if_neg (by simp), join_ft o2]
    refine ⟨o2, .inr ?_⟩
    simp only [aheadI, if_true]
    rw [if_neg (show ¬ (false = true) by simp)]
    by_cases c : 0 ≤ n
    · rw [if_neg (show ¬ n < 0 by omega)]
      split <;> split <;> split <;> split <;> split <;> omega
    · rw [if_neg (show ¬ 0 < n by omega)]
      split <;> split <;> split <;> split <;> split <;> omega
  · rw [if_pos (by rw [h1, o2]; rfl), join_tt h1 o2]
    simp only
    have A := @mn_le l n
    have B := @mx_le h n
    have h1' := ok_true.1 h1
    generalize hx : (if mn l n < l then downI (mn l n) else mn l n) = x
    generalize hy : (if mx h n > h then upI (mx h n) else mx h n) = y
    have X : x = l ∨ (x < l ∧ (x = 0 ∨ x = -4 ∨ x = -16)) := by
      rw [← hx]
      unfold downI
      split
      · split
        · omega
        · split <;> omega
      · omega
    have Y : y = h ∨ (y > h ∧ (y = 0 ∨ y = 4 ∨ y = 15)) := by
      rw [← hy]
      unfold upI
      split
      · split
        · omega
        · split <;> omega
      · omega
    refine ⟨?_, ?_⟩
    · rw [ok_true]; omega
    · by_cases e : x = l ∧ y = h
      · exact .inl (by rw [e.1, e.2])
      · refine .inr ?_
        simp only [aheadI, if_true]
        clear A B hx hy h1 o2
        have L : (if -16 < x then (1 : Int) else 0) + (if -4 < x then 1 else 0) + (if 0 < x then 1 else 0) + (if x < l then 1 else 0) ≤ (if -16 < l then (1 : Int) else 0) + (if -4 < l then 1 else 0) + (if 0 < l then 1 else 0) := by
          rcases X with rfl | ⟨g, rfl | rfl | rfl⟩
          · simp
          · have g' : (0 : Int) < l := g
            rw [if_pos (show (-16 : Int) < 0 by decide), if_pos (show (-4 : Int) < 0 by decide), if_neg (show ¬ (0 : Int) < 0 by decide), if_pos g', if_pos (show -16 < l by omega), if_pos (show -4 < l by omega)]
            decide
          · have g' : (-4 : Int) < l := g
            rw [if_pos (show (-16 : Int) < -4 by decide), if_neg (show ¬ (-4 : Int) < -4 by decide), if_neg (show ¬ (0 : Int) < -4 by decide), if_pos g', if_pos (show -16 < l by omega)]
            split <;> decide
          · have g' : (-16 : Int) < l := g
            rw [if_neg (show ¬ (-16 : Int) < -16 by decide), if_neg (show ¬ (-4 : Int) < -16 by decide), if_neg (show ¬ (0 : Int) < -16 by decide), if_pos g']
            split <;> split <;> decide
        have H : (if y < 15 then (1 : Int) else 0) + (if y < 4 then 1 else 0) + (if y < 0 then 1 else 0) + (if h < y then 1 else 0) ≤ (if h < 15 then (1 : Int) else 0) + (if h < 4 then 1 else 0) + (if h < 0 then 1 else 0) := by
          rcases Y with rfl | ⟨g, rfl | rfl | rfl⟩
          · simp
          · have g' : h < 0 := g
            rw [if_pos (show (0 : Int) < 15 by decide), if_pos (show (0 : Int) < 4 by decide), if_neg (show ¬ (0 : Int) < 0 by decide), if_pos g', if_pos (show h < 15 by omega), if_pos (show h < 4 by omega)]
            decide
          · have g' : h < 4 := g
            rw [if_pos (show (4 : Int) < 15 by decide), if_neg (show ¬ (4 : Int) < 4 by decide), if_neg (show ¬ (4 : Int) < 0 by decide), if_pos g', if_pos (show h < 15 by omega)]
            split <;> decide
          · have g' : h < 15 := g
            rw [if_neg (show ¬ (15 : Int) < 15 by decide), if_neg (show ¬ (15 : Int) < 4 by decide), if_neg (show ¬ (15 : Int) < 0 by decide), if_pos g']
            split <;> split <;> decide
        have S : (1 : Int) ≤ (if x < l then (1 : Int) else 0) + (if h < y then 1 else 0) := by
          rcases X with rfl | ⟨g, _⟩
          · rcases Y with rfl | ⟨g, _⟩
            · exact absurd ⟨rfl, rfl⟩ e
            · rw [if_pos (show h < y from g)]
              split <;> decide
          · rw [if_pos g]
            split <;> decide
        omega
theorem ahead_le {a : Bool} {l h : Int} (h1 : okS a l h = true) : aheadI a l h ≤ 7 ∧ 0 ≤ aheadI a l h := by
  unfold aheadI
  cases a
  · simp
  · simp only [if_true]
    refine ⟨?_, ?_⟩ <;> split <;> split <;> split <;> split <;> split <;> split <;> omega
theorem ends_loop (b0 : Bool) (b1 b2 : Int) (d : Nat) : ∀ (k : Nat) (n i : Int) (a : Bool) (l h : Int), 0 ≤ n → n + aheadI a l h ≤ 7 → 0 ≤ i → i ≤ 40 → 40 - i = d → d + 1010 < k → okS a l h = true →
    laws_FnWideEnds.l0 k n i b0 b1 b2 a l h = some true := by
  induction d with
  | zero =>
    intro k n i a l h h0 h1 h2 h3 h4 h5 h6
    obtain ⟨k, rfl⟩ : ∃ j, k = j + 1 := ⟨k - 1, by omega⟩
    have := ahead_le h6
    simp only [laws_FnWideEnds.l0]
    rw [if_neg (by omega)]
    congr 1
    rw [decide_eq_true_eq]
    omega
  | succ d ih =>
    intro k n i a l h h0 h1 h2 h3 h4 h5 h6
    obtain ⟨k, rfl⟩ : ∃ j, k = j + 1 := ⟨k - 1, by omega⟩
    have hah := ahead_le h6
    simp only [laws_FnWideEnds.l0]
    rw [if_pos (by omega), impl_wrap_eq]
    simp only [Option.bind_some]
    generalize hw : (wrap64 (wrap64 (wrap64 (i * 7) + wrap64 (wrap64 (Int.tdiv i 5) * 3)) + b1) + 16) % 32 - 16 = w
    have hw2 : -16 ≤ w ∧ w ≤ 15 := by omega
    rw [implOf_eq]
    simp only [Option.bind_some]
    rw [show ofS w = (true, w, w) by unfold ofS wordB; simp [hw2]]
    simp only
    rw [implWide_eq _ (by omega)]
    simp only [Option.bind_some]
    obtain ⟨s1, s2⟩ := wide_step h6 hw2
    have wi : wrap64 (i + 1) = i + 1 := wrap_small _ (by omega) (by omega)
    have wn : wrap64 (n + 1) = n + 1 := wrap_small _ (by omega) (by omega)
    rw [wi, wn]
    rcases s2 with e | e
    · rw [e]
      rw [if_neg (by simp)]
      exact ih k n (i + 1) a l h h0 h1 (by omega) (by omega) (by omega) (by omega) h6
    · have := ahead_le s1
      by_cases c : ((!(wideS a l h true w w).1 == a || (!(wideS a l h true w w).2.1 == l || !(wideS a l h true w w).2.2 == h)) = true)
      · rw [if_pos c]
        exact ih k (n + 1) (i + 1) _ _ _ (by omega) (by omega) (by omega) (by omega) (by omega) (by omega) s1
      · rw [if_neg c]
        exact ih k n (i + 1) _ _ _ (by omega) (by omega) (by omega) (by omega) (by omega) (by omega) s1
theorem FnWideEnds : laws_FnWideEnds.Pure := by
  intro l0 _ _ hb
  refine ⟨3000, ?_⟩
  unfold laws_FnWideEnds.f
  by_cases g0 : (l0.length : Int) > 1048576
  · rw [if_pos g0]
  rw [if_neg g0]
  obtain ⟨⟨a, l, h, b, m, q⟩, hn⟩ := draw_SpanWide 2999 l0 (fun x hx => byte_of_wf (hb x hx))
  rw [hn]; simp only [Option.bind_some]
  rw [implWide_eq _ (by omega), specWide_eq]; simp only [Option.bind_some]
  rw [if_neg (by simp), specOk_eq, specOk_eq]
  simp only [Option.bind_some]
  have other : ∀ X, X = wideS a l h b m q → laws_FnWideEnds.j0 3000 true a l h b m q X.1 X.2.1 X.2.2 = some true := by
    rintro X rfl
    simp [laws_FnWideEnds.j0, specWide_eq]
  by_cases o1 : okS a l h = true
  · rw [if_pos o1]
    by_cases o2 : okS b m q = true
    · rw [o2]
      simp only [laws_FnWideEnds.j0, Bool.not_true]
      rw [if_neg (by simp)]
      have := ahead_le o1
      exact ends_loop b m q 40 2999 0 0 a l h (by omega) (by omega) (by omega) (by omega) (by omega) (by omega) o1
    · rw [show okS b m q = false by simpa using o2]
      exact other _ rfl
  · rw [if_neg o1]
    exact other _ rfl

end Go.Proofs.Ytbgaoidihgpldab.Pure
