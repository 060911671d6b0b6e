/- What is proved: the pure statement of the law FnSpanOf: at every input that fits, the printed function answers true. No condition. -/
import Derived.Test.YtbgaoidihgpldabQx4
namespace Go.Proofs.Ytbgaoidihgpldab.Pure
open Go.RowKit Go.Proofs.Ytbgaoidihgpldab.Q Go.Proofs.YtbgaoidihgpldabW.PrintWords Go.Proofs.YtbgaoidihgpldabW.PrintLast

theorem tm32 (a : Int) : ∃ q, a = 32 * q + Int.tmod a 32 ∧ -32 < Int.tmod a 32 ∧ Int.tmod a 32 < 32 := ⟨Int.tdiv a 32, (Int.mul_tdiv_add_tmod a 32).symm, Int.lt_tmod_of_pos a (by decide), Int.tmod_lt_of_pos a (by decide)⟩
theorem wrap_small (a : Int) (h0 : -9223372036854775808 ≤ a) (h1 : a ≤ 9223372036854775807) : wrap64 a = a := by
  unfold wrap64; omega
theorem xor_nonneg (a b : Int) (ha : 0 ≤ a) (ha1 : a < 4611686018427387904) (hb : 0 ≤ b) (hb1 : b < 4611686018427387904) : 0 ≤ Go.bits .xor .i64 a b := by
  obtain ⟨x, rfl⟩ := Int.eq_ofNat_of_zero_le ha
  obtain ⟨y, rfl⟩ := Int.eq_ofNat_of_zero_le hb
  have hx : x < 2 ^ 62 := by omega
  have hy : y < 2 ^ 62 := by omega
  have hx' : x % 2 ^ 64 = x := Nat.mod_eq_of_lt (by omega)
  have hy' : y % 2 ^ 64 = y := Nat.mod_eq_of_lt (by omega)
  have hz : x ^^^ y < 2 ^ 62 := Nat.xor_lt_two_pow hx hy
  have key : Go.bits .xor .i64 (x : Int) (y : Int) = IntKind.i64.wrap (((BitVec.ofInt 64 (x : Int)) ^^^ (BitVec.ofInt 64 (y : Int))).toNat : Int) := rfl
  rw [key, BitVec.ofInt_natCast, BitVec.ofInt_natCast, BitVec.toNat_xor, BitVec.toNat_ofNat, BitVec.toNat_ofNat, hx', hy', IntKind.wrap_i64]
  omega
theorem byte_of_wf {x : Int} (h : (Lit.int .u8 x).wf = true) : 0 ≤ x ∧ x ≤ 255 := by
  simp [Lit.wf, IntKind.min, IntKind.max, IntKind.signed, IntKind.bits] at h
  omega
theorem rd_byte {l : List Int} (hb : ∀ x ∈ l, 0 ≤ x ∧ x ≤ 255) (i : Int) : 0 ≤ rd l i ∧ rd l i ≤ 255 := by
  unfold rd
  by_cases h : i.toNat < l.length
  · rw [List.getD_eq_getElem?_getD, List.getElem?_eq_getElem h]
    exact hb _ (List.getElem_mem h)
  · rw [List.getD_eq_getElem?_getD, List.getElem?_eq_none (by omega)]
    simp
theorem tmod_range (a n : Int) (ha : 0 ≤ a) (hn : 0 < n) : 0 ≤ Int.tmod a n ∧ Int.tmod a n < n := by
  rw [Int.tmod_eq_emod_of_nonneg ha]
  exact ⟨Int.emod_nonneg _ (by omega), Int.emod_lt_of_pos _ hn⟩
theorem tdiv_range (a n : Int) (ha : 0 ≤ a) (hn : 0 < n) : 0 ≤ Int.tdiv a n ∧ Int.tdiv a n ≤ a := by
  rw [Int.tdiv_eq_ediv_of_nonneg ha]
  exact ⟨Int.ediv_nonneg ha (by omega), Int.ediv_le_self _ ha⟩
/-- What a reader of a code gives: a number below n. -/
theorem pick_ok (k : Nat) (l : List Int) (p n : Int) (hb : ∀ x ∈ l, 0 ≤ x ∧ x ≤ 255) (hp : 0 ≤ p) (hp1 : p ≤ 100000000) :
    ∃ r, spec_l6Rd_pick.f (k + 1) l p n = some (r, p + 1) ∧ 0 ≤ r ∧ (1 ≤ n → r < n) := by
  have hw : wrap64 (p + 1) = p + 1 := wrap_small _ (by omega) (by omega)
  have hw2 : wrap64 (p + 1 - 1) = p := by rw [show p + 1 - 1 = p by omega]; exact wrap_small _ (by omega) (by omega)
  unfold spec_l6Rd_pick.f
  rw [hw]
  by_cases h1 : n < 1
  · rw [if_pos h1]
    simp only [spec_l6Rd_pick.j0, if_true]
    exact ⟨0, rfl, by omega, by omega⟩
  rw [if_neg h1]
  by_cases h2 : (l.length : Int) = 0
  · have e : ((l.length : Int) == 0) = true := by simpa using h2
    rw [e]
    simp only [spec_l6Rd_pick.j0, if_true]
    exact ⟨0, rfl, by omega, by omega⟩
  have e : ((l.length : Int) == 0) = false := by simpa using h2
  rw [e]
  simp only [spec_l6Rd_pick.j0, hw2]
  rw [if_neg (by simp)]
  by_cases h3 : p < (l.length : Int)
  · rw [if_pos h3, if_pos hp, if_neg (by omega)]
    have hr := rd_byte hb p
    rw [wrap_small _ (by omega) (by omega)]
    have := tmod_range (rd l p) n hr.1 (by omega)
    exact ⟨_, rfl, this.1, fun _ => this.2⟩
  · rw [if_neg h3, if_neg h2]
    have hL : (0 : Int) < (l.length : Int) := by omega
    have e7 : wrap64 (p * 7) = p * 7 := wrap_small _ (by omega) (by omega)
    have e73 : wrap64 (p * 7 + 3) = p * 7 + 3 := wrap_small _ (by omega) (by omega)
    rw [e7, e73]
    have m1 := tmod_range p l.length hp hL
    have m2 := tmod_range (p * 7 + 3) l.length (by omega) hL
    rw [if_pos m1.1, if_pos m1.2, if_pos m2.1, if_pos m2.2, if_neg (by omega)]
    have r1 := rd_byte hb (Int.tmod p l.length)
    have r2 := rd_byte hb (Int.tmod (p * 7 + 3) l.length)
    have d1 := tdiv_range p l.length hp hL
    generalize rd l (Int.tmod p l.length) = u at *
    generalize rd l (Int.tmod (p * 7 + 3) l.length) = v at *
    generalize Int.tdiv p l.length = d at *
    have w1 : wrap64 u = u := wrap_small _ (by omega) (by omega)
    have w2 : wrap64 v = v := wrap_small _ (by omega) (by omega)
    have w3 : wrap64 (u * 131) = u * 131 := wrap_small _ (by omega) (by omega)
    have w4 : wrap64 (v * 1117) = v * 1117 := wrap_small _ (by omega) (by omega)
    have w5 : wrap64 (u * 131 + v * 1117) = u * 131 + v * 1117 := wrap_small _ (by omega) (by omega)
    have w6 : wrap64 (p * 29) = p * 29 := wrap_small _ (by omega) (by omega)
    have w7 : wrap64 (u * 131 + v * 1117 + p * 29) = u * 131 + v * 1117 + p * 29 := wrap_small _ (by omega) (by omega)
    have w8 : wrap64 d = d := wrap_small _ (by omega) (by omega)
    have w9 : wrap64 (d * 53) = d * 53 := wrap_small _ (by omega) (by omega)
    have w10 : wrap64 (u * 131 + v * 1117 + p * 29 + d * 53) = u * 131 + v * 1117 + p * 29 + d * 53 := wrap_small _ (by omega) (by omega)
    simp only [w1, w2, w3, w4, w5, w6, w7, w8, w9, w10]
    have hx0 : 0 ≤ u * 131 + v * 1117 + p * 29 + d * 53 := by omega
    have hx1 : u * 131 + v * 1117 + p * 29 + d * 53 < 1000000000000 := by omega
    generalize u * 131 + v * 1117 + p * 29 + d * 53 = x at *
    have t1 := tdiv_range x 64 hx0 (by decide)
    rw [wrap_small (Int.tdiv x 64) (by omega) (by omega)]
    have x1 := xor_nonneg x (Int.tdiv x 64) (by omega) (by omega) (by omega) (by omega)
    have := tmod_range (Go.bits .xor .i64 x (Int.tdiv x 64)) n x1 (by omega)
    exact ⟨_, rfl, this.1, fun _ => this.2⟩
theorem open_ok (l : List Int) (hb : ∀ x ∈ l, 0 ≤ x ∧ x ≤ 255) : ∃ l', spec_l6Open.f l = some (l', 0) ∧ ∀ x ∈ l', 0 ≤ x ∧ x ≤ 255 := by
  unfold spec_l6Open.f
  by_cases h : (l.length : Int) > 2000
  · rw [if_pos h, if_pos (by omega)]
    exact ⟨_, rfl, fun x hx => hb x (List.mem_of_mem_take hx)⟩
  · rw [if_neg h]
    exact ⟨l, rfl, hb⟩
/-- Is a span valid? -/
def okS (a : Bool) (l h : Int) : Bool := if a = true then decide (-16 ≤ l ∧ l ≤ 15 ∧ -16 ≤ h ∧ h ≤ 15 ∧ l ≤ h) else (l == 0 && h == 0)
/-- A word? -/
def wordB (n : Int) : Bool := decide (-16 ≤ n ∧ n ≤ 15)
theorem some_if_true {p : Prop} [Decidable p] (b : Bool) : (if p then (some b) else (some false)) = some (decide p && b) := by
  by_cases h : p <;> simp [h]
theorem isWord_eq (n : Int) : impl_isWord.f n = some (wordB n) := by
  unfold impl_isWord.f wordB
  by_cases h1 : n ≥ -16
  · rw [if_pos h1]; congr 1; rw [decide_eq_decide]; omega
  · rw [if_neg h1]; congr 1; symm; rw [decide_eq_false_iff_not]; omega
theorem implOk_eq (a : Bool) (l h : Int) : impl_SpanOk.f a l h = some (okS a l h) := by
  unfold impl_SpanOk.f okS
  cases a
  · simp
  · simp only [if_true, isWord_eq, Option.bind_some, wordB]
    by_cases h1 : -16 ≤ l ∧ l ≤ 15 <;> by_cases h2 : -16 ≤ h ∧ h ≤ 15 <;> simp [h1, h2] <;> omega
/-- Does a span have a number? -/
def hasS (a : Bool) (l h n : Int) : Bool := okS a l h && (a && decide (l ≤ n ∧ n ≤ h))
theorem implHas_eq (a : Bool) (l h n : Int) : impl_SpanHas.f a l h n = some (hasS a l h n) := by
  unfold impl_SpanHas.f hasS
  rw [implOk_eq]; simp only [Option.bind_some]
  cases okS a l h <;> cases a <;> simp
  by_cases h1 : l ≤ n <;> simp [h1]
theorem l6In_eq (n lo hi : Int) : spec_l6In.f n lo hi = some (decide (lo ≤ n ∧ n ≤ hi)) := by
  unfold spec_l6In.f
  by_cases h1 : n ≥ lo
  · rw [if_pos h1]; congr 1; rw [decide_eq_decide]; omega
  · rw [if_neg h1]; congr 1; symm; rw [decide_eq_false_iff_not]; omega
theorem l1Word_eq (n : Int) : spec_l1Word.f n = some (wordB n) := by
  unfold spec_l1Word.f
  rw [l6In_eq]; rfl
theorem specOk_eq (a : Bool) (l h : Int) : spec_SpanOk.f a l h = some (okS a l h) := by
  unfold spec_SpanOk.f okS
  cases a
  · simp
  · simp only [if_true, l1Word_eq, Option.bind_some, wordB]
    by_cases h1 : -16 ≤ l ∧ l ≤ 15 <;> by_cases h2 : -16 ≤ h ∧ h ≤ 15 <;> simp [h1, h2] <;> omega
theorem l1Of_eq (l h : Int) : spec_l1Of.f l h = some (if l ≤ h then (true, l, h) else (false, 0, 0)) := by
  unfold spec_l1Of.f
  by_cases c : l ≤ h
  · rw [if_neg (by omega), if_pos c]
  · rw [if_pos (by omega), if_neg c]
/-- The span of a word. -/
def ofS (n : Int) : Bool × Int × Int := if wordB n = true then (true, n, n) else (false, 0, 0)
theorem specOf_eq (n : Int) : spec_SpanOf.f n = some (ofS n) := by
  unfold spec_SpanOf.f ofS
  rw [l1Word_eq]; simp only [Option.bind_some]
  cases wordB n <;> simp [l1Of_eq]
theorem implOf_eq (n : Int) : impl_SpanOf.f n = some (ofS n) := by
  unfold impl_SpanOf.f ofS
  rw [isWord_eq]; simp only [Option.bind_some]
  cases wordB n <;> simp
theorem draw_SpanOf (k : Nat) (l : List Int) (hb : ∀ x ∈ l, 0 ≤ x ∧ x ≤ 255) : ∃ n, spec_DrawSpanOf.f (k + 1) l = some n := by
  unfold spec_DrawSpanOf.f
  obtain ⟨l', h, hb'⟩ := open_ok l hb
  rw [h]; simp only [Option.bind_some]
  obtain ⟨r1, h1, q1, s1⟩ := pick_ok k l' 0 40 hb' (by omega) (by omega)
  rw [h1]; simp only [Option.bind_some]
  exact ⟨_, rfl⟩
theorem has_of (n m : Int) : hasS (ofS n).1 (ofS n).2.1 (ofS n).2.2 m = decide (m = n ∧ -16 ≤ m ∧ m ≤ 15) := by
  unfold hasS ofS wordB okS
  by_cases h : -16 ≤ n ∧ n ≤ 15
  · simp [h]
    by_cases e : m = n
    · simp [e]; omega
    · simp [e]; omega
  · simp [h]
    omega
theorem ok_of (n : Int) : okS (ofS n).1 (ofS n).2.1 (ofS n).2.2 = true := by
  unfold ofS wordB okS
  by_cases h : -16 ≤ n ∧ n ≤ 15 <;> simp [h]
theorem loop_of (n : Int) (d : Nat) : ∀ (k : Nat) (m : Int), -18 ≤ m → m ≤ 18 → 18 - m = d → d < k →
    laws_FnSpanOf.l0 k n m (ofS n).1 (ofS n).2.1 (ofS n).2.2 = some true := by
  induction d with
  | zero =>
    intro k m h0 h1 hd hk
    obtain ⟨k, rfl⟩ : ∃ j, k = j + 1 := ⟨k - 1, by omega⟩
    simp only [laws_FnSpanOf.l0]
    rw [if_neg (by omega), implOk_eq, ok_of]; rfl
  | succ d ih =>
    intro k m h0 h1 hd hk
    obtain ⟨k, rfl⟩ : ∃ j, k = j + 1 := ⟨k - 1, by omega⟩
    have hw : wrap64 (m + 1) = m + 1 := wrap_small _ (by omega) (by omega)
    have hn := ih k (m + 1) (by omega) (by omega) (by omega) (by omega)
    simp only [laws_FnSpanOf.l0, hw, hn]
    rw [if_pos (by omega), implHas_eq, has_of]; simp only [Option.bind_some]
    by_cases e : m = n
    · rw [if_pos e]
      by_cases h2 : m ≥ -16
      · rw [if_pos h2]
        have : decide (m = n ∧ -16 ≤ m ∧ m ≤ 15) = decide (m ≤ 15) := by rw [decide_eq_decide]; omega
        rw [this]; simp
      · rw [if_neg h2]
        have : decide (m = n ∧ -16 ≤ m ∧ m ≤ 15) = false := by rw [decide_eq_false_iff_not]; omega
        rw [this]; simp
    · rw [if_neg e]
      have : decide (m = n ∧ -16 ≤ m ∧ m ≤ 15) = false := by rw [decide_eq_false_iff_not]; omega
      rw [this]; simp
theorem FnSpanOf : laws_FnSpanOf.Pure := by
  intro l _ _ hb
  refine ⟨100, ?_⟩
  unfold laws_FnSpanOf.f
  by_cases h : (l.length : Int) > 1048576
  · rw [if_pos h]
  rw [if_neg h]
  obtain ⟨n, hn⟩ := draw_SpanOf 99 l (fun x hx => byte_of_wf (hb x hx))
  rw [hn]; simp only [Option.bind_some]
  rw [implOf_eq, specOf_eq]; simp only [Option.bind_some]
  rw [if_neg (by simp)]
  exact loop_of n 36 _ _ (by omega) (by omega) (by omega) (by omega)

end Go.Proofs.Ytbgaoidihgpldab.Pure
