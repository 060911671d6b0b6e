/- What is proved: the pure statement of the law FnWrapWord: at every input that fits, the printed function answers true. No condition. -/
import Derived.Test.YtbgaoidihgpldaaQx6
namespace Go.Proofs.Ytbgaoidihgpldaa.Pure
open Go.RowKit Go.Proofs.Ytbgaoidihgpldaa.Q Go.Proofs.YtbgaoidihgpldaaW.PrintWords Go.Proofs.YtbgaoidihgpldaaW.PrintLast

theorem tm32 (a : Int) : ∃ q, a = 32 * q + Int.tmod a 32 ∧ -32 < Int.tmod a 32 ∧ Int.tmod a 32 < 32 := ⟨Int.tdiv a 32, (Int.mul_tdiv_add_tmod a 32).symm, Int.lt_tmod_of_pos a (by decide), Int.tmod_lt_of_pos a (by decide)⟩
theorem wrap_small (a : Int) (h0 : -9223372036854775808 ≤ a) (h1 : a ≤ 9223372036854775807) : wrap64 a = a := by
  unfold wrap64; omega
theorem spec_wrap_eq (a : Int) : spec_NumWrap.f a = some ((a + 16) % 32 - 16) := by
  obtain ⟨q, hq, h1, h2⟩ := tm32 a
  unfold spec_NumWrap.f spec_l1Many.f
  simp only [Option.bind_some]
  rw [if_neg (by omega)]
  split
  · rw [wrap_small _ (by omega) (by omega)]; congr 1; omega
  · split
    · rw [wrap_small _ (by omega) (by omega)]; congr 1; omega
    · congr 1; omega
theorem impl_wrap_eq (a : Int) : impl_NumWrap.f a = some ((a + 16) % 32 - 16) := by
  obtain ⟨q, hq, h1, h2⟩ := tm32 a
  unfold impl_NumWrap.f
  have e : wrap64 (Int.tmod a 32 + 32) = Int.tmod a 32 + 32 := wrap_small _ (by omega) (by omega)
  rw [e]
  have e2 : Int.tmod (Int.tmod a 32 + 32) 32 = a % 32 := by rw [Int.tmod_eq_emod_of_nonneg (by omega)]; omega
  rw [e2]
  split
  · rw [wrap_small _ (by omega) (by omega)]; congr 1; omega
  · congr 1; omega
theorem xor_nonneg (a b : Int) (ha : 0 ≤ a) (ha1 : a < 4611686018427387904) (hb : 0 ≤ b) (hb1 : b < 4611686018427387904) : 0 ≤ Go.bits .xor .i64 a b := by
  obtain ⟨x, rfl⟩ := Int.eq_ofNat_of_zero_le ha
  obtain ⟨y, rfl⟩ := Int.eq_ofNat_of_zero_le hb
  have hx : x < 2 ^ 62 := by omega
  have hy : y < 2 ^ 62 := by omega
  have hx' : x % 2 ^ 64 = x := Nat.mod_eq_of_lt (by omega)
  have hy' : y % 2 ^ 64 = y := Nat.mod_eq_of_lt (by omega)
  have hz : x ^^^ y < 2 ^ 62 := Nat.xor_lt_two_pow hx hy
  have key : Go.bits .xor .i64 (x : Int) (y : Int) = IntKind.i64.wrap (((BitVec.ofInt 64 (x : Int)) ^^^ (BitVec.ofInt 64 (y : Int))).toNat : Int) := rfl
  rw [key, BitVec.ofInt_natCast, BitVec.ofInt_natCast, BitVec.toNat_xor, BitVec.toNat_ofNat, BitVec.toNat_ofNat, hx', hy', IntKind.wrap_i64]
  omega
theorem byte_of_wf {x : Int} (h : (Lit.int .u8 x).wf = true) : 0 ≤ x ∧ x ≤ 255 := by
  simp [Lit.wf, IntKind.min, IntKind.max, IntKind.signed, IntKind.bits] at h
  omega
theorem rd_byte {l : List Int} (hb : ∀ x ∈ l, 0 ≤ x ∧ x ≤ 255) (i : Int) : 0 ≤ rd l i ∧ rd l i ≤ 255 := by
  unfold rd
  by_cases h : i.toNat < l.length
  · rw [List.getD_eq_getElem?_getD, List.getElem?_eq_getElem h]
    exact hb _ (List.getElem_mem h)
  · rw [List.getD_eq_getElem?_getD, List.getElem?_eq_none (by omega)]
    simp
theorem tmod_range (a n : Int) (ha : 0 ≤ a) (hn : 0 < n) : 0 ≤ Int.tmod a n ∧ Int.tmod a n < n := by
  rw [Int.tmod_eq_emod_of_nonneg ha]
  exact ⟨Int.emod_nonneg _ (by omega), Int.emod_lt_of_pos _ hn⟩
theorem tdiv_range (a n : Int) (ha : 0 ≤ a) (hn : 0 < n) : 0 ≤ Int.tdiv a n ∧ Int.tdiv a n ≤ a := by
  rw [Int.tdiv_eq_ediv_of_nonneg ha]
  exact ⟨Int.ediv_nonneg ha (by omega), Int.ediv_le_self _ ha⟩
/-- What a reader of a code gives: a number below n. -/
theorem pick_ok (k : Nat) (l : List Int) (p n : Int) (hb : ∀ x ∈ l, 0 ≤ x ∧ x ≤ 255) (hp : 0 ≤ p) (hp1 : p ≤ 100000000) :
    ∃ r, spec_l6Rd_pick.f (k + 1) l p n = some (r, p + 1) ∧ 0 ≤ r ∧ (1 ≤ n → r < n) := by
  have hw : wrap64 (p + 1) = p + 1 := wrap_small _ (by omega) (by omega)
  have hw2 : wrap64 (p + 1 - 1) = p := by rw [show p + 1 - 1 = p by omega]; exact wrap_small _ (by omega) (by omega)
  unfold spec_l6Rd_pick.f
  rw [hw]
  by_cases h1 : n < 1
  · rw [if_pos h1]
    simp only [spec_l6Rd_pick.j0, if_true]
    exact ⟨0, rfl, by omega, by omega⟩
  rw [if_neg h1]
  by_cases h2 : (l.length : Int) = 0
  · have e : ((l.length : Int) == 0) = true := by simpa using h2
    rw [e]
    simp only [spec_l6Rd_pick.j0, if_true]
    exact ⟨0, rfl, by omega, by omega⟩
  have e : ((l.length : Int) == 0) = false := by simpa using h2
  rw [e]
  simp only [spec_l6Rd_pick.j0, hw2]
  rw [if_neg (by simp)]
  by_cases h3 : p < (l.length : Int)
  · rw [if_pos h3, if_pos hp, if_neg (by omega)]
    have hr := rd_byte hb p
    rw [wrap_small _ (by omega) (by omega)]
    have := tmod_range (rd l p) n hr.1 (by omega)
    exact ⟨_, rfl, this.1, fun _ => this.2⟩
  · rw [if_neg h3, if_neg h2]
    have hL : (0 : Int) < (l.length : Int) := by omega
    have e7 : wrap64 (p * 7) = p * 7 := wrap_small _ (by omega) (by omega)
    have e73 : wrap64 (p * 7 + 3) = p * 7 + 3 := wrap_small _ (by omega) (by omega)
    rw [e7, e73]
    have m1 := tmod_range p l.length hp hL
    have m2 := tmod_range (p * 7 + 3) l.length (by omega) hL
    rw [if_pos m1.1, if_pos m1.2, if_pos m2.1, if_pos m2.2, if_neg (by omega)]
    have r1 := rd_byte hb (Int.tmod p l.length)
    have r2 := rd_byte hb (Int.tmod (p * 7 + 3) l.length)
    have d1 := tdiv_range p l.length hp hL
    generalize rd l (Int.tmod p l.length) = u at *
    generalize rd l (Int.tmod (p * 7 + 3) l.length) = v at *
    generalize Int.tdiv p l.length = d at *
    have w1 : wrap64 u = u := wrap_small _ (by omega) (by omega)
    have w2 : wrap64 v = v := wrap_small _ (by omega) (by omega)
    have w3 : wrap64 (u * 131) = u * 131 := wrap_small _ (by omega) (by omega)
    have w4 : wrap64 (v * 1117) = v * 1117 := wrap_small _ (by omega) (by omega)
    have w5 : wrap64 (u * 131 + v * 1117) = u * 131 + v * 1117 := wrap_small _ (by omega) (by omega)
    have w6 : wrap64 (p * 29) = p * 29 := wrap_small _ (by omega) (by omega)
    have w7 : wrap64 (u * 131 + v * 1117 + p * 29) = u * 131 + v * 1117 + p * 29 := wrap_small _ (by omega) (by omega)
    have w8 : wrap64 d = d := wrap_small _ (by omega) (by omega)
    have w9 : wrap64 (d * 53) = d * 53 := wrap_small _ (by omega) (by omega)
    have w10 : wrap64 (u * 131 + v * 1117 + p * 29 + d * 53) = u * 131 + v * 1117 + p * 29 + d * 53 := wrap_small _ (by omega) (by omega)
    simp only [w1, w2, w3, w4, w5, w6, w7, w8, w9, w10]
    have hx0 : 0 ≤ u * 131 + v * 1117 + p * 29 + d * 53 := by omega
    have hx1 : u * 131 + v * 1117 + p * 29 + d * 53 < 1000000000000 := by omega
    generalize u * 131 + v * 1117 + p * 29 + d * 53 = x at *
    have t1 := tdiv_range x 64 hx0 (by decide)
    rw [wrap_small (Int.tdiv x 64) (by omega) (by omega)]
    have x1 := xor_nonneg x (Int.tdiv x 64) (by omega) (by omega) (by omega) (by omega)
    have := tmod_range (Go.bits .xor .i64 x (Int.tdiv x 64)) n x1 (by omega)
    exact ⟨_, rfl, this.1, fun _ => this.2⟩
theorem open_ok (l : List Int) (hb : ∀ x ∈ l, 0 ≤ x ∧ x ≤ 255) : ∃ l', spec_l6Open.f l = some (l', 0) ∧ ∀ x ∈ l', 0 ≤ x ∧ x ≤ 255 := by
  unfold spec_l6Open.f
  by_cases h : (l.length : Int) > 2000
  · rw [if_pos h, if_pos (by omega)]
    exact ⟨_, rfl, fun x hx => hb x (List.mem_of_mem_take hx)⟩
  · rw [if_neg h]
    exact ⟨l, rfl, hb⟩
theorem draw_NumWrap (k : Nat) (l : List Int) (hb : ∀ x ∈ l, 0 ≤ x ∧ x ≤ 255) : ∃ n, spec_DrawNumWrap.f (k + 1) l = some n := by
  unfold spec_DrawNumWrap.f
  obtain ⟨l', h, hb'⟩ := open_ok l hb
  rw [h]; simp only [Option.bind_some]
  obtain ⟨r1, h1, q1, s1⟩ := pick_ok k l' 0 4 hb' (by omega) (by omega)
  rw [h1]; simp only [Option.bind_some]
  by_cases c : r1 = 0
  · rw [if_pos c]
    obtain ⟨r2, h2, q2, s2⟩ := pick_ok k l' (0 + 1) 64 hb' (by omega) (by omega)
    rw [h2]; simp only [Option.bind_some]
    obtain ⟨r3, h3, q3, s3⟩ := pick_ok k l' (0 + 1 + 1) 64 hb' (by omega) (by omega)
    rw [h3]; simp only [Option.bind_some]
    obtain ⟨r4, h4, q4, s4⟩ := pick_ok k l' (0 + 1 + 1 + 1) 6 hb' (by omega) (by omega)
    rw [h4]; simp only [Option.bind_some]
    rw [if_pos q4, if_pos (by have := s4 (by omega); simp; omega)]
    exact ⟨_, rfl⟩
  · rw [if_neg c]
    obtain ⟨r2, h2, q2, s2⟩ := pick_ok k l' (0 + 1) 256 hb' (by omega) (by omega)
    rw [h2]; simp only [Option.bind_some]
    obtain ⟨r3, h3, q3, s3⟩ := pick_ok k l' (0 + 1 + 1) 3 hb' (by omega) (by omega)
    rw [h3]; simp only [Option.bind_some]
    obtain ⟨r4, h4, q4, s4⟩ := pick_ok k l' (0 + 1 + 1 + 1) 7 hb' (by omega) (by omega)
    rw [h4]; simp only [Option.bind_some]
    exact ⟨_, rfl⟩
theorem FnWrapWord : laws_FnWrapWord.Pure := by
  intro l _ _ hb
  refine ⟨1, ?_⟩
  unfold laws_FnWrapWord.f
  by_cases h : (l.length : Int) > 1048576
  · rw [if_pos h]
  rw [if_neg h]
  obtain ⟨n, hn⟩ := draw_NumWrap 0 l (fun x hx => byte_of_wf (hb x hx))
  rw [hn]; simp only [Option.bind_some]
  rw [impl_wrap_eq, spec_wrap_eq]; simp only [Option.bind_some, if_true]
  rw [if_pos (by omega), if_pos (by omega)]
  obtain ⟨q, hq, h1, h2⟩ := tm32 n
  have e : wrap64 (Int.tmod n 32 - ((n + 16) % 32 - 16)) = Int.tmod n 32 - ((n + 16) % 32 - 16) := wrap_small _ (by omega) (by omega)
  rw [e]
  have e2 : Int.tmod (Int.tmod n 32 - ((n + 16) % 32 - 16)) 32 = 0 := by
    have : Int.tmod n 32 - ((n + 16) % 32 - 16) = 0 ∨ Int.tmod n 32 - ((n + 16) % 32 - 16) = 32 ∨ Int.tmod n 32 - ((n + 16) % 32 - 16) = -32 := by omega
    rcases this with h | h | h <;> rw [h] <;> rfl
  rw [if_pos e2, impl_wrap_eq]; simp only [Option.bind_some]
  congr 1
  rw [beq_iff_eq]; omega

end Go.Proofs.Ytbgaoidihgpldaa.Pure
