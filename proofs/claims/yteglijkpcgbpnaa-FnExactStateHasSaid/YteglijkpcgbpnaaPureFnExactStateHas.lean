/- What is proved: the pure statement of the law FnExactStateHas: at every input that fits, the printed function answers true. No condition. -/
import Derived.Test.YteglijkpcgbpnaaQx12
namespace Go.Proofs.Yteglijkpcgbpnaa.Pure
open Go.RowKit Go.Proofs.Yteglijkpcgbpnaa.Q Go.Proofs.YteglijkpcgbpnaaW.PrintWords Go.Proofs.YteglijkpcgbpnaaW.PrintLast

theorem tm32 (a : Int) : ∃ q, a = 32 * q + Int.tmod a 32 ∧ -32 < Int.tmod a 32 ∧ Int.tmod a 32 < 32 := ⟨Int.tdiv a 32, (Int.mul_tdiv_add_tmod a 32).symm, Int.lt_tmod_of_pos a (by decide), Int.tmod_lt_of_pos a (by decide)⟩
theorem wrap_small (a : Int) (h0 : -9223372036854775808 ≤ a) (h1 : a ≤ 9223372036854775807) : wrap64 a = a := by
  unfold wrap64; omega
theorem getD_get {α : Type} {l : List α} {z : α} {i : Int} (h0 : 0 ≤ i) (h : i < l.length) : l.getD i.toNat z = l[i.toNat]'(by omega) := by
  rw [List.getD_eq_getElem?_getD, List.getElem?_eq_getElem (by omega)]; rfl
theorem getD_drop {α : Type} {l : List α} (z : α) {i : Int} (h0 : 0 ≤ i) (h : i < l.length) : l.drop i.toNat = l.getD i.toNat z :: l.drop (i + 1).toNat := by
  rw [getD_get h0 h, show (i + 1).toNat = i.toNat + 1 by omega]
  exact List.drop_eq_getElem_cons (by omega)
theorem wrap_i (a : Int) (h0 : -9223372036854775808 ≤ a) (h1 : a ≤ 9223372036854775807) : wrap64 a = a := by
  unfold wrap64; omega
theorem take_set_at {α : Type} (l : List α) (n : Nat) (v : α) (h : n < l.length) : (l.set n v).take (n + 1) = l.take n ++ [v] := by
  rw [List.set_eq_take_append_cons_drop, if_pos h, List.take_append, List.take_of_length_le (by rw [List.length_take]; omega), List.length_take, Nat.min_eq_left (Nat.le_of_lt h), show n + 1 - n = 1 by omega]
  rfl
/-- A row filled cell by cell. -/
theorem fill_loop {α β : Type} (z : α) (g : α → β) (F : Nat → List α → List β → Int → Option (List β))
    (hF : ∀ k x0 x3 x4, F (k + 1) x0 x3 x4 = if x4 < (x0.length : Int) then (if 0 ≤ x4 then (if x4 < (x3.length : Int) then F k x0 (x3.set (x4 : Int).toNat (g (x0.getD (x4 : Int).toNat z))) (wrap64 (x4 + 1)) else none) else none) else some x3)
    (d : Nat) : ∀ (k : Nat) (x0 : List α) (x3 : List β) (x4 : Int), 0 ≤ x4 → x4 ≤ x0.length → x3.length = x0.length → (x0.length : Int) - x4 = d → d < k → x0.length ≤ 9000000000000000000 →
      F k x0 x3 x4 = some (x3.take x4.toNat ++ (x0.drop x4.toNat).map g) := by
  induction d with
  | zero =>
    intro k x0 x3 x4 h1 h2 h3 h4 h5 h6
    obtain ⟨k, rfl⟩ : ∃ j, k = j + 1 := ⟨k - 1, by omega⟩
    rw [hF, if_neg (by omega), List.drop_eq_nil_of_le (by omega), List.take_of_length_le (by omega)]
    simp
  | succ d ih =>
    intro k x0 x3 x4 h1 h2 h3 h4 h5 h6
    obtain ⟨k, rfl⟩ : ∃ j, k = j + 1 := ⟨k - 1, by omega⟩
    rw [hF, if_pos (by omega), if_pos h1, if_pos (by omega), wrap_i _ (by omega) (by omega), ih k x0 _ (x4 + 1) (by omega) (by omega) (by rw [List.length_set]; omega) (by omega) (by omega) h6]
    rw [show (x4 + 1).toNat = x4.toNat + 1 by omega, take_set_at _ _ _ (by omega), getD_drop z (l := x0) (i := x4) h1 (by omega), show (x4 + 1).toNat = x4.toNat + 1 by omega]
    simp
theorem fill_all {α β : Type} (z : α) (g : α → β) (F : Nat → List α → List β → Int → Option (List β))
    (hF : ∀ k x0 x3 x4, F (k + 1) x0 x3 x4 = if x4 < (x0.length : Int) then (if 0 ≤ x4 then (if x4 < (x3.length : Int) then F k x0 (x3.set (x4 : Int).toNat (g (x0.getD (x4 : Int).toNat z))) (wrap64 (x4 + 1)) else none) else none) else some x3)
    (k : Nat) (l : List α) (b : β) (hk : l.length < k) (hl : l.length ≤ 9000000000000000000) : F k l (List.replicate l.length b) 0 = some (l.map g) := by
  rw [fill_loop z g F hF l.length k l _ 0 (by omega) (by omega) (by simp) (by omega) hk hl]
  simp
/-- Two rows compared cell by cell. -/
theorem same_loop {α : Type} (z : α) (e : α → α → Option Bool) (he : ∀ x, e x x = some true) (E : Nat → List α → List α → Int → Option Bool)
    (hE : ∀ k x0 x1 x5, E (k + 1) x0 x1 x5 = if x5 < (x0.length : Int) then (if 0 ≤ x5 then (if x5 < (x1.length : Int) then ((e (x0.getD (x5 : Int).toNat z) (x1.getD (x5 : Int).toNat z)).bind fun t => if t = true then E k x0 x1 (wrap64 (x5 + 1)) else some false) else none) else none) else some true)
    (d : Nat) : ∀ (k : Nat) (l : List α) (i : Int), 0 ≤ i → i ≤ l.length → (l.length : Int) - i = d → d < k → l.length ≤ 9000000000000000000 → E k l l i = some true := by
  induction d with
  | zero =>
    intro k l i h1 h2 h4 h5 h6
    obtain ⟨k, rfl⟩ : ∃ j, k = j + 1 := ⟨k - 1, by omega⟩
    rw [hE, if_neg (by omega)]
  | succ d ih =>
    intro k l i h1 h2 h4 h5 h6
    obtain ⟨k, rfl⟩ : ∃ j, k = j + 1 := ⟨k - 1, by omega⟩
    rw [hE, if_pos (by omega), if_pos h1, if_pos (by omega), he, wrap_i _ (by omega) (by omega), ih k l (i + 1) (by omega) (by omega) (by omega) (by omega) h6]
    rfl
/-- Is there one such? -/
theorem has_loop {α : Type} (z : α) (p : α → Bool) (I : Nat → List α → Int → Int → Option Int)
    (hI : ∀ k x0 x7 x8, I (k + 1) x0 x7 x8 = if x8 < x7 then (if 0 ≤ x8 then (if x8 < (x0.length : Int) then (if p (x0.getD (x8 : Int).toNat z) = true then some x8 else I k x0 x7 (wrap64 (x8 + 1))) else none) else none) else some (-1))
    (d : Nat) : ∀ (k : Nat) (l : List α) (i : Int), 0 ≤ i → i ≤ l.length → (l.length : Int) - i = d → d < k → l.length ≤ 9000000000000000000 →
      ((I k l (l.length : Int) i).bind fun t => some (decide (t ≥ 0))) = some ((l.drop i.toNat).any p) := by
  induction d with
  | zero =>
    intro k l i h1 h2 h4 h5 h6
    obtain ⟨k, rfl⟩ : ∃ j, k = j + 1 := ⟨k - 1, by omega⟩
    rw [hI, if_neg (by omega), List.drop_eq_nil_of_le (by omega)]
    simp
  | succ d ih =>
    intro k l i h1 h2 h4 h5 h6
    obtain ⟨k, rfl⟩ : ∃ j, k = j + 1 := ⟨k - 1, by omega⟩
    rw [hI, if_pos (by omega), if_pos h1, if_pos (by omega), wrap_i _ (by omega) (by omega), getD_drop z (l := l) (i := i) h1 (by omega), List.any_cons]
    by_cases c : p (l.getD i.toNat z) = true
    · rw [if_pos c, c]
      simp
      omega
    · rw [if_neg c, ih k l (i + 1) (by omega) (by omega) (by omega) (by omega) h6, Bool.eq_false_iff.2 c, Bool.false_or]
/-- Is a span valid? -/
def okS (a : Bool) (l h : Int) : Bool := if a = true then decide (-16 ≤ l ∧ l ≤ 15 ∧ -16 ≤ h ∧ h ≤ 15 ∧ l ≤ h) else (l == 0 && h == 0)
/-- A word? -/
def wordB (n : Int) : Bool := decide (-16 ≤ n ∧ n ≤ 15)
theorem some_if_true {p : Prop} [Decidable p] (b : Bool) : (if p then (some b) else (some false)) = some (decide p && b) := by
  by_cases h : p <;> simp [h]
theorem l6In_eq (n lo hi : Int) : spec_l6In.f n lo hi = some (decide (lo ≤ n ∧ n ≤ hi)) := by
  unfold spec_l6In.f
  by_cases h1 : n ≥ lo
  · rw [if_pos h1]; congr 1; rw [decide_eq_decide]; omega
  · rw [if_neg h1]; congr 1; symm; rw [decide_eq_false_iff_not]; omega
theorem l1Word_eq (n : Int) : spec_l1Word.f n = some (wordB n) := by
  unfold spec_l1Word.f
  rw [l6In_eq]; rfl
theorem specOk_eq (a : Bool) (l h : Int) : spec_SpanOk.f a l h = some (okS a l h) := by
  unfold spec_SpanOk.f okS
  cases a
  · simp
  · simp only [if_true, l1Word_eq, Option.bind_some, wordB]
    by_cases h1 : -16 ≤ l ∧ l ≤ 15 <;> by_cases h2 : -16 ≤ h ∧ h ≤ 15 <;> simp [h1, h2] <;> omega
theorem isWord_eq (n : Int) : impl_isWord.f n = some (wordB n) := by
  unfold impl_isWord.f wordB
  by_cases h1 : n ≥ -16
  · rw [if_pos h1]; congr 1; rw [decide_eq_decide]; omega
  · rw [if_neg h1]; congr 1; symm; rw [decide_eq_false_iff_not]; omega
theorem implOk_eq (a : Bool) (l h : Int) : impl_SpanOk.f a l h = some (okS a l h) := by
  unfold impl_SpanOk.f okS
  cases a
  · simp
  · simp only [if_true, isWord_eq, Option.bind_some, wordB]
    by_cases h1 : -16 ≤ l ∧ l ≤ 15 <;> by_cases h2 : -16 ≤ h ∧ h ≤ 15 <;> simp [h1, h2] <;> omega
theorem ok_true {l h : Int} : okS true l h = true ↔ -16 ≤ l ∧ l ≤ 15 ∧ -16 ≤ h ∧ h ≤ 15 ∧ l ≤ h := by
  unfold okS
  simp
theorem ok_false {l h : Int} : okS false l h = true ↔ l = 0 ∧ h = 0 := by
  unfold okS
  simp
/-- The impl's span of the laws' one. -/
def spI (x : S24) : S30 := ⟨x.f0, x.f1, x.f2⟩
theorem toSpanS_eq (k : Nat) (l : List S24) (hl : l.length ≤ 1048576) (hk : l.length < k) : laws_toSpanS.f k l = some (l.map spI) := by
  unfold laws_toSpanS.f
  rw [if_pos (by omega), if_pos (by omega), Int.toNat_natCast]
  exact fill_all z24 spI (fun k x0 x3 x4 => laws_toSpanS.l0 k x0 x3 x4) (fun k x0 x3 x4 => by simp only [laws_toSpanS.l0, laws_toSpan.f, Option.bind_some]; rfl) k l _ hk (by omega)
theorem toState_eq (k : Nat) (a : Bool) (l : List S24) (b : Bool) (m q : Int) (hl : l.length ≤ 1048576) (hk : l.length < k) : laws_toState.f k a l b m q = some (a, l.map spI, b, m, q) := by
  unfold laws_toState.f
  rw [toSpanS_eq k l hl hk]
  rfl
theorem eqSpan_same (a : Bool) (l h : Int) : laws_eqSpan.f a l h a l h = some true := by
  unfold laws_eqSpan.f
  simp
theorem eqSpanS_self (k : Nat) (l : List S30) (hl : l.length ≤ 1048576) (hk : l.length < k) : laws_eqSpanS.f k l l = some true := by
  unfold laws_eqSpanS.f
  rw [if_pos rfl]
  exact same_loop z30 (fun x y => laws_eqSpan.f x.f0 x.f1 x.f2 y.f0 y.f1 y.f2) (fun x => eqSpan_same _ _ _) (fun k x0 x1 x5 => laws_eqSpanS.l0 k x0 x1 x5) (fun k x0 x1 x5 => by simp only [laws_eqSpanS.l0]; rfl) l.length k l 0 (by omega) (by omega) (by omega) hk (by omega)
theorem eqState_self (k : Nat) (a : Bool) (l : List S30) (b : Bool) (m q : Int) (hl : l.length ≤ 1048576) (hk : l.length < k) : laws_eqState.f k a l b m q a l b m q = some true := by
  unfold laws_eqState.f
  rw [eqSpanS_self k l hl hk, eqSpan_same]
  simp
theorem szState_eq (a : Bool) (l : List S24) (b : Bool) (m q : Int) (hl : l.length ≤ maxLen) : laws_szState.f a l b m q 1048576 = some (if l.length ≤ 1048576 then 1048576 - (l.length : Int) else -1) := by
  have hm : l.length ≤ 9223372036854775807 := by unfold maxLen at hl; omega
  unfold laws_szState.f laws_szSpanS.f
  rw [wrap_i _ (by omega) (by omega)]
  by_cases c : l.length ≤ 1048576
  · rw [if_neg (by omega), if_pos c]
    simp only [Option.bind_some]
    rw [if_neg (by omega)]
  · rw [if_pos (by omega), if_neg c]
    rfl
/-- Is a span valid, and not none? -/
def someB (x : S30) : Bool := x.f0 && okS x.f0 x.f1 x.f2
/-- Is a state valid? -/
def okSt (a : Bool) (l : List S30) (b : Bool) (m q : Int) : Bool := if a = true then (decide (l.length = 3) && (b && okS b m q && l.all someB)) else (decide (l.length = 0) && (!b && (m == 0 && q == 0)))
theorem three {α : Type} {l : List α} (h : l.length = 3) : ∃ x y z, l = [x, y, z] := by
  match l, h with
  | [x, y, z], _ => exact ⟨x, y, z, rfl⟩
theorem l1SomeT_eq (a : Bool) (l h : Int) : spec_l1Some.f a l h = some (a && okS a l h) := by
  unfold spec_l1Some.f
  rw [specOk_eq]; simp only [Option.bind_some]
  cases a <;> simp
theorem specStateOk_eq (k : Nat) (hk : 6 ≤ k) (a : Bool) (l : List S30) (b : Bool) (m q : Int) : spec_StateOk.f k a l b m q = some (okSt a l b m q) := by
  obtain ⟨k, rfl⟩ : ∃ j, k = j + 6 := ⟨k - 6, by omega⟩
  have w0 : wrap64 1 = 1 := by decide +kernel
  have w1 : wrap64 2 = 2 := by decide +kernel
  have w2 : wrap64 3 = 3 := by decide +kernel
  unfold spec_StateOk.f okSt
  cases a
  · by_cases c : l.length = 0
    · simp [c]
    · rw [if_neg (by simp), if_neg (by omega), if_neg (by simp)]
      simp [c]
  · rw [if_pos rfl, if_pos rfl]
    by_cases c : l.length = 3
    · obtain ⟨x, y, z, rfl⟩ := three c
      rw [if_pos (by simp), l1SomeT_eq]
      simp only [Option.bind_some]
      cases b && okS b m q
      · simp [spec_StateOk.j0]
      · have h0 : rd_T30 [x, y, z] 0 = x := rfl
        have h1 : rd_T30 [x, y, z] 1 = y := rfl
        have h2 : rd_T30 [x, y, z] 2 = z := rfl
        have e : ∀ x : S30, spec_l1Some.f x.f0 x.f1 x.f2 = some (someB x) := fun x => l1SomeT_eq _ _ _
        simp [spec_StateOk.j0, spec_StateOk.l0, e, w0, w1, w2, h0, h1, h2]
        cases someB x <;> cases someB y <;> cases someB z <;> simp
    · rw [if_neg (by omega)]
      simp [c, spec_StateOk.j0]
theorem clone_eq (l : List S30) (hl : l.length ≤ 1048576) : impl_Span_85.f l = some l := by
  unfold impl_Span_85.f
  simp only [Option.bind_some]
  rw [if_pos (by simp; omega)]
  rfl
theorem spans_eq (a : Bool) (l : List S30) (b : Bool) (m q : Int) (hl : l.length ≤ 1048576) : impl_State_spans.f a l b m q = some (l ++ [⟨b, m, q⟩]) := by
  unfold impl_State_spans.f
  rw [clone_eq l hl]
  simp only [Option.bind_some]
  rw [if_pos (by simp; omega)]
theorem stateOk1_eq (a : Bool) (l h : Int) : impl_StateOk_1.f a l h = some (!(a && okS a l h)) := by
  unfold impl_StateOk_1.f
  cases a
  · simp
  · rw [if_pos rfl, implOk_eq]; simp
theorem hasOk_eq (k : Nat) (l : List S30) (hk : l.length < k) (hl : l.length ≤ 9000000000000000000) : impl_Span_46__impl_StateOk_1.f k l = some (l.any (fun x => !someB x)) := by
  unfold impl_Span_46__impl_StateOk_1.f impl_Span_84__impl_StateOk_1.f
  have := has_loop z30 (fun x => !someB x) (fun k x0 x7 x8 => impl_Span_84__impl_StateOk_1.l0 k x0 x7 x8) (fun k x0 x7 x8 => by simp only [impl_Span_84__impl_StateOk_1.l0, stateOk1_eq, Option.bind_some]; rfl) l.length k l 0 (by omega) (by omega) (by omega) hk hl
  simpa using this
theorem implStateOk_eq (k : Nat) (hk : 6 ≤ k) (a : Bool) (l : List S30) (b : Bool) (m q : Int) : impl_StateOk.f k a l b m q = some (okSt a l b m q) := by
  unfold impl_StateOk.f okSt
  cases a
  · by_cases c : l.length = 0
    · simp [c]
    · rw [if_neg (by simp), if_neg (by omega), if_neg (by simp)]
      simp [c]
  · rw [if_pos rfl, if_pos rfl]
    by_cases c : l.length = 3
    · rw [if_pos (by omega), spans_eq _ _ _ _ _ (by omega)]
      simp only [Option.bind_some]
      rw [hasOk_eq k _ (by simp; omega) (by simp; omega)]
      simp only [Option.bind_some]
      obtain ⟨x, y, z, rfl⟩ := three c
      have e : someB ⟨b, m, q⟩ = (b && okS b m q) := rfl
      simp [e]
      cases b && okS b m q <;> cases someB x <;> cases someB y <;> cases someB z <;> simp
    · rw [if_neg (by omega)]
      simp [c]
/-- Does a span have a number? -/
def hasS (a : Bool) (l h n : Int) : Bool := okS a l h && (a && decide (l ≤ n ∧ n ≤ h))
theorem implHas_eq (a : Bool) (l h n : Int) : impl_SpanHas.f a l h n = some (hasS a l h n) := by
  unfold impl_SpanHas.f hasS
  rw [implOk_eq]; simp only [Option.bind_some]
  cases okS a l h <;> cases a <;> simp
  by_cases h1 : l ≤ n <;> simp [h1]
theorem specHas_st (a : Bool) (l h n : Int) : spec_SpanHas.f a l h n = some (hasS a l h n) := by
  unfold spec_SpanHas.f hasS
  rw [l1SomeT_eq, l6In_eq]; simp only [Option.bind_some]
  cases okS a l h <;> cases a <;> simp
theorem toIntS_eq (k : Nat) (l : List Int) (hl : l.length ≤ 1048576) (hk : l.length < k) : laws_toIntS.f k l = some l := by
  unfold laws_toIntS.f
  rw [if_pos (by omega), if_pos (by omega), Int.toNat_natCast]
  have := fill_all (0 : Int) (fun x => x) (fun k x0 x3 x4 => laws_toIntS.l0 k x0 x3 x4) (fun k x0 x3 x4 => by simp only [laws_toIntS.l0]; rfl) k l 0 hk (by omega)
  simpa using this
theorem eqIntS_self (k : Nat) (l : List Int) (hl : l.length ≤ 1048576) (hk : l.length < k) : laws_eqIntS.f k l l = some true := by
  unfold laws_eqIntS.f
  rw [if_pos rfl]
  exact same_loop (0 : Int) (fun x y => some (decide (x = y))) (fun x => by simp) (fun k x0 x1 x5 => laws_eqIntS.l0 k x0 x1 x5) (fun k x0 x1 x5 => by simp only [laws_eqIntS.l0, Option.bind_some, decide_eq_true_eq]; rfl) l.length k l 0 (by omega) (by omega) (by omega) hk (by omega)
/-- Has a state these registers and cells? -/
def hasSt (a : Bool) (l : List S30) (b : Bool) (m q : Int) (r c : List Int) : Bool :=
  if (a && okSt a l b m q && decide (r.length = 3) && decide (c.length = 3)) = true then (hasS (l.getD 0 z30).f0 (l.getD 0 z30).f1 (l.getD 0 z30).f2 (r.getD 0 0) && (hasS (l.getD 1 z30).f0 (l.getD 1 z30).f1 (l.getD 1 z30).f2 (r.getD 1 0) && (hasS (l.getD 2 z30).f0 (l.getD 2 z30).f1 (l.getD 2 z30).f2 (r.getD 2 0) && (hasS b m q (c.getD 0 0) && (hasS b m q (c.getD 1 0) && hasS b m q (c.getD 2 0)))))) else false
theorem okSt_len {l : List S30} {b : Bool} {m q : Int} (h : okSt true l b m q = true) : l.length = 3 := by
  unfold okSt at h
  rw [if_pos rfl] at h
  simp only [Bool.and_eq_true, decide_eq_true_eq] at h
  exact h.1
theorem specStateHas_eq (k : Nat) (hk : 20 ≤ k) (a : Bool) (l : List S30) (b : Bool) (m q : Int) (r c : List Int) : spec_StateHas.f k a l b m q r c = some (hasSt a l b m q r c) := by
  obtain ⟨k, rfl⟩ : ∃ j, k = j + 20 := ⟨k - 20, by omega⟩
  have w0 : wrap64 1 = 1 := by decide +kernel
  have w1 : wrap64 2 = 2 := by decide +kernel
  have w2 : wrap64 3 = 3 := by decide +kernel
  unfold spec_StateHas.f spec_l11Some.f hasSt
  cases a
  · simp [spec_StateHas.j0]
  · rw [if_pos rfl, specStateOk_eq _ (by omega)]
    simp only [Option.bind_some]
    by_cases o : okSt true l b m q = true
    · rw [o, if_pos rfl]
      have hl := okSt_len o
      by_cases h1 : r.length = 3
      · by_cases h2 : c.length = 3
        · obtain ⟨x, y, z, rfl⟩ := three hl
          obtain ⟨u0, u1, u2, rfl⟩ := three h1
          obtain ⟨v0, v1, v2, rfl⟩ := three h2
          have a0 : rd_T30 [x, y, z] 0 = x := rfl
          have a1 : rd_T30 [x, y, z] 1 = y := rfl
          have a2 : rd_T30 [x, y, z] 2 = z := rfl
          have b0 : rd [u0, u1, u2] 0 = u0 := rfl
          have b1 : rd [u0, u1, u2] 1 = u1 := rfl
          have b2 : rd [u0, u1, u2] 2 = u2 := rfl
          have c0 : rd [v0, v1, v2] 0 = v0 := rfl
          have c1 : rd [v0, v1, v2] 1 = v1 := rfl
          have c2 : rd [v0, v1, v2] 2 = v2 := rfl
          simp [spec_StateHas.j0, spec_StateHas.l0, spec_StateHas.l1, specHas_st, w0, w1, w2, a0, a1, a2, b0, b1, b2, c0, c1, c2]
          cases hasS x.f0 x.f1 x.f2 u0 <;> cases hasS y.f0 y.f1 y.f2 u1 <;> cases hasS z.f0 z.f1 z.f2 u2 <;> cases hasS b m q v0 <;> cases hasS b m q v1 <;> cases hasS b m q v2 <;> simp
        · rw [if_pos (by omega)]
          have : ¬ (c.length : Int) = 3 := by omega
          simp [spec_StateHas.j0, h1, h2, this]
      · rw [if_neg (by omega)]
        simp [spec_StateHas.j0, h1]
    · rw [if_neg o]
      simp [spec_StateHas.j0, o]
theorem hasCells_eq (k : Nat) (c : List Int) (a : Bool) (l : List S30) (b : Bool) (m q : Int) (hk : c.length < k) (hl : c.length ≤ 9000000000000000000) : slices_ContainsFunc_int_int__impl_StateHas_1.f k c a l b m q = some (c.any (fun n => !hasS b m q n)) := by
  unfold slices_ContainsFunc_int_int__impl_StateHas_1.f slices_IndexFunc_int_int__impl_StateHas_1.f
  have e : ∀ x, impl_StateHas_1.f x a l b m q = some (!hasS b m q x) := fun x => by unfold impl_StateHas_1.f; rw [implHas_eq]; rfl
  have := has_loop (0 : Int) (fun n => !hasS b m q n) (fun k x0 x7 x8 => slices_IndexFunc_int_int__impl_StateHas_1.l0 k x0 x7 x8 a l b m q) (fun k x0 x7 x8 => by simp only [slices_IndexFunc_int_int__impl_StateHas_1.l0, e, Option.bind_some]; rfl) c.length k c 0 (by omega) (by omega) (by omega) hk hl
  simpa using this
theorem implStateHas_eq (k : Nat) (hk : 20 ≤ k) (a : Bool) (l : List S30) (b : Bool) (m q : Int) (r c : List Int) : impl_StateHas.f k a l b m q r c = some (hasSt a l b m q r c) := by
  obtain ⟨k, rfl⟩ : ∃ j, k = j + 20 := ⟨k - 20, by omega⟩
  have w0 : wrap64 1 = 1 := by decide +kernel
  have w1 : wrap64 2 = 2 := by decide +kernel
  have w2 : wrap64 3 = 3 := by decide +kernel
  unfold impl_StateHas.f hasSt
  rw [implStateOk_eq _ (by omega)]
  simp only [Option.bind_some]
  by_cases o : okSt a l b m q = true
  · rw [if_pos o]
    cases a
    · simp [impl_StateHas.j0]
    · rw [o, if_pos rfl]
      have hl := okSt_len o
      by_cases h1 : r.length = 3
      · by_cases h2 : c.length = 3
        · obtain ⟨x, y, z, rfl⟩ := three hl
          obtain ⟨u0, u1, u2, rfl⟩ := three h1
          obtain ⟨v0, v1, v2, rfl⟩ := three h2
          have a0 : rd_T30 [x, y, z] 0 = x := rfl
          have a1 : rd_T30 [x, y, z] 1 = y := rfl
          have a2 : rd_T30 [x, y, z] 2 = z := rfl
          have b0 : rd [u0, u1, u2] 0 = u0 := rfl
          have b1 : rd [u0, u1, u2] 1 = u1 := rfl
          have b2 : rd [u0, u1, u2] 2 = u2 := rfl
          have e : ∀ k, 5 ≤ k → slices_ContainsFunc_int_int__impl_StateHas_1.f k [v0, v1, v2] true [x, y, z] b m q = some ([v0, v1, v2].any (fun n => !hasS b m q n)) := fun k hk => hasCells_eq k _ _ _ _ _ _ (by simp; omega) (by simp)
          simp [impl_StateHas.j0, impl_StateHas.l0, implHas_eq, w0, w1, w2, a0, a1, a2, b0, b1, b2, e]
          cases hasS x.f0 x.f1 x.f2 u0 <;> cases hasS y.f0 y.f1 y.f2 u1 <;> cases hasS z.f0 z.f1 z.f2 u2 <;> cases hasS b m q v0 <;> cases hasS b m q v1 <;> cases hasS b m q v2 <;> simp
        · rw [if_pos (by omega)]
          have : ¬ (c.length : Int) = 3 := by omega
          simp [impl_StateHas.j0, h1, h2, this]
      · rw [if_neg (by omega)]
        simp [impl_StateHas.j0, h1]
  · rw [if_neg o]
    simp [impl_StateHas.j0, o]
theorem FnExactStateHas : laws_FnExactStateHas.Pure := by
  intro a l b m q r c hl _ _ _ _ _ _ _
  refine ⟨2000000, ?_⟩
  unfold laws_FnExactStateHas.f
  by_cases g1 : (r.length : Int) > 1048576
  · rw [if_pos g1]
  rw [if_neg g1]
  by_cases g2 : (c.length : Int) > 1048576
  · rw [if_pos g2]
  rw [if_neg g2, szState_eq a l b m q hl]
  simp only [Option.bind_some]
  by_cases d : l.length ≤ 1048576
  · rw [if_pos d, if_neg (by omega), toState_eq _ _ _ _ _ _ d (by omega)]
    simp only [Option.bind_some]
    rw [toIntS_eq _ r (by omega) (by omega), toIntS_eq _ c (by omega) (by omega)]
    simp only [Option.bind_some]
    rw [specStateHas_eq _ (by omega), implStateHas_eq _ (by omega)]
    simp only [Option.bind_some]
    rw [if_neg (by simp), eqState_self _ _ _ _ _ _ (by simpa using d) (by simp; omega)]
    simp only [Option.bind_some, if_true]
    rw [eqIntS_self _ r (by omega) (by omega)]
    simp only [Option.bind_some, if_true]
    rw [eqIntS_self _ c (by omega) (by omega)]
    rfl
  · rw [if_neg d, if_pos (by omega)]

end Go.Proofs.Yteglijkpcgbpnaa.Pure
