/- What is proved: what functions of the program compute. No condition. -/
import Derived.Test.YtdlonbcefhimaaaP8
namespace Go.Proofs.Ytdlonbcefhimaaa.XD
open Go
set_option linter.all false
set_option maxRecDepth 100000
set_option linter.unusedSimpArgs false
set_option linter.unusedVariables false
set_option maxHeartbeats 4000000

theorem l69 (l : List Ins) (t t' : Nat) (hb : l.length < 4611686018427387904) (K : List KI) (h : Heap) : ∀ (m n : Nat), m + n = l.length →
    runK (R E) [(4, none)] (.code (.loop l69_0) :: .blk 0 :: K) (mk 27 [(0, .ro t (l.map encIns)), (1, .ro t' (l.map encIns)), (5, .int .i64 n)]) h = runK (R E) [(4, none)] K (mk 27 []) h := by
  intro m
  induction m with
  | zero =>
    intro n hn
    have hn : n = l.length := by omega
    subst hn
    rw [runK_loop]
    simp
  | succ m ih =>
    intro n hn
    have hlt : n < l.length := by omega
    have hget : l[n]? = some l[n] := List.getElem?_eq_getElem hlt
    have h81 := s81 l[n] l[n]
    simp only [encIns] at h81
    rw [runK_loop]
    generalize hR : runK (R E) [(4, none)] K _ _ = Rt
    simp [hget, hlt, encIns, h81, wrapN (show n < 4611686018427387904 by omega)]
    rw [← hR]
    exact ih (n + 1) (by omega)
theorem s69 (l : List Ins) (t t' : Nat) (ht : t ≠ 2) (ht' : t' ≠ 2) (hb : l.length < 4611686018427387904) (h : Heap) : callD (R E) 69 [.ro t (l.map encIns), .ro t' (l.map encIns)] .pure h = some (.bool true, h) := by
  rw [outC (p_ 69) e69 (by simp [encIns_ok, ht, ht']) (Nat.le_of_ble_eq_true rfl)]
  have h0 := fun K h => l69 l t t' hb K h l.length 0 (by omega)
  simp only [Int.natCast_zero] at h0
  simp [d69, h0]
theorem s45 (p : Proc) (ht : p.1 ≠ 2) (hb : p.2.length < 4611686018427387904) (h : Heap) : callD (R E) 45 [.agg (encProc p), .agg (encProc p)] .pure h = some (.bool true, h) := by
  rw [outC (p_ 45) e45 (by simp [encProc, encIns_ok, ht]) (Nat.le_of_ble_eq_true rfl)]
  simp [d45, encProc, s69 p.2 p.1 p.1 ht ht hb]
theorem l18 (l : List Proc) (t t' : Nat) (hc : ∀ p ∈ l, p.1 ≠ 2 ∧ p.2.length ≤ 1048576) (hb : l.length < 4611686018427387904) (K : List KI) (h : Heap) : ∀ (m n : Nat), m + n = l.length →
    runK (R E) [(4, none)] (.code (.loop l18_0) :: .blk 0 :: K) (mk 27 [(0, .ro t (l.map encProc)), (1, .ro t' (l.map encProc)), (5, .int .i64 n)]) h = runK (R E) [(4, none)] K (mk 27 []) h := by
  intro m
  induction m with
  | zero =>
    intro n hn
    have hn : n = l.length := by omega
    subst hn
    rw [runK_loop]
    simp
  | succ m ih =>
    intro n hn
    have hlt : n < l.length := by omega
    have hget : l[n]? = some l[n] := List.getElem?_eq_getElem hlt
    obtain ⟨h1, h2⟩ := hc _ (List.getElem_mem hlt)
    have h45 := s45 l[n] h1 (by omega)
    simp only [encProc] at h45
    rw [runK_loop]
    generalize hR : runK (R E) [(4, none)] K _ _ = Rt
    simp [hget, hlt, encProc, h45, wrapN (show n < 4611686018427387904 by omega)]
    rw [← hR]
    exact ih (n + 1) (by omega)
theorem s18 (l : List Proc) (t t' : Nat) (ht : t ≠ 2) (ht' : t' ≠ 2) (hc : ∀ p ∈ l, p.1 ≠ 2 ∧ p.2.length ≤ 1048576) (hb : l.length < 4611686018427387904) (h : Heap) : callD (R E) 18 [.ro t (l.map encProc), .ro t' (l.map encProc)] .pure h = some (.bool true, h) := by
  rw [outC (p_ 18) e18 (by simp [encProc_ok, ht, ht']) (Nat.le_of_ble_eq_true rfl)]
  have h0 := fun K h => l18 l t t' hc hb K h l.length 0 (by omega)
  simp only [Int.natCast_zero] at h0
  simp [d18, h0]

def szP : List Proc → Int → Int
  | [], left => left
  | p :: ps, left => if left < p.2.length then -1 else szP ps (left - p.2.length)
theorem szP_drop {l : List Proc} {n : Nat} {p : Proc} (h : l[n]? = some p) (left : Int) : szP (l.drop n) left = if left < p.2.length then -1 else szP (l.drop (n + 1)) (left - p.2.length) := by
  rw [drop_get h]; rfl
theorem l14 (ps : List Proc) (t : Nat) (hc : ∀ p ∈ ps, p.1 ≠ 2 ∧ (p.2.length : Int) < 9223372036854775808) (hb : ps.length < 4611686018427387904) (h : Heap) : ∀ (m n : Nat) (left : Int), m + n = ps.length → 0 ≤ left → left ≤ 1048576 →
    outK h (runK (R E) [(4, none)] [.code (.loop l14_0), .blk 0, .code (.seq (.reg false (⟨(some 26), none, (.op (.mv (.t 1)))⟩ :: ⟨(some 4), none, (.op (.mv (.t 26)))⟩ :: []) (some [4])) .ret)] (mk 27 [(0, .ro t (ps.map encProc)), (1, .int .i64 left), (5, .int .i64 n)]) []) = some (.int .i64 (szP (ps.drop n) left), h) := by
  intro m
  induction m with
  | zero =>
    intro n left hn h0 h1
    have hn : n = ps.length := by omega
    subst hn
    rw [runK_loop]
    simp [szP]
  | succ m ih =>
    intro n left hn h0 h1
    have hlt : n < ps.length := by omega
    have hget : ps[n]? = some ps[n] := List.getElem?_eq_getElem hlt
    obtain ⟨hc1, hc2⟩ := hc _ (List.getElem_mem hlt)
    have h38 := s38 ps[n] left hc1 hc2 h0 h1
    simp only [encProc] at h38
    rw [runK_loop, szP_drop hget]
    by_cases hx : left < ps[n].2.length
    · simp [hget, hlt, encProc, h38, szOf, hx]
    · have hn' : ¬ left - ps[n].2.length < 0 := by omega
      simp [hget, hlt, encProc, h38, szOf, hx, hn', wrapN (show n < 4611686018427387904 by omega)]
      exact ih (n + 1) (left - ps[n].2.length) (by omega) (by omega) (by omega)
def szAll (ps : List Proc) : Int := if (1048576 : Int) < ps.length then -1 else szP ps (1048576 - ps.length)
theorem s14 (ps : List Proc) (t : Nat) (ht : t ≠ 2) (hc : ∀ p ∈ ps, p.1 ≠ 2 ∧ (p.2.length : Int) < 9223372036854775808) (hb : (ps.length : Int) < 9223372036854775808) (h : Heap) : callD (R E) 14 [.ro t (ps.map encProc), .int .i64 1048576] .pure h = some (.int .i64 (szAll ps), h) := by
  rw [outC (p_ 14) e14 (by simp [encProc_ok, ht]) (Nat.le_of_ble_eq_true rfl)]
  have hw : IntKind.i64.wrap (1048576 - ps.length) = 1048576 - ps.length := wrapI (by omega) (by omega)
  by_cases hx : (1048576 : Int) < ps.length
  · have hn : (1048576 : Int) - ps.length < 0 := by omega
    simp [d14, hw, hn, szAll, hx]
  · have hn : ¬ (1048576 : Int) - ps.length < 0 := by omega
    have h0 := l14 ps t hc (by omega) h ps.length 0 (1048576 - ps.length) (by omega) (by omega) (by omega)
    simp only [Int.natCast_zero, List.drop_zero] at h0
    simp [d14, hw, hn, szAll, hx]
    exact h0
theorem szP_len : ∀ (ps : List Proc) (left : Int), 0 ≤ left → 0 ≤ szP ps left → ∀ p ∈ ps, (p.2.length : Int) ≤ left
  | [], _, _, _, p, hp => by cases hp
  | q :: ps, left, h0, h, p, hp => by
    simp only [szP] at h
    split at h
    · omega
    · cases hp with
      | head => omega
      | tail _ hp => have := szP_len ps _ (by omega) h p hp; omega
theorem law3 (ps : List Proc) (t : Nat) (ht : t ≠ 2) (hc : ∀ p ∈ ps, p.1 ≠ 2 ∧ (p.2.length : Int) < 9223372036854775808) (hb : (ps.length : Int) < 9223372036854775808) (h : Heap) : callD (R E) 3 [.ro t (ps.map encProc)] .pure h = some (.bool true, h) := by
  rw [outC (p_ 3) e3 (by simp [encProc_ok, ht]) (Nat.le_of_ble_eq_true rfl)]
  have h14 := s14 ps t ht hc hb
  by_cases hx : szAll ps < 0
  · simp [d3, h14, hx]
  · have hl : ¬ (1048576 : Int) < ps.length := fun hh => hx (by simp [szAll, hh])
    have hsz : 0 ≤ szP ps (1048576 - ps.length) := by simp only [szAll, hl, if_false] at hx; omega
    have hlen := szP_len ps _ (by omega) hsz
    have hc' : ∀ p ∈ ps, p.1 ≠ 2 ∧ p.2.length ≤ 1048576 := fun p hp => ⟨(hc p hp).1, by have := hlen p hp; omega⟩
    have h16 := s16 ps t ht hc' (by omega)
    have hf : ∀ p ∈ ps.map fresh, p.1 ≠ 2 ∧ p.2.length ≤ 1048576 := fun p hp => by
      obtain ⟨q, hq, rfl⟩ := List.mem_map.1 hp
      exact ⟨by simp [fresh], (hc' q hq).2⟩
    have h15 := s15 (ps.map fresh) 0 (by decide)
    have h17 := s17 (ps.map fresh) 0 (by decide) (fun c hc => (hf c hc).1)
    have h18 := s18 (ps.map fresh) 0 0 (by decide) (by decide) hf (by simp; omega)
    generalize ps.map fresh = qs at *
    simp [d3, h14, hx, h16, h15, h17, h18]
