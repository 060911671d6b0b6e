/- What is proved: what functions of the program compute. No condition. -/
import Derived.Test.YtdlonbcefhimaaaP3
namespace Go.Proofs.Ytdlonbcefhimaaa.XD
open Go
set_option linter.all false
set_option maxRecDepth 100000
set_option linter.unusedSimpArgs false
set_option linter.unusedVariables false
set_option maxHeartbeats 4000000

def szOf (n left : Int) : Int := if left < n then -1 else left - n
theorem wrapI {n : Int} (h : -9223372036854775808 ≤ n) (h' : n < 9223372036854775808) : IntKind.i64.wrap n = n := by
  have : (2 : Int) ^ IntKind.i64.bits = 18446744073709551616 := by decide
  have : (2 : Int) ^ (IntKind.i64.bits - 1) = 9223372036854775808 := by decide
  have : IntKind.i64.signed = true := rfl
  simp [IntKind.wrap, *]; split <;> omega
theorem s60 (l : List Ins) (t : Nat) (left : Int) (ht : t ≠ 2) (hl : (l.length : Int) < 9223372036854775808) (h0 : 0 ≤ left) (h1 : left ≤ 1048576) (h : Heap) :
    callD (R E) 60 [.ro t (l.map encIns), .int .i64 left] .pure h = some (.int .i64 (szOf l.length left), h) := by
  rw [outC (p_ 60) e60 (by simp [encIns_ok, ht]) (Nat.le_of_ble_eq_true rfl)]
  have hw : IntKind.i64.wrap (left - l.length) = left - l.length := wrapI (by omega) (by omega)
  by_cases hx : left < l.length
  · have hn : left - l.length < 0 := by omega
    simp [d60, hw, hn, szOf, hx]
  · have hn : ¬ left - l.length < 0 := by omega
    simp [d60, hw, hn, szOf, hx]
theorem s38 (p : Proc) (left : Int) (ht : p.1 ≠ 2) (hl : (p.2.length : Int) < 9223372036854775808) (h0 : 0 ≤ left) (h1 : left ≤ 1048576) (h : Heap) :
    callD (R E) 38 [.agg (encProc p), .int .i64 left] .pure h = some (.int .i64 (szOf p.2.length left), h) := by
  rw [outC (p_ 38) e38 (by simp [encProc, encIns_ok, ht]) (Nat.le_of_ble_eq_true rfl)]
  by_cases hx : left < p.2.length
  · simp [d38, encProc, s60 p.2 p.1 left ht hl h0 h1, szOf, hx]
  · have hn : ¬ left - p.2.length < 0 := by omega
    simp [d38, encProc, s60 p.2 p.1 left ht hl h0 h1, szOf, hx, hn]

theorem s80 (x : Ins) (h : Heap) : callD (R E) 80 [.agg (encIns x)] .pure h = some (.agg (encIns x), h) := by
  rw [outC (p_ 80) e80 (by simp [encIns]) (Nat.le_of_ble_eq_true rfl)]
  simp [d80, encIns]
theorem s81 (x y : Ins) (h : Heap) : callD (R E) 81 [.agg (encIns x), .agg (encIns y)] .pure h = some (.bool (decide (x = y)), h) := by
  rw [outC (p_ 81) e81 (by simp [encIns]) (Nat.le_of_ble_eq_true rfl)]
  obtain ⟨k, a, b, c⟩ := x
  obtain ⟨k', a', b', c'⟩ := y
  simp [d81, encIns, brI]
  by_cases h1 : k = k' <;> by_cases h2 : a = a' <;> by_cases h3 : b = b' <;> by_cases h4 : c = c' <;> simp [h1, h2, h3, h4]

/-- What an instruction is in the parts' own types. -/
def stepDV (x : Ins) : Option (TypeId × List DV) :=
  if x.k = 1 then some (84, [.int .i64 x.a, .int .i64 x.b])
  else if x.k = 2 then some (86, [.int .i64 x.a, .int .i64 x.b])
  else if x.k = 3 then some (88, [.int .i64 x.a, .int .i64 x.b])
  else if x.k = 4 then some (90, [.int .i64 x.a, .int .i64 x.b, .int .i64 x.c])
  else if x.k = 5 then some (92, [.int .i64 x.c])
  else if x.k = 6 ∨ x.k = 7 then some (94, [.int .i64 x.k, .int .i64 x.a, .int .i64 x.b, .int .i64 x.c])
  else if x.k = 8 then some (96, [.int .i64 x.a, .int .i64 x.b, .int .i64 x.c])
  else if x.k = 9 then some (98, [.int .i64 x.a])
  else if x.k = 10 then some (100, [.int .i64 x.a])
  else if x.k = 11 then some (102, [.int .i64 x.a, .int .i64 x.b])
  else if x.k = 12 then some (104, [.int .i64 x.a, .int .i64 x.b])
  else none
def stepV (x : Ins) : DV := match stepDV x with
  | some (t, cs) => .iface t (.agg cs)
  | none => .niface
theorem s64 (x : Ins) (h : Heap) : callD (R E) 64 [.agg (encIns x)] .pure h = some (stepV x, h) := by
  rw [outC (p_ 64) e64 (by simp [encIns]) (Nat.le_of_ble_eq_true rfl)]
  obtain ⟨k, a, b, c⟩ := x
  rcases kinds k with rfl | rfl | rfl | rfl | rfl | rfl | rfl | rfl | rfl | rfl | rfl | rfl | ⟨h1, h2, h3, h4, h5, h6, h7, h8, h9, h10, h11, h12⟩
  case' inr.inr.inr.inr.inr.inr.inr.inr.inr.inr.inr.inr => simp [d64, encIns, stepV, stepDV, beqD, h1, h2, h3, h4, h5, h6, h7, h8, h9, h10, h11, h12]
  all_goals simp [d64, encIns, stepV, stepDV]
theorem s66 (n : Int) (h : Heap) : callD (R E) 66 [.int .i64 n] .pure h = some (.bool (l6In n 0 2), h) := by
  rw [outC (p_ 66) e66 (by rfl) (Nat.le_of_ble_eq_true rfl)]
  unfold l6In
  by_cases h1 : 0 ≤ n <;> simp [d66, h1]
  omega
theorem s67 (n : Int) (h : Heap) : callD (R E) 67 [.int .i64 n] .pure h = some (.bool (l6In n (-16) 15), h) := by
  rw [outC (p_ 67) e67 (by rfl) (Nat.le_of_ble_eq_true rfl)]
  unfold l6In
  by_cases h1 : -16 ≤ n <;> simp [d67, h1]
theorem s68 (n : Int) (h : Heap) : callD (R E) 68 [.int .i64 n] .pure h = some (.bool (l6In n 1 6), h) := by
  rw [outC (p_ 68) e68 (by rfl) (Nat.le_of_ble_eq_true rfl)]
  unfold l6In
  by_cases h1 : 1 ≤ n <;> simp [d68, h1]
theorem s127 (a b : Int) (h : Heap) : callD (R E) 127 [.agg [.int .i64 a, .int .i64 b]] .pure h = some (.agg [.int .i64 1, .int .i64 a, .int .i64 b, .int .i64 0], h) := by
  rw [outC (p_ 127) e127 (by simp) (Nat.le_of_ble_eq_true rfl)]
  simp [d127]
theorem s128 (a b : Int) (h : Heap) : callD (R E) 128 [.agg [.int .i64 a, .int .i64 b]] .pure h = some (.agg [.int .i64 2, .int .i64 a, .int .i64 b, .int .i64 0], h) := by
  rw [outC (p_ 128) e128 (by simp) (Nat.le_of_ble_eq_true rfl)]
  simp [d128]
theorem s129 (a b : Int) (h : Heap) : callD (R E) 129 [.agg [.int .i64 a, .int .i64 b]] .pure h = some (.agg [.int .i64 3, .int .i64 a, .int .i64 b, .int .i64 0], h) := by
  rw [outC (p_ 129) e129 (by simp) (Nat.le_of_ble_eq_true rfl)]
  simp [d129]
theorem s130 (a b c : Int) (h : Heap) : callD (R E) 130 [.agg [.int .i64 a, .int .i64 b, .int .i64 c]] .pure h = some (.agg [.int .i64 4, .int .i64 a, .int .i64 b, .int .i64 c], h) := by
  rw [outC (p_ 130) e130 (by simp) (Nat.le_of_ble_eq_true rfl)]
  simp [d130]
theorem s131 (c : Int) (h : Heap) : callD (R E) 131 [.agg [.int .i64 c]] .pure h = some (.agg [.int .i64 5, .int .i64 0, .int .i64 0, .int .i64 c], h) := by
  rw [outC (p_ 131) e131 (by simp) (Nat.le_of_ble_eq_true rfl)]
  simp [d131]
theorem s132 (a b c d : Int) (h : Heap) : callD (R E) 132 [.agg [.int .i64 d, .int .i64 a, .int .i64 b, .int .i64 c]] .pure h = some (.agg [.int .i64 d, .int .i64 a, .int .i64 b, .int .i64 c], h) := by
  rw [outC (p_ 132) e132 (by simp) (Nat.le_of_ble_eq_true rfl)]
  simp [d132]
theorem s134 (a b c : Int) (h : Heap) : callD (R E) 134 [.agg [.int .i64 a, .int .i64 b, .int .i64 c]] .pure h = some (.agg [.int .i64 8, .int .i64 a, .int .i64 b, .int .i64 c], h) := by
  rw [outC (p_ 134) e134 (by simp) (Nat.le_of_ble_eq_true rfl)]
  simp [d134]
theorem s135 (a : Int) (h : Heap) : callD (R E) 135 [.agg [.int .i64 a]] .pure h = some (.agg [.int .i64 9, .int .i64 a, .int .i64 0, .int .i64 0], h) := by
  rw [outC (p_ 135) e135 (by simp) (Nat.le_of_ble_eq_true rfl)]
  simp [d135]
theorem s136 (a : Int) (h : Heap) : callD (R E) 136 [.agg [.int .i64 a]] .pure h = some (.agg [.int .i64 10, .int .i64 a, .int .i64 0, .int .i64 0], h) := by
  rw [outC (p_ 136) e136 (by simp) (Nat.le_of_ble_eq_true rfl)]
  simp [d136]
theorem s137 (a b : Int) (h : Heap) : callD (R E) 137 [.agg [.int .i64 a, .int .i64 b]] .pure h = some (.agg [.int .i64 11, .int .i64 a, .int .i64 b, .int .i64 0], h) := by
  rw [outC (p_ 137) e137 (by simp) (Nat.le_of_ble_eq_true rfl)]
  simp [d137]
theorem s138 (a b : Int) (h : Heap) : callD (R E) 138 [.agg [.int .i64 a, .int .i64 b]] .pure h = some (.agg [.int .i64 12, .int .i64 a, .int .i64 b, .int .i64 0], h) := by
  rw [outC (p_ 138) e138 (by simp) (Nat.le_of_ble_eq_true rfl)]
  simp [d138]
