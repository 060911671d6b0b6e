/- What is proved: what functions of the program compute. No condition. -/
import Derived.Test.YtdlonbcefhimaaaD3
namespace Go.Proofs.Ytdlonbcefhimaaa.XD
open Go
set_option linter.all false
set_option maxRecDepth 100000
set_option linter.unusedSimpArgs false
set_option linter.unusedVariables false
set_option maxHeartbeats 4000000

structure Ins where
  k : Int
  a : Int
  b : Int
  c : Int
  deriving DecidableEq
abbrev Proc := Nat × List Ins
def encIns (x : Ins) : List DV := [.int .i64 x.k, .int .i64 x.a, .int .i64 x.b, .int .i64 x.c]
def encProc (p : Proc) : List DV := [.ro p.1 (p.2.map encIns)]
theorem encIns_ok (l : List Ins) (p q : Nat → Bool) : DV.okss p q (l.map encIns) = true := okss_all (fun d hd => by
  obtain ⟨x, _, rfl⟩ := List.mem_map.1 hd
  rfl)
theorem encProc_ok (l : List Proc) (q : Nat → Bool) : DV.okss (fun _ => true) q (l.map encProc) = true := okss_all (fun d hd => by
  obtain ⟨x, _, rfl⟩ := List.mem_map.1 hd
  simp [encProc, encIns_ok])

def l6In (n lo hi : Int) : Bool := decide (lo ≤ n) && decide (n ≤ hi)
theorem s39 (n lo hi : Int) (h : Heap) : callD (R E) 39 [.int .i64 n, .int .i64 lo, .int .i64 hi] .pure h = some (.bool (l6In n lo hi), h) := by
  rw [outC (p_ 39) e39 (by rfl) (Nat.le_of_ble_eq_true rfl)]
  unfold l6In
  by_cases h1 : lo ≤ n <;> simp [d39, h1]
theorem s61 (n : Int) (h : Heap) : callD (R E) 61 [.int .i64 n] .pure h = some (.bool (l6In n (-16) 15), h) := by
  rw [outC (p_ 61) e61 (by rfl) (Nat.le_of_ble_eq_true rfl)]
  simp [d61, s39]
def l2Ins (k a b c size procs : Int) : Bool :=
  if k = 1 then l6In a 0 2 && l6In b (-16) 15 && decide (c = 0)
  else if k = 3 then l6In a 0 2 && l6In b 0 15 && decide (c = 0)
  else if k = 2 ∨ k = 11 ∨ k = 12 then l6In a 0 2 && l6In b 0 2 && decide (c = 0)
  else if k = 4 then l6In a 0 2 && l6In b 0 2 && l6In c 1 6
  else if k = 5 then decide (a = 0) && decide (b = 0) && l6In c 0 size
  else if k = 6 ∨ k = 7 then l6In a 0 2 && l6In b 0 2 && l6In c 0 size
  else if k = 8 then l6In a 0 2 && l6In b 0 (IntKind.i64.wrap (procs - 1)) && l6In c 0 2
  else if k = 9 ∨ k = 10 then l6In a 0 2 && decide (b = 0) && decide (c = 0)
  else false
theorem kinds (k : Int) : k = 1 ∨ k = 2 ∨ k = 3 ∨ k = 4 ∨ k = 5 ∨ k = 6 ∨ k = 7 ∨ k = 8 ∨ k = 9 ∨ k = 10 ∨ k = 11 ∨ k = 12 ∨ (k ≠ 1 ∧ k ≠ 2 ∧ k ≠ 3 ∧ k ≠ 4 ∧ k ≠ 5 ∧ k ≠ 6 ∧ k ≠ 7 ∧ k ≠ 8 ∧ k ≠ 9 ∧ k ≠ 10 ∧ k ≠ 11 ∧ k ≠ 12) := by omega
theorem s40 (k a b c size procs : Int) (h : Heap) : callD (R E) 40 [.agg [.int .i64 k, .int .i64 a, .int .i64 b, .int .i64 c], .int .i64 size, .int .i64 procs] .pure h = some (.bool (l2Ins k a b c size procs), h) := by
  rw [outC (p_ 40) e40 (by rfl) (Nat.le_of_ble_eq_true rfl)]
  simp [d40, s39, s61, anIT, anIF, brI]
  rcases kinds k with rfl | rfl | rfl | rfl | rfl | rfl | rfl | rfl | rfl | rfl | rfl | rfl | hk <;>
  simp [l2Ins, beqD, *] <;> (try (repeat' split) <;> simp_all)
def insOk (size procs : Int) (x : Ins) : Bool := l2Ins x.k x.a x.b x.c size procs

theorem l15a (ps : List Proc) (t : Nat) (i : Nat) (p : Proc) (hi : ps[i]? = some p) (hb : p.2.length < 4611686018427387904) (K : List KI) (h : Heap) : ∀ (m n : Nat), m + n = p.2.length →
    runK (R E) [(2, none)] (.code (.loop l15_0) :: .blk 2 :: K) (mk 50 [(0, .ro t (ps.map encProc)), (3, .int .i64 i), (4, .int .i64 n)]) h =
      chK ((p.2.drop n).all (insOk p.2.length ps.length)) (runK (R E) [(2, none)] K (mk 50 [(0, .ro t (ps.map encProc)), (3, .int .i64 i)]) h) (some (.bool false, h)) := by
  intro m
  induction m with
  | zero =>
    intro n hn
    have hn : n = p.2.length := by omega
    subst hn
    rw [runK_loop]
    generalize hR : chK _ _ _ = Rt
    simp [hi, encProc]
    rw [← hR]; simp
  | succ m ih =>
    intro n hn
    have hlt : n < p.2.length := by omega
    have hget : p.2[n]? = some p.2[n] := List.getElem?_eq_getElem hlt
    rw [runK_loop, all_drop hget]
    generalize hR : chK _ _ _ = Rt
    cases hx : insOk p.2.length ps.length p.2[n] with
    | true =>
      have hx' := hx
      simp only [insOk] at hx'
      simp [hi, encProc, hlt, hget, s40, encIns, hx', wrapN (show n < 4611686018427387904 by omega)]
      rw [hx, Bool.true_and] at hR
      rw [← hR]
      exact ih (n + 1) (by omega)
    | false =>
      have hx' := hx
      simp only [insOk] at hx'
      simp [hi, encProc, hlt, hget, s40, encIns, hx']
      rw [← hR, hx]; rfl

theorem l15b (ps : List Proc) (t : Nat) (hp : ps.length < 4611686018427387904) (K : List KI) (h : Heap) : ∀ (m n : Nat), m + n = ps.length →
    runK (R E) [(2, none)] (.code (.loop l15_1) :: .blk 0 :: K) (mk 50 [(0, .ro t (ps.map encProc)), (3, .int .i64 n)]) h =
      chK ((ps.drop n).all (fun p => decide (p.2.length ≤ 8) && p.2.all (insOk p.2.length ps.length))) (runK (R E) [(2, none)] K (mk 50 []) h) (some (.bool false, h)) := by
  intro m
  induction m with
  | zero =>
    intro n hn
    have hn : n = ps.length := by omega
    subst hn
    rw [runK_loop]
    generalize hR : chK _ _ _ = Rt
    simp
    rw [← hR]; simp
  | succ m ih =>
    intro n hn
    have hlt : n < ps.length := by omega
    have hget : ps[n]? = some ps[n] := List.getElem?_eq_getElem hlt
    rw [runK_loop, all_drop hget]
    generalize hR : chK _ _ _ = Rt
    by_cases hx : ps[n].2.length ≤ 8
    · have h0 := fun K h => l15a ps t n ps[n] hget (by omega) K h ps[n].2.length 0 (by omega)
      simp only [Int.natCast_zero, List.drop_zero] at h0
      have hlt8 : ¬ (8 : Int) < (ps[n].2.length : Int) := by omega
      cases hy : ps[n].2.all (insOk ps[n].2.length ps.length) with
      | true =>
        simp only [hy, chT] at h0
        simp [hget, hlt, encProc, hlt8, h0, wrapN (show n < 4611686018427387904 by omega)]
        rw [← hR, hy]
        simp only [hx, decide_true, Bool.true_and]
        exact ih (n + 1) (by omega)
      | false =>
        simp only [hy, chF] at h0
        simp [hget, hlt, encProc, hlt8, h0]
        rw [← hR, hy]
        simp
    · have hlt8 : (8 : Int) < (ps[n].2.length : Int) := by omega
      simp [hget, hlt, encProc, hlt8]
      rw [← hR]
      simp [hx]

def progOk (ps : List (List Ins)) : Bool := l6In ps.length 1 4 && ps.all fun p => decide (p.length ≤ 8) && p.all (insOk p.length ps.length)
theorem s15 (ps : List Proc) (t : Nat) (ht : t ≠ 2) (h : Heap) : callD (R E) 15 [.ro t (ps.map encProc)] .pure h = some (.bool (progOk (ps.map (·.2))), h) := by
  rw [outC (p_ 15) e15 (by simp [encProc_ok, ht]) (Nat.le_of_ble_eq_true rfl)]
  cases hx : l6In ps.length 1 4 with
  | false => simp [d15, s39, hx, progOk]
  | true =>
    have hb : ps.length < 4611686018427387904 := by simp [l6In] at hx; omega
    have h0 := fun K h => l15b ps t hb K h ps.length 0 (by omega)
    simp only [Int.natCast_zero, List.drop_zero] at h0
    simp [d15, s39, hx, h0, progOk]
    rfl
