/- What is proved: what functions of the program compute. No condition. -/
import Derived.Test.YtdlonbcefhimaaaP6
namespace Go.Proofs.Ytdlonbcefhimaaa.XD
open Go
set_option linter.all false
set_option maxRecDepth 100000
set_option linter.unusedSimpArgs false
set_option linter.unusedVariables false
set_option maxHeartbeats 4000000

@[simp] theorem get_concat {α : Type} {H : List α} {x : α} : (H ++ [x])[H.length]? = some x := by simp
@[simp] theorem set_concat {α : Type} {H : List α} {x y : α} : (H ++ [x]).set H.length y = H ++ [y] := by simp

theorem s42p (ps : List Proc) (t : Nat) (c : Proc) (ht : t ≠ 2) (hc : c.1 ≠ 2) (hp : (ps.length : Int) < 9223372036854775808) (hb : c.2.length < 4611686018427387904) (H : Heap) :
    callD (R E) 42 [.ro c.1 (c.2.map encIns), .func 43 [.ptr 0 0 0 1, .ptr (H.length + 1) 0 0 1]] .pure (.arr 25 1 [[.ro t (ps.map encProc)]] 0 :: (H ++ [.arr 37 1 [[.ro c.1 (c.2.map encIns)]] 0])) =
      some (.bool (c.2.any fun x => !insOk c.2.length ps.length x), .arr 25 1 [[.ro t (ps.map encProc)]] 0 :: (H ++ [.arr 37 1 [[.ro c.1 (c.2.map encIns)]] 0])) := by
  refine outN (p_ 42) e42 (as := [.ro c.1 (c.2.map encIns), .func 43 [.rp 1 [.ro t (ps.map encProc)] 0, .rp 1 [.ro c.1 (c.2.map encIns)] 0]]) ?_ (Nat.le_of_ble_eq_true rfl) ?_ rfl
  · simp [encIns_ok, encProc_ok, ht, hc]
  · have h42 := fun h => s42 c.2 c.1 43 [.rp 1 [.ro t (ps.map encProc)] 0, .rp 1 [.ro c.1 (c.2.map encIns)] 0] (fun x => !insOk c.2.length ps.length x) (fun x h => s43 ps t 1 1 c x ht hc hp h) hb hc (by simp [encIns_ok, encProc_ok]) h
    rw [← outC (p_ 42) e42 (by simp [encIns_ok, encProc_ok, hc]) (Nat.le_of_ble_eq_true rfl)]
    exact h42 _

theorem l17 (ps : List Proc) (t : Nat) (ht : t ≠ 2) (hc : ∀ c ∈ ps, c.1 ≠ 2) (hp : ps.length < 4611686018427387904) (K : List KI) (h0 : Heap) (hK : ∀ h', outK h0 (runK (R E) [(2, none)] K (mk 30 []) h') = some (.bool true, h0)) : ∀ (m n : Nat) (H : Heap), m + n = ps.length →
    outK h0 (runK (R E) [(2, none)] (.code (.loop l17_0) :: .blk 0 :: K) (mk 30 [(1, .ptr 0 0 0 1), (13, .ro t (ps.map encProc)), (14, .int .i64 ps.length), (15, .int .i64 n)]) (.arr 25 1 [[.ro t (ps.map encProc)]] 0 :: H)) =
      some (.bool ((ps.drop n).all (fun p => decide (p.2.length ≤ 8) && p.2.all (insOk p.2.length ps.length))), h0) := by
  intro m
  induction m with
  | zero =>
    intro n H hn
    have hn : n = ps.length := by omega
    subst hn
    rw [runK_loop]
    simp [hK]
  | succ m ih =>
    intro n H hn
    have hlt : n < ps.length := by omega
    have hget : ps[n]? = some ps[n] := List.getElem?_eq_getElem hlt
    have hc' := hc _ (List.getElem_mem hlt)
    rw [runK_loop, all_drop hget]
    by_cases hx : ps[n].2.length ≤ 8
    · have hlt8 : ¬ (8 : Int) < (ps[n].2.length : Int) := by omega
      have h42 := s42p ps t ps[n] ht hc' (by omega) (by omega) H
      cases hy : ps[n].2.all (insOk ps[n].2.length ps.length) with
      | true =>
        have hy' : (ps[n].2.any fun x => !insOk ps[n].2.length ps.length x) = false := by
          rw [← List.not_all_eq_any_not, hy]; rfl
        rw [hy'] at h42
        simp [hget, hlt, encProc, hlt8, h42, wrapN (show n < 4611686018427387904 by omega)]
        simp only [hx, decide_true, Bool.true_and]
        exact ih (n + 1) _ (by omega)
      | false =>
        have hy' : (ps[n].2.any fun x => !insOk ps[n].2.length ps.length x) = true := by
          rw [← List.not_all_eq_any_not, hy]; rfl
        rw [hy'] at h42
        simp [hget, hlt, encProc, hlt8, h42]
    · have hlt8 : (8 : Int) < (ps[n].2.length : Int) := by omega
      simp [hget, hlt, encProc, hlt8, hx]

theorem s17 (ps : List Proc) (t : Nat) (ht : t ≠ 2) (hc : ∀ c ∈ ps, c.1 ≠ 2) (h : Heap) : callD (R E) 17 [.ro t (ps.map encProc)] .pure h = some (.bool (progOk (ps.map (·.2))), h) := by
  rw [outC (p_ 17) e17 (by simp [encProc_ok, ht]) (Nat.le_of_ble_eq_true rfl)]
  by_cases h1 : ps.length < 1
  · have : ps.length = 0 := by omega
    have hps : ps = [] := List.length_eq_zero_iff.1 this
    subst hps
    simp [d17, progOk, l6In]
  · by_cases h4 : 4 < ps.length
    · have hi1 : ¬ (ps.length : Int) < 1 := by omega
      have hi4 : (4 : Int) < (ps.length : Int) := by omega
      have hn : ¬ (ps.length : Int) ≤ 4 := by omega
      simp [d17, hi1, hi4, progOk, l6In, hn]
    · have hi1 : ¬ (ps.length : Int) < 1 := by omega
      have hi4 : ¬ (4 : Int) < (ps.length : Int) := by omega
      have hn1 : (1 : Int) ≤ (ps.length : Int) := by omega
      have hn4 : (ps.length : Int) ≤ 4 := by omega
      have h0 := fun K hK => l17 ps t ht hc (by omega) K h hK ps.length 0 [] (by omega)
      simp only [Int.natCast_zero, List.drop_zero] at h0
      simp [d17, hi1, hi4, progOk, l6In, hn1, hn4]
      rw [h0 _ (fun h' => by simp)]
      rfl
