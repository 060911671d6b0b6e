/- What is proved: what functions of the program compute. No condition. -/
import Derived.Test.YtdlonbcefhimaaaP4
namespace Go.Proofs.Ytdlonbcefhimaaa.XD
open Go
set_option linter.all false
set_option maxRecDepth 100000
set_option linter.unusedSimpArgs false
set_option linter.unusedVariables false
set_option maxHeartbeats 4000000

theorem encIns_ok' (l : List Ins) (p q : Nat → Bool) : DV.okss p q (l.map encIns) = true := encIns_ok l p q
theorem okssN {es : List (List DV)} (h : DV.okss (fun _ => true) (fun _ => false) es = true) {q : Nat → Bool} : DV.okss (fun _ => true) q es = true := okss_imp (fun _ _ => rfl) (fun _ hq => by cases hq) es h
theorem s65 (n : Int) (t : Nat) (l : List Ins) (H : Heap) : callD (R E) 65 [.int .i64 n, .ptr 0 0 0 1] .pure (.arr 37 1 [[.ro t (l.map encIns)]] 0 :: H) = some (.bool (l6In n 0 l.length), .arr 37 1 [[.ro t (l.map encIns)]] 0 :: H) := by
  refine outN (p_ 65) e65 (as := [.int .i64 n, .rp 1 [.ro (if t = 2 then 0 else t) (l.map encIns)] 0]) ?_ (Nat.le_of_ble_eq_true rfl) ?_ rfl
  · simp [encIns_ok]
  · unfold l6In
    by_cases h1 : 0 ≤ n <;> simp [d65, h1]

theorem s44 (ps : List Proc) (t : Nat) (c : Proc) (x : Ins) (ht : t ≠ 2) (hc : c.1 ≠ 2) (hp : (ps.length : Int) < 9223372036854775808) (h : Heap) :
    callD (R E) 44 [.ro t (ps.map encProc), .agg (encProc c), .agg (encIns x)] .pure h = some (.bool (insOk c.2.length ps.length x), h) := by
  rw [outC (p_ 44) e44 (by simp [encIns, encProc, encIns_ok, encProc_ok, ht, hc]) (Nat.le_of_ble_eq_true rfl)]
  have h64 := s64 x
  obtain ⟨k, a, b, d⟩ := x
  have hw : IntKind.i64.wrap (ps.length - 1) = ps.length - 1 := wrapI (by omega) (by omega)
  rcases kinds k with rfl | rfl | rfl | rfl | rfl | rfl | rfl | rfl | rfl | rfl | rfl | rfl | ⟨h1, h2, h3, h4, h5, h6, h7, h8, h9, h10, h11, h12⟩
  case' inr.inr.inr.inr.inr.inr.inr.inr.inr.inr.inr.inr => simp [encIns, stepV, stepDV, h1, h2, h3, h4, h5, h6, h7, h8, h9, h10, h11, h12] at h64
  all_goals try simp [encIns, stepV, stepDV] at h64
  · simp [d44, encIns, encProc, h64, brI, insOk, l2Ins, h1, h2, h3, h4, h5, h6, h7, h8, h9, h10, h11, h12]
  all_goals simp [d44, encIns, encProc, h64, s127, s128, s129, s130, s131, s132, s134, s135, s136, s137, s138, s65, anIF, anIT, s66, s67, s68, insOk, l2Ins, brI]
  all_goals clear h64
  all_goals ((repeat' split) <;> simp_all [l6In] <;> omega)
