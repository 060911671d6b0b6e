/- What is proved: what functions of the program compute. No condition. -/
import Derived.Test.YtdlonbcefhimaaaP5
namespace Go.Proofs.Ytdlonbcefhimaaa.XD
open Go
set_option linter.all false
set_option maxRecDepth 100000
set_option linter.unusedSimpArgs false
set_option linter.unusedVariables false
set_option maxHeartbeats 4000000

theorem s43 (ps : List Proc) (t t1 t2 : Nat) (c : Proc) (x : Ins) (ht : t ≠ 2) (hc : c.1 ≠ 2) (hp : (ps.length : Int) < 9223372036854775808) (h : Heap) :
    callD (R E) 43 [.agg (encIns x), .rp t1 [.ro t (ps.map encProc)] 0, .rp t2 (encProc c) 0] .pure h = some (.bool (!insOk c.2.length ps.length x), h) := by
  rw [outC (p_ 43) e43 (by simp [encIns, encProc, encIns_ok, encProc_ok]) (Nat.le_of_ble_eq_true rfl)]
  have h44 := s44 ps t c x ht hc hp
  simp only [encIns, encProc] at h44
  simp [d43, encIns, encProc, h44]

/-- Where the first is of which it holds. -/
def fi {α : Type} (g : α → Bool) : List α → Nat → Option Nat
  | [], _ => none
  | x :: l, n => if g x = true then some n else fi g l (n + 1)
def fiK (o : Option Nat) (x : Option (DV × Heap)) (h : Heap) : Option (DV × Heap) := match o with
  | none => x
  | some i => some (.int .i64 i, h)
theorem fi_drop {α : Type} {g : α → Bool} {l : List α} {n : Nat} {x : α} (h : l[n]? = some x) : fi g (l.drop n) n = if g x = true then some n else fi g (l.drop (n + 1)) (n + 1) := by
  obtain ⟨hn, rfl⟩ := List.getElem?_eq_some_iff.1 h
  rw [List.drop_eq_getElem_cons hn]; rfl
theorem fi_any {α : Type} (g : α → Bool) : ∀ (l : List α) (n : Nat), (fi g l n).isSome = l.any g
  | [], _ => rfl
  | x :: l, n => by
    simp only [fi, List.any_cons]
    cases g x with
    | true => rfl
    | false => simpa using fi_any g l (n + 1)

theorem l63 (l : List Ins) (t : Nat) (f : FuncId) (caps : List DV) (g : Ins → Bool) (hg : ∀ x h, callD (R E) f (.agg (encIns x) :: caps) .pure h = some (.bool (g x), h)) (hb : l.length < 4611686018427387904) (K : List KI) (h : Heap) : ∀ (m n : Nat), m + n = l.length →
    runK (R E) [(4, none)] (.code (.loop l63_0) :: .blk 0 :: K) (mk 19 [(0, .ro t (l.map encIns)), (1, .func f caps), (7, .int .i64 l.length), (8, .int .i64 n)]) h =
      fiK (fi g (l.drop n) n) (runK (R E) [(4, none)] K (mk 19 []) h) h := by
  intro m
  induction m with
  | zero =>
    intro n hn
    have hn : n = l.length := by omega
    subst hn
    rw [runK_loop]
    generalize hR : fiK _ _ _ = Rt
    simp
    rw [← hR]; simp [fi, fiK]
  | succ m ih =>
    intro n hn
    have hlt : n < l.length := by omega
    have hget : l[n]? = some l[n] := List.getElem?_eq_getElem hlt
    rw [runK_loop, fi_drop hget]
    generalize hR : fiK _ _ _ = Rt
    have hx' := hg l[n]
    simp only [encIns] at hx'
    cases hx : g l[n] with
    | true =>
      simp [hget, hlt, encIns, hx', hx]
      rw [← hR]; simp [hx, fiK]
    | false =>
      simp [hget, hlt, encIns, hx', hx, wrapN (show n < 4611686018427387904 by omega)]
      rw [← hR]
      simp only [hx, Bool.false_eq_true, if_false]
      exact ih (n + 1) (by omega)

theorem s63 (l : List Ins) (t : Nat) (f : FuncId) (caps : List DV) (g : Ins → Bool) (hg : ∀ x h, callD (R E) f (.agg (encIns x) :: caps) .pure h = some (.bool (g x), h)) (hb : l.length < 4611686018427387904) (ht : t ≠ 2) (hs : DV.stills caps = true) (h : Heap) :
    callD (R E) 63 [.ro t (l.map encIns), .func f caps] .pure h = some (.int .i64 (match fi g l 0 with | some i => (i : Int) | none => -1), h) := by
  rw [outC (p_ 63) e63 (by simp [encIns_ok, ht, hs]) (Nat.le_of_ble_eq_true rfl)]
  have h0 := fun K h => l63 l t f caps g hg hb K h l.length 0 (by omega)
  simp only [Int.natCast_zero, List.drop_zero] at h0
  cases hf : fi g l 0 with
  | none => simp [d63, h0, hf, fiK]
  | some i => simp [d63, h0, hf, fiK]

theorem s42 (l : List Ins) (t : Nat) (f : FuncId) (caps : List DV) (g : Ins → Bool) (hg : ∀ x h, callD (R E) f (.agg (encIns x) :: caps) .pure h = some (.bool (g x), h)) (hb : l.length < 4611686018427387904) (ht : t ≠ 2) (hs : DV.stills caps = true) (h : Heap) :
    callD (R E) 42 [.ro t (l.map encIns), .func f caps] .pure h = some (.bool (l.any g), h) := by
  rw [outC (p_ 42) e42 (by simp [encIns_ok, ht, hs]) (Nat.le_of_ble_eq_true rfl)]
  have h0 := s63 l t f caps g hg hb ht hs
  rw [← fi_any g l 0]
  cases hf : fi g l 0 with
  | none => simp [d42, h0, hf]
  | some i => simp [d42, h0, hf]
