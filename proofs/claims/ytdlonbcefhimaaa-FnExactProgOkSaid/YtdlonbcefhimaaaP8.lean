/- What is proved: what functions of the program compute. No condition. -/
import Derived.Test.YtdlonbcefhimaaaP7
namespace Go.Proofs.Ytdlonbcefhimaaa.XD
open Go
set_option linter.all false
set_option maxRecDepth 100000
set_option linter.unusedSimpArgs false
set_option linter.unusedVariables false
set_option maxHeartbeats 4000000

theorem get_mid {α : Type} {A B : List α} {z : α} {n : Nat} (h : A.length = n) : (A ++ z :: B)[n]? = some z := by subst h; simp
theorem set_mid {α : Type} {A B : List α} {z y : α} {n : Nat} (h : A.length = n) : (A ++ z :: B).set n y = A ++ [y] ++ B := by subst h; simp
theorem drop_get {α : Type} {l : List α} {n : Nat} {x : α} (h : l[n]? = some x) : l.drop n = x :: l.drop (n + 1) := by
  obtain ⟨hn, rfl⟩ := List.getElem?_eq_some_iff.1 h
  exact List.drop_eq_getElem_cons hn

def z4 : List DV := [.int .i64 0, .int .i64 0, .int .i64 0, .int .i64 0]
theorem l62 (l : List Ins) (t : Nat) (hb : l.length < 4611686018427387904) (K : List KI) : ∀ (m n : Nat) (A : List (List DV)), m + n = l.length → A.length = n →
    runK (R E) [(2, none)] (.code (.loop l62_0) :: .blk 0 :: K) (mk 23 [(0, .ro t (l.map encIns)), (3, .nsl 0 0 l.length), (4, .int .i64 n)]) [.arr 39 4 (A ++ List.replicate m z4) 0] =
      runK (R E) [(2, none)] K (mk 23 [(3, .nsl 0 0 l.length)]) [.arr 39 4 (A ++ (l.map encIns).drop n) 0] := by
  intro m
  induction m with
  | zero =>
    intro n A hn hA
    have hn : n = l.length := by omega
    subst hn
    have hd : (l.map encIns).drop l.length = [] := List.drop_eq_nil_of_le (by simp)
    rw [runK_loop, hd]
    simp
  | succ m ih =>
    intro n A hn hA
    have hlt : n < l.length := by omega
    have hget : l[n]? = some l[n] := List.getElem?_eq_getElem hlt
    have hget' : (l.map encIns)[n]? = some (encIns l[n]) := by rw [List.getElem?_map, hget]; rfl
    rw [runK_loop, drop_get hget', List.replicate_succ]
    have hN : l.length ≤ A.length + (m + 1) := by omega
    generalize hB : List.replicate m z4 = B
    have hBl : B.length = m := by rw [← hB]; simp
    have hg := get_mid (A := A) (B := B) (z := z4) hA
    have hs := fun y => set_mid (A := A) (B := B) (z := z4) (y := y) hA
    have h80 := s80 l[n]
    generalize hR : runK (R E) [(2, none)] K _ _ = Rt
    simp only [encIns] at h80
    simp only [z4] at hg hs ⊢
    simp [hget, hlt, encIns, h80, hg, hs, hN, hBl, wrapN (show n < 4611686018427387904 by omega)]
    rw [← hR, ← hB]
    have := ih (n + 1) (A ++ [encIns l[n]]) (by omega) (by simp [hA])
    simpa [encIns, z4] using this

theorem snap_row {h : Heap} {i e st m t k : Nat} {es : List (List DV)} (hh : h[i]? = some (.arr e st es m)) (hm : m ≤ es.length) (hs : ∀ e ∈ es, DV.stills e = true) : snap h t 0 (k + 1) (.nsl i 0 es.length) = some (.ro t es) := by
  have : es.mapM (fun (e : List DV) => e.mapM (snap h t 0 k)) = some es := mapM_id (fun e he => mapM_id (fun x hx => snap_still k x (stills_mem (hs e he) x hx)))
  simp only [snap, hh]
  rw [if_neg (by omega), if_pos (by omega)]
  simp only [List.drop_zero, List.take_length]
  rw [this]; rfl

theorem s62 (l : List Ins) (t : Nat) (ht : t ≠ 2) (hb : l.length ≤ 1048576) (h : Heap) : callD (R E) 62 [.ro t (l.map encIns)] .pure h = some (.ro 0 (l.map encIns), h) := by
  rw [outC (p_ 62) e62 (by simp [encIns_ok, ht]) (Nat.le_of_ble_eq_true rfl)]
  have hrun : runK (R E) d62.res [.code d62.body] (mk d62.nt (idxJ 0 [.ro t (l.map encIns)])) [] = some (.nsl 0 0 l.length, [.arr 39 4 (l.map encIns) 0]) := by
    have h0 := fun K => l62 l t (by omega) K l.length 0 [] (by omega) rfl
    simp only [Int.natCast_zero, List.drop_zero, List.nil_append, z4] at h0
    have h1 : 32 * (l.length : Int) ≤ 281474976710656 := by omega
    have h2 : (l.length : Int) ≤ 35184372088832 := by omega
    simp [d62, h1, h2, h0]
  have hsn := snap_row (h := [DObj.arr 39 4 (l.map encIns) 0]) (i := 0) (t := 0) (k := 5) rfl (Nat.zero_le _) (fun e he => by
    obtain ⟨x, _, rfl⟩ := List.mem_map.1 he
    rfl)
  rw [List.length_map] at hsn
  rw [hrun, outS, hsn]
  rfl

def fresh (p : Proc) : Proc := (0, p.2)
theorem s41 (p : Proc) (ht : p.1 ≠ 2) (hb : p.2.length ≤ 1048576) (h : Heap) : callD (R E) 41 [.agg (encProc p)] .pure h = some (.agg (encProc (fresh p)), h) := by
  rw [outC (p_ 41) e41 (by simp [encProc, encIns_ok, ht]) (Nat.le_of_ble_eq_true rfl)]
  simp [d41, encProc, fresh, s62 p.2 p.1 ht hb, encIns_ok]

def encF (p : Proc) : List DV := encProc (fresh p)
theorem l16 (ps : List Proc) (t : Nat) (hc : ∀ p ∈ ps, p.1 ≠ 2 ∧ p.2.length ≤ 1048576) (hb : ps.length < 4611686018427387904) (K : List KI) : ∀ (m n : Nat) (A : List (List DV)), m + n = ps.length → A.length = n →
    runK (R E) [(2, none)] (.code (.loop l16_0) :: .blk 0 :: K) (mk 23 [(0, .ro t (ps.map encProc)), (3, .nsl 0 0 ps.length), (4, .int .i64 n)]) [.arr 37 1 (A ++ List.replicate m [.ro 2 []]) 0] =
      runK (R E) [(2, none)] K (mk 23 [(3, .nsl 0 0 ps.length)]) [.arr 37 1 (A ++ (ps.map encF).drop n) 0] := by
  intro m
  induction m with
  | zero =>
    intro n A hn hA
    have hn : n = ps.length := by omega
    subst hn
    have hd : (ps.map encF).drop ps.length = [] := List.drop_eq_nil_of_le (by simp)
    rw [runK_loop, hd]
    simp
  | succ m ih =>
    intro n A hn hA
    have hlt : n < ps.length := by omega
    have hget : ps[n]? = some ps[n] := List.getElem?_eq_getElem hlt
    have hget' : (ps.map encF)[n]? = some (encF ps[n]) := by rw [List.getElem?_map, hget]; rfl
    obtain ⟨hc1, hc2⟩ := hc _ (List.getElem_mem hlt)
    rw [runK_loop, drop_get hget', List.replicate_succ]
    have hN : ps.length ≤ A.length + (m + 1) := by omega
    generalize hB : List.replicate m [DV.ro 2 []] = B
    have hBl : B.length = m := by rw [← hB]; simp
    have hg := get_mid (A := A) (B := B) (z := [DV.ro 2 []]) hA
    have hs := fun y => set_mid (A := A) (B := B) (z := [DV.ro 2 []]) (y := y) hA
    have h41 := s41 ps[n] hc1 hc2
    generalize hR : runK (R E) [(2, none)] K _ _ = Rt
    simp only [encProc] at h41
    simp [hget, hlt, encProc, h41, hg, hs, hN, hBl, wrapN (show n < 4611686018427387904 by omega)]
    rw [← hR, ← hB]
    have := ih (n + 1) (A ++ [encF ps[n]]) (by omega) (by simp [hA])
    simpa [encF, encProc] using this

theorem s16 (ps : List Proc) (t : Nat) (ht : t ≠ 2) (hc : ∀ p ∈ ps, p.1 ≠ 2 ∧ p.2.length ≤ 1048576) (hb : ps.length ≤ 1048576) (h : Heap) : callD (R E) 16 [.ro t (ps.map encProc)] .pure h = some (.ro 0 ((ps.map fresh).map encProc), h) := by
  rw [outC (p_ 16) e16 (by simp [encProc_ok, ht]) (Nat.le_of_ble_eq_true rfl)]
  have hrun : runK (R E) d16.res [.code d16.body] (mk d16.nt (idxJ 0 [.ro t (ps.map encProc)])) [] = some (.nsl 0 0 ps.length, [.arr 37 1 (ps.map encF) 0]) := by
    have h0 := fun K => l16 ps t hc (by omega) K ps.length 0 [] (by omega) rfl
    simp only [Int.natCast_zero, List.drop_zero, List.nil_append] at h0
    have h1 : 24 * (ps.length : Int) ≤ 281474976710656 := by omega
    have h2 : (ps.length : Int) ≤ 35184372088832 := by omega
    simp [d16, h1, h2, h0]
  have hsn := snap_row (h := [DObj.arr 37 1 (ps.map encF) 0]) (i := 0) (t := 0) (k := 5) rfl (Nat.zero_le _) (fun e he => by
    obtain ⟨x, _, rfl⟩ := List.mem_map.1 he
    simp [encF, encProc, fresh, encIns_ok])
  rw [List.length_map] at hsn
  rw [hrun, outS, hsn]
  simp [encF]
