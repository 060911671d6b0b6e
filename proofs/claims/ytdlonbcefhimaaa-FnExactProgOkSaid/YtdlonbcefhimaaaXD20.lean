/- What is proved: frames of which a few slots are known. No condition. -/
import Derived.Test.YtdlonbcefhimaaaXD19
namespace Go.Proofs.Ytdlonbcefhimaaa.XD
open Go Go.RowKit
set_option linter.all false

def lk : List (Nat × DV) → Nat → Option DV
  | [], _ => none
  | x :: a, i => if x.1 = i then some x.2 else lk a i

/-- A frame of n slots: the first that the list tells, else nothing is known. -/
def mk (n : Nat) (a : List (Nat × DV)) : List DV := (List.range n).map fun i => (lk a i).getD .junk

theorem mk_get {n : Nat} {a : List (Nat × DV)} {i : Nat} : (mk n a)[i]? = if i < n then some ((lk a i).getD .junk) else none := by
  unfold mk
  rw [List.getElem?_map]
  split
  · rw [List.getElem?_range (by assumption)]; rfl
  · rw [List.getElem?_eq_none (by simp; omega)]; rfl

theorem mk_set {n : Nat} {a : List (Nat × DV)} {i : Nat} {d : DV} : (mk n a).set i d = mk n ((i, d) :: a) := by
  apply List.ext_getElem?
  intro j
  by_cases hij : i = j
  · subst hij
    rw [mk_get]
    split
    · rename_i h
      rw [List.getElem?_set_self (by simp [mk]; exact h)]
      simp [lk]
    · rename_i h
      rw [List.getElem?_eq_none (by simp [mk]; omega)]
  · rw [List.getElem?_set_ne hij, mk_get, mk_get]
    simp [lk, hij]

theorem mk_put {n : Nat} {a : List (Nat × DV)} {i : Nat} {d : DV} : putD (mk n a) (some i) d = mk n ((i, d) :: a) := mk_set
theorem mk_put0 {n : Nat} {a : List (Nat × DV)} {d : DV} : putD (mk n a) none d = mk n a := Eq.trans rfl rfl

/-- What is known of it. -/
def lkJ (n : Nat) (a : List (Nat × DV)) (i : Nat) : Option DV := if i < n then (match lk a i with
  | some .junk => none
  | r => r) else none

theorem mk_getS {n : Nat} {a : List (Nat × DV)} {i : Nat} : getS (mk n a) i = lkJ n a i := by
  unfold getS lkJ
  rw [mk_get]
  by_cases h : i < n
  · simp only [h, if_true]
    cases hl : lk a i with
    | none => rfl
    | some d => cases d <;> rfl
  · simp only [h, if_false]

def evJ (n : Nat) (a : List (Nat × DV)) : DX → Option DV
  | .t i => lkJ n a i
  | .c d => some d

theorem mk_ev {n : Nat} {a : List (Nat × DV)} {x : DX} : x.ev (mk n a) = evJ n a x := by
  cases x with
  | t i => exact mk_getS
  | c d => rfl

/-- The slots that are kept. -/
def pickJ (a : List (Nat × DV)) : List Nat → List (Nat × DV)
  | [] => []
  | k :: ks => match lk a k with
    | some d => (k, d) :: pickJ a ks
    | none => pickJ a ks

theorem pickJ_lk {a : List (Nat × DV)} {i : Nat} : ∀ {ks : List Nat}, lk (pickJ a ks) i = if ks.contains i then lk a i else none
  | [] => rfl
  | k :: ks => by
    simp only [pickJ, List.contains_cons]
    by_cases h : i = k
    · subst h
      cases hl : lk a i with
      | some d => simp [lk]
      | none =>
        simp only [pickJ_lk, hl]
        simp
    · have hb : (i == k) = false := by simpa using h
      rw [hb, Bool.false_or]
      cases hl : lk a k with
      | some d => simp only [lk]; rw [if_neg (fun e => h e.symm), pickJ_lk]
      | none => simp only; exact pickJ_lk

theorem mk_keep {n : Nat} {a : List (Nat × DV)} {ks : List Nat} : keepS (some ks) (mk n a) = mk n (pickJ a ks) := by
  apply List.ext_getElem?
  intro i
  simp only [keepS, List.getElem?_mapIdx, mk_get, pickJ_lk]
  by_cases h : i < n
  · simp only [h, if_true, Option.map_some]
    split <;> rfl
  · simp only [h, if_false, Option.map_none]

theorem mk_keep0 {n : Nat} {a : List (Nat × DV)} : keepS none (mk n a) = mk n a := Eq.trans rfl rfl

/-- The slots of what came in. -/
def idxJ : Nat → List DV → List (Nat × DV)
  | _, [] => []
  | i, d :: ds => (i, d) :: idxJ (i + 1) ds

theorem idxJ_lk : ∀ {ds : List DV} {b i : Nat}, lk (idxJ b ds) i = if b ≤ i then ds[i - b]? else none
  | [], b, i => by simp [idxJ, lk]
  | d :: ds, b, i => by
    simp only [idxJ, lk]
    by_cases h : b = i
    · subst h; simp
    · rw [if_neg h, idxJ_lk]
      by_cases h2 : b ≤ i
      · rw [if_pos (by omega), if_pos h2]
        obtain ⟨k, hk⟩ : ∃ k, i - b = k + 1 := ⟨i - b - 1, by omega⟩
        rw [hk, List.getElem?_cons_succ]
        congr 1
        omega
      · rw [if_neg (by omega), if_neg h2]

theorem mk_init {n : Nat} {args : List DV} (h : args.length ≤ n) : args ++ List.replicate (n - args.length) .junk = mk n (idxJ 0 args) := by
  apply List.ext_getElem?
  intro i
  rw [mk_get, idxJ_lk]
  simp only [Nat.zero_le, if_true, Nat.sub_zero]
  rcases Nat.lt_or_ge i args.length with hi | hi
  · rw [List.getElem?_append_left hi, if_pos (by omega), List.getElem?_eq_getElem hi]
    rfl
  · rw [List.getElem?_append_right hi, List.getElem?_replicate, List.getElem?_eq_none hi]
    by_cases hn : i < n
    · rw [if_pos (by omega), if_pos hn]; rfl
    · rw [if_neg (by omega), if_neg hn]

/-- A function, from the slots of its arguments. -/
theorem R_mk {E : Env} {f : FuncId} {df : DFun} (hp : E.prim f = none) (hf : E.fn f = some df) {args : List DV} (ha : args.length ≤ df.nt) (h : Heap) : R E f args h = runK (R E) df.res [.code df.body] (mk df.nt (idxJ 0 args)) h := by
  rw [R_K hp hf, mk_init ha]

mutual
/-- No names; a call leaves it as it is. -/
def DV.still : DV → Bool
  | .agg cs => DV.stills cs
  | .tup cs => DV.stills cs
  | .func _ cs => DV.stills cs
  | .iface _ d => DV.still d
  | .ro t es => t != 2 && DV.okss (fun _ => true) (fun _ => false) es
  | .rp _ cs _ => DV.oks (fun _ => true) (fun _ => false) cs
  | .nsl .. | .ptr .. | .map _ => false
  | _ => true
def DV.stills : List DV → Bool
  | [] => true
  | d :: ds => DV.still d && DV.stills ds
end

theorem oks_all {p q : Nat → Bool} : ∀ {ds : List DV}, (∀ d ∈ ds, DV.ok p q d = true) → DV.oks p q ds = true
  | [], _ => rfl
  | d :: ds, h => by simp only [DV.oks, h d (List.mem_cons_self ..), oks_all (fun x hx => h x (List.mem_cons_of_mem _ hx)), Bool.and_self]
theorem okss_all {p q : Nat → Bool} : ∀ {ds : List (List DV)}, (∀ d ∈ ds, DV.oks p q d = true) → DV.okss p q ds = true
  | [], _ => rfl
  | d :: ds, h => by simp only [DV.okss, h d (List.mem_cons_self ..), okss_all (fun x hx => h x (List.mem_cons_of_mem _ hx)), Bool.and_self]

mutual
theorem ok_imp {p q p' q' : Nat → Bool} (hp : ∀ t, p t = true → p' t = true) (hq : ∀ n, q n = true → q' n = true) : ∀ d : DV, DV.ok p q d = true → DV.ok p' q' d = true
  | .agg cs, h => by simp only [DV.ok] at h ⊢; exact oks_imp hp hq cs h
  | .tup cs, h => by simp only [DV.ok] at h ⊢; exact oks_imp hp hq cs h
  | .ro t es, h => by simp only [DV.ok, Bool.and_eq_true] at h ⊢; exact ⟨hp _ h.1, okss_imp hp hq es h.2⟩
  | .rp t cs o, h => by simp only [DV.ok, Bool.and_eq_true] at h ⊢; exact ⟨hp _ h.1, oks_imp hp hq cs h.2⟩
  | .func f cs, h => by simp only [DV.ok] at h ⊢; exact oks_imp hp hq cs h
  | .iface t d, h => by simp only [DV.ok] at h ⊢; exact ok_imp hp hq d h
  | .nsl .., h => by simp only [DV.ok] at h ⊢; exact hq _ h
  | .ptr .., h => by simp only [DV.ok] at h ⊢; exact hq _ h
  | .map _, h => by simp only [DV.ok] at h ⊢; exact hq _ h
  | .bool _, _ => rfl
  | .int .., _ => rfl
  | .str _, _ => rfl
  | .niface, _ => rfl
  | .nilp, _ => rfl
  | .junk, _ => rfl
theorem oks_imp {p q p' q' : Nat → Bool} (hp : ∀ t, p t = true → p' t = true) (hq : ∀ n, q n = true → q' n = true) : ∀ ds : List DV, DV.oks p q ds = true → DV.oks p' q' ds = true
  | [], _ => rfl
  | d :: ds, h => by simp only [DV.oks, Bool.and_eq_true] at h ⊢; exact ⟨ok_imp hp hq d h.1, oks_imp hp hq ds h.2⟩
theorem okss_imp {p q p' q' : Nat → Bool} (hp : ∀ t, p t = true → p' t = true) (hq : ∀ n, q n = true → q' n = true) : ∀ ds : List (List DV), DV.okss p q ds = true → DV.okss p' q' ds = true
  | [], _ => rfl
  | d :: ds, h => by simp only [DV.okss, Bool.and_eq_true] at h ⊢; exact ⟨oks_imp hp hq d h.1, okss_imp hp hq ds h.2⟩
end

theorem mapM_id {α : Type} {f : α → Option α} : ∀ {l : List α}, (∀ x ∈ l, f x = some x) → l.mapM f = some l
  | [], _ => rfl
  | x :: l, h => by
    simp only [List.mapM_cons, h x (List.mem_cons_self ..), mapM_id (fun y hy => h y (List.mem_cons_of_mem _ hy))]
    rfl

mutual
theorem still_ok : ∀ d : DV, d.still = true → DV.ok (fun _ => true) (fun _ => false) d = true
  | .agg cs, h => by simp only [DV.ok]; exact stills_ok cs h
  | .tup cs, h => by simp only [DV.ok]; exact stills_ok cs h
  | .func _ cs, h => by simp only [DV.ok]; exact stills_ok cs h
  | .iface _ d, h => by simp only [DV.ok]; exact still_ok d h
  | .ro t es, h => by simp only [DV.still, Bool.and_eq_true] at h; simp only [DV.ok, Bool.true_and]; exact h.2
  | .rp t cs o, h => by simp only [DV.ok, Bool.true_and]; exact h
  | .nsl .., h => by cases h
  | .ptr .., h => by cases h
  | .map _, h => by cases h
  | .bool _, _ => rfl
  | .int .., _ => rfl
  | .str _, _ => rfl
  | .niface, _ => rfl
  | .nilp, _ => rfl
  | .junk, _ => rfl
theorem stills_ok : ∀ ds : List DV, DV.stills ds = true → DV.oks (fun _ => true) (fun _ => false) ds = true
  | [], _ => rfl
  | d :: ds, h => by simp only [DV.stills, DV.oks, Bool.and_eq_true] at h ⊢; exact ⟨still_ok d h.1, stills_ok ds h.2⟩
end

theorem stills_mem : ∀ {ds : List DV}, DV.stills ds = true → ∀ d ∈ ds, d.still = true
  | [], _, d, h => by cases h
  | e :: ds, h, d, hd => by
    simp only [DV.stills, Bool.and_eq_true] at h
    cases hd with
    | head => exact h.1
    | tail _ hd => exact stills_mem h.2 d hd

theorem snap_still {h : Heap} {t N : Nat} : ∀ (k : Nat) (d : DV), d.still = true → snap h t N k d = some d := by
  have low : ∀ d : DV, d.still = true → (if lowN N d = true then some d.loose else none) = some d := fun d hd => by
    have hl : lowN N d = true := ok_imp (fun _ _ => rfl) (fun _ hq => by cases hq) d (still_ok d hd)
    rw [if_pos hl]
    cases d <;> first | rfl | skip
    rename_i t es
    simp only [DV.still, Bool.and_eq_true, bne_iff_ne, ne_eq] at hd
    simp only [DV.loose]
    rw [if_neg hd.1]
  intro k
  induction k with
  | zero => intro d hd; exact low d hd
  | succ k ih =>
    have list : ∀ cs : List DV, DV.stills cs = true → cs.mapM (snap h t N k) = some cs := fun cs hc => mapM_id (fun x hx => ih x (stills_mem hc x hx))
    intro d hd
    cases d with
    | nsl n i len => cases hd
    | ptr n i off st => cases hd
    | agg cs => simp only [snap]; rw [list cs hd]; rfl
    | tup cs => simp only [snap]; rw [list cs hd]; rfl
    | func f cs => simp only [snap]; rw [list cs hd]; rfl
    | iface ty d => simp only [snap]; rw [ih d hd]; rfl
    | _ => exact low _ hd

/-- A call on what has no names. -/
theorem callD_run {E : Env} {f : FuncId} {df : DFun} (hp : E.prim f = none) (hf : E.fn f = some df) {args : List DV} {h : Heap} (hn : DV.stills args = true) (hl : args.length ≤ df.nt) :
    callD (R E) f args .pure h = (runK (R E) df.res [.code df.body] (mk df.nt (idxJ 0 args)) []).bind fun x => (snap x.2 0 0 6 x.1).map fun r => (r, h) := by
  rw [callD_free (stills_ok _ hn) (mapM_id (fun x hx => snap_still 6 x (stills_mem hn x hx))), R_mk hp hf hl]

theorem runOps_keeps {F : CallF} {j : Nat} : ∀ {l : List (Option Nat × DBody)} {s s' : List DV} {h h' : Heap}, keeps j l = true → runOps F (ud l) s h = some (s', h') → getS s' j = getS s j
  | [], s, s', h, h', _, q => by simp only [ud, List.map_nil, runOps, Option.some.injEq, Prod.mk.injEq] at q; rw [q.1]
  | x :: l, s, s', h, h', hk, q => by
    simp only [keeps, List.all_cons, Bool.and_eq_true] at hk
    simp only [ud, List.map_cons, runOps, stepO, wantedD] at q
    cases hs : opB F s h x.2 with
    | none => rw [hs] at q; cases q
    | some y =>
      obtain ⟨d, h2⟩ := y
      rw [hs] at q
      rw [runOps_keeps (l := l) hk.2 q]
      refine getS_ne (fun i hi => ?_) d
      have := hk.1
      rw [hi] at this
      simpa using this

theorem offs_keeps {j : Nat} : ∀ {l : List (Option Nat × DBody)} {s : List DV}, keeps j l = true → getS (offs s l) j = getS s j
  | [], _, _ => rfl
  | x :: l, s, hk => by
    simp only [keeps, List.all_cons, Bool.and_eq_true] at hk
    simp only [offs]
    rw [offs_keeps hk.2]
    refine getS_ne (fun i hi => ?_) _
    have := hk.1
    rw [hi] at this
    simpa using this

section
variable {F : CallF} {res : List (Nat × Option (Bool × Nat))} {kp : Option (List Nat)} {k : List KI} {s : List DV} {h : Heap}

theorem opsK_app {l r : List DOper} : opsK F res (l ++ r) kp k s h = match runOps F l s h with
    | some (s', h') => opsK F res r kp k s' h'
    | none => none := by
  induction l generalizing s h with
  | nil => rfl
  | cons o l ih =>
    simp only [List.cons_append, opsK, runOps] at ih ⊢
    cases hs : stepO F o s h with
    | none => rfl
    | some x => obtain ⟨s1, h1⟩ := x; exact ih

/-- A pick behind a guard: the guard tells what is picked. -/
theorem kAnd {j m : Nat} {g b : Bool} {dst : Nat} {r : List DOper} {l : List (Option Nat × DBody)} {c : Bool} (hj : getS s j = some (.bool c)) (hk : keeps j l = true) (hg : b = !g) :
    opsK F res (gd j g l ++ ⟨some dst, none, .op (if g = true then .pick (.t j) (.t m) (.c (.bool b)) else .pick (.t j) (.c (.bool b)) (.t m))⟩ :: r) kp k s h =
    if c = g then opsK F res (ud l ++ ⟨some dst, none, .op (.mv (.t m))⟩ :: r) kp k s h else opsK F res r kp k (putD (offs s l) (some dst) (.bool b)) h := by
  subst hg
  rw [kGdB hk hj]
  by_cases hc : c = g
  · subst hc
    rw [if_pos rfl, if_pos rfl, opsK_app, opsK_app]
    cases hr : runOps F (ud l) s h with
    | none => rfl
    | some x =>
      obtain ⟨s1, h1⟩ := x
      have h2 := runOps_keeps hk hr
      rw [hj] at h2
      simp only
      rw [kOp, kOp]
      cases c <;> simp [opB, opD, DX.ev, h2]
  · rw [if_neg hc, if_neg hc, kOp]
    have h2 : getS (offs s l) j = some (.bool c) := by rw [offs_keeps hk, hj]
    cases c <;> cases g <;> first | exact absurd rfl hc | simp [opB, opD, DX.ev, h2]

theorem kAndT {j m : Nat} {dst : Nat} {r : List DOper} {l : List (Option Nat × DBody)} (hk : keeps j l = true) :
    opsK F res (gd j true l ++ ⟨some dst, none, .op (.pick (.t j) (.t m) (.c (.bool false)))⟩ :: r) kp k s h = match getS s j with
    | some (.bool c) => if c = true then opsK F res (ud l ++ ⟨some dst, none, .op (.mv (.t m))⟩ :: r) kp k s h else opsK F res r kp k (putD (offs s l) (some dst) (.bool false)) h
    | _ => opsK F res (gd j true l ++ ⟨some dst, none, .op (.pick (.t j) (.t m) (.c (.bool false)))⟩ :: r) kp k s h := by
  split
  · rename_i c hj; exact kAnd (g := true) hj hk rfl
  · rfl

theorem kOrT {j m : Nat} {dst : Nat} {r : List DOper} {l : List (Option Nat × DBody)} (hk : keeps j l = true) :
    opsK F res (gd j false l ++ ⟨some dst, none, .op (.pick (.t j) (.c (.bool true)) (.t m))⟩ :: r) kp k s h = match getS s j with
    | some (.bool c) => if c = true then opsK F res r kp k (putD (offs s l) (some dst) (.bool true)) h else opsK F res (ud l ++ ⟨some dst, none, .op (.mv (.t m))⟩ :: r) kp k s h
    | _ => opsK F res (gd j false l ++ ⟨some dst, none, .op (.pick (.t j) (.c (.bool true)) (.t m))⟩ :: r) kp k s h := by
  split
  · rename_i c hj
    have := kAnd (F := F) (res := res) (kp := kp) (k := k) (h := h) (m := m) (dst := dst) (r := r) (g := false) (b := true) hj hk rfl
    simp only [Bool.false_eq_true, if_false] at this
    rw [this]
    cases c <;> simp
  · rfl

end

end Go.Proofs.Ytdlonbcefhimaaa.XD
