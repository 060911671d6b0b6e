/- What is proved: the evaluator step by step, with what is still to be done behind it. No condition. -/
import Derived.Test.YtdlonbcefhimaaaXD18
namespace Go.Proofs.Ytdlonbcefhimaaa.XD
open Go Go.RowKit
set_option linter.all false

/-- What is still to be done. -/
inductive KI where
  | code (c : DCode)
  | blk (id : Nat)
  deriving Inhabited

mutual
noncomputable def runK (F : CallF) (res : List (Nat × Option (Bool × Nat))) : List KI → List DV → Heap → Option (DV × Heap)
  | [], s, h => (resD res s h).map (·, h)
  | .code c :: k, s, h => match execL F c s h with
    | some (.normal, s', h') => runK F res k s' h'
    | some (.exit id, s', h') => exitK F res id k s' h'
    | some (.ret, s', h') => (resD res s' h').map (·, h')
    | none => none
  | .blk _ :: k, s, h => runK F res k s h
noncomputable def exitK (F : CallF) (res : List (Nat × Option (Bool × Nat))) (id : Nat) : List KI → List DV → Heap → Option (DV × Heap)
  | [], _, _ => none
  | .code _ :: k, s, h => exitK F res id k s h
  | .blk i :: k, s, h => if id = i then runK F res k s h else exitK F res id k s h
end

/-- Operations, then what is still to be done. -/
noncomputable def opsK (F : CallF) (res : List (Nat × Option (Bool × Nat))) (l : List DOper) (kp : Option (List Nat)) (k : List KI) (s : List DV) (h : Heap) : Option (DV × Heap) :=
  match runOps F l s h with
  | some (s', h') => runK F res k (keepS kp s') h'
  | none => none

theorem getS_ne {s : List DV} {dst : Option Nat} {i : Nat} (h : ∀ j, dst = some j → j ≠ i) (d : DV) : getS (putD s dst d) i = getS s i := by simp only [getS, putD_ne h]

section
variable {F : CallF} {res : List (Nat × Option (Bool × Nat))} {kp : Option (List Nat)} {k : List KI} {s : List DV} {h : Heap}

theorem runK_nil : runK F res [] s h = (resD res s h).map (·, h) := by rw [runK]
theorem runK_blk {i : Nat} : runK F res (.blk i :: k) s h = runK F res k s h := by rw [runK]
theorem runK_skip {kp : Option (List Nat)} : runK F res (.code (.skip kp) :: k) s h = runK F res k (keepS kp s) h := by rw [runK, execL]
theorem runK_ret : runK F res (.code .ret :: k) s h = (resD res s h).map (·, h) := by rw [runK, execL]
theorem runK_exit {id : Nat} {kp : Option (List Nat)} : runK F res (.code (.exit id kp) :: k) s h = exitK F res id k (keepS kp s) h := by rw [runK, execL]
theorem exitK_code {id : Nat} {c : DCode} : exitK F res id (.code c :: k) s h = exitK F res id k s h := by rw [exitK]
theorem exitK_blk {id i : Nat} : exitK F res id (.blk i :: k) s h = if id = i then runK F res k s h else exitK F res id k s h := by rw [exitK]

theorem runK_reg {d : Bool} {l : List DOper} {kp : Option (List Nat)} : runK F res (.code (.reg d l kp) :: k) s h = opsK F res l kp k s h := by
  rw [runK, execL, opsK]
  cases runOps F l s h with
  | none => rfl
  | some x => rfl

theorem runK_seq {a b : DCode} : runK F res (.code (.seq a b) :: k) s h = runK F res (.code a :: .code b :: k) s h := by
  rw [runK, execL, runK]
  cases execL F a s h with
  | none => rfl
  | some x =>
    obtain ⟨e, s', h'⟩ := x
    cases e with
    | normal => simp only; rw [runK]
    | exit id => simp only; rw [exitK]
    | ret => rfl

theorem runK_block {id : Nat} {c : DCode} : runK F res (.code (.block id c) :: k) s h = runK F res (.code c :: .blk id :: k) s h := by
  rw [runK, execL, runK]
  cases execL F c s h with
  | none => rfl
  | some x =>
    obtain ⟨e, s', h'⟩ := x
    cases e with
    | normal => simp only; rw [runK]
    | exit i =>
      simp only
      rw [exitK]
      split
      · rename_i hi
        split at hi
        · rename_i hid
          rw [if_pos hid]
          injection hi with hi
          injection hi with h1 h2
          injection h2 with h2 h3
          subst h2; subst h3
          rfl
        · injection hi with hi; injection hi with h1 h2; cases h1
      · rename_i hi
        split at hi
        · injection hi with hi; injection hi with h1 h2; cases h1
        · rename_i hid
          rw [if_neg hid]
          injection hi with hi
          injection hi with h1 h2
          injection h2 with h2 h3
          injection h1 with h1
          subst h1; subst h2; subst h3
          rfl
      · rename_i hi
        split at hi
        · injection hi with hi; injection hi with h1 h2; cases h1
        · injection hi with hi; injection hi with h1 h2; cases h1
      · rename_i hi
        split at hi <;> cases hi
    | ret => rfl

theorem runK_cond {x : DX} {a b : DCode} {t : Bool} (hx : x.ev s = some (.bool t)) : runK F res (.code (.cond x a b) :: k) s h = if t = true then runK F res (.code a :: k) s h else runK F res (.code b :: k) s h := by
  rw [runK, execL, hx]
  cases t with
  | true => simp only [if_true]; rw [runK]
  | false => simp only [Bool.false_eq_true, if_false]; rw [runK]

theorem runK_loop {c : DCode} : runK F res (.code (.loop c) :: k) s h = runK F res (.code c :: .code (.loop c) :: k) s h := by
  rw [runK, execL, iterL_eq, runK]
  cases hc : execL F c s h with
  | none => rfl
  | some x =>
    obtain ⟨e, s', h'⟩ := x
    cases e with
    | normal => simp only; rw [runK, execL]
    | exit id => simp only; rw [exitK]
    | ret => rfl

theorem opsK_nil {kp : Option (List Nat)} : opsK F res [] kp k s h = runK F res k (keepS kp s) h := Eq.trans rfl rfl

/-- An operation that is wanted anyhow. -/
theorem opsK_cons {dst : Option Nat} {b : DBody} {l : List DOper} {d : DV} {h' : Heap} (hb : opB F s h b = some (d, h')) : opsK F res (⟨dst, none, b⟩ :: l) kp k s h = opsK F res l kp k (putD s dst d) h' := by
  simp only [opsK, runOps, stepO, wantedD, hb]

theorem opsK_guard {dst : Option Nat} {j : Nat} {g c : Bool} {b : DBody} {l : List DOper} (hj : getS s j = some (.bool c)) :
    opsK F res (⟨dst, some (j, g), b⟩ :: l) kp k s h = if c = g then opsK F res (⟨dst, none, b⟩ :: l) kp k s h else opsK F res l kp k (putD s dst (.tup [])) h := by
  simp only [opsK, runOps, stepO, wantedD, hj]
  cases c <;> cases g <;> simp

theorem opsK_off {dst : Option Nat} {j : Nat} {g : Bool} {b : DBody} {l : List DOper} {vs : List DV} (hj : getS s j = some (.tup vs)) :
    opsK F res (⟨dst, some (j, g), b⟩ :: l) kp k s h = opsK F res l kp k (putD s dst (.tup [])) h := by
  simp only [opsK, runOps, stepO, wantedD, hj]

end

section
variable {F : CallF} {res : List (Nat × Option (Bool × Nat))} {kp : Option (List Nat)} {k : List KI} {s : List DV} {h : Heap}

theorem kCond {x : DX} {a b : DCode} : runK F res (.code (.cond x a b) :: k) s h = match x.ev s with
    | some (.bool t) => if t = true then runK F res (.code a :: k) s h else runK F res (.code b :: k) s h
    | _ => none := by
  split
  · rename_i t hx; exact runK_cond hx
  · rename_i hne
    rw [runK, execL]
    split
    · rename_i hx
      split at hx
      · rename_i t hx'; exact absurd hx' (hne t)
      · cases hx
    · rename_i hx
      split at hx
      · rename_i t hx'; exact absurd hx' (hne t)
      · cases hx
    · rename_i hx
      split at hx
      · rename_i t hx'; exact absurd hx' (hne t)
      · cases hx
    · rfl

theorem kOp {dst : Option Nat} {b : DBody} {l : List DOper} : opsK F res (⟨dst, none, b⟩ :: l) kp k s h = match opB F s h b with
    | some (d, h') => opsK F res l kp k (putD s dst d) h'
    | none => none := by
  simp only [opsK, runOps, stepO, wantedD]
  cases opB F s h b with
  | none => rfl
  | some x => rfl

theorem kGuard {dst : Option Nat} {j : Nat} {g : Bool} {b : DBody} {l : List DOper} : opsK F res (⟨dst, some (j, g), b⟩ :: l) kp k s h = match getS s j with
    | some (.bool c) => if c = g then opsK F res (⟨dst, none, b⟩ :: l) kp k s h else opsK F res l kp k (putD s dst (.tup [])) h
    | some _ => opsK F res l kp k (putD s dst (.tup [])) h
    | none => none := by
  split
  · rename_i c hj; exact opsK_guard hj
  · rename_i d hne hj
    simp only [opsK, runOps, stepO, wantedD, hj]
  · rename_i hj
    simp only [opsK, runOps, stepO, wantedD, hj]

end

/-- Operations of no guard. -/
def ud (l : List (Option Nat × DBody)) : List DOper := l.map fun x => ⟨x.1, none, x.2⟩
/-- What is left of operations that aren't wanted. -/
def offs (s : List DV) : List (Option Nat × DBody) → List DV
  | [] => s
  | x :: l => offs (putD s x.1 (.tup [])) l
def keeps (j : Nat) (l : List (Option Nat × DBody)) : Bool := l.all fun x => match x.1 with | some i => i != j | none => true

section
variable {F : CallF} {res : List (Nat × Option (Bool × Nat))} {kp : Option (List Nat)} {k : List KI} {h : Heap}

theorem kGdB {j : Nat} {g c : Bool} {r : List DOper} : ∀ {l : List (Option Nat × DBody)} {s : List DV} {h : Heap}, keeps j l = true → getS s j = some (.bool c) → opsK F res (gd j g l ++ r) kp k s h = if c = g then opsK F res (ud l ++ r) kp k s h else opsK F res r kp k (offs s l) h
  | [], s, h, _, _ => by simp only [gd, ud, offs, List.map_nil, List.nil_append]; split <;> rfl
  | x :: l, s, h, hk, hj => by
    simp only [keeps, List.all_cons, Bool.and_eq_true] at hk
    have hx : ∀ d, getS (putD s x.1 d) j = some (.bool c) := fun d => by
      rw [← hj]
      refine getS_ne (fun i hi => ?_) d
      have := hk.1
      rw [hi] at this
      simpa using this
    show opsK F res (⟨x.1, some (j, g), x.2⟩ :: (gd j g l ++ r)) kp k s h = _
    rw [kGuard, hj]
    simp only
    by_cases hc : c = g
    · rw [if_pos hc, if_pos hc, kOp]
      show _ = opsK F res (⟨x.1, none, x.2⟩ :: (ud l ++ r)) kp k s h
      rw [kOp]
      cases opB F s h x.2 with
      | none => rfl
      | some y =>
        obtain ⟨d, h'⟩ := y
        simp only
        rw [kGdB hk.2 (hx d), if_pos hc]
    · rw [if_neg hc, if_neg hc, kGdB hk.2 (hx _), if_neg hc]
      rfl

theorem kGdN {j : Nat} {g : Bool} {d : DV} {r : List DOper} (hd : ∀ c, d ≠ .bool c) : ∀ {l : List (Option Nat × DBody)} {s : List DV} {h : Heap}, keeps j l = true → getS s j = some d → opsK F res (gd j g l ++ r) kp k s h = opsK F res r kp k (offs s l) h
  | [], s, h, _, _ => rfl
  | x :: l, s, h, hk, hj => by
    simp only [keeps, List.all_cons, Bool.and_eq_true] at hk
    have hx : getS (putD s x.1 (.tup [])) j = some d := by
      rw [← hj]
      refine getS_ne (fun i hi => ?_) _
      have := hk.1
      rw [hi] at this
      simpa using this
    show opsK F res (⟨x.1, some (j, g), x.2⟩ :: (gd j g l ++ r)) kp k s h = _
    rw [kGuard, hj]
    cases d with
    | bool c => exact absurd rfl (hd c)
    | _ => simp only; rw [kGdN hd hk.2 hx]; rfl

theorem kGd {j : Nat} {g : Bool} {r : List DOper} {l : List (Option Nat × DBody)} {s : List DV} {h : Heap} (hk : keeps j l = true) : opsK F res (gd j g l ++ r) kp k s h = match getS s j with
    | some (.bool c) => if c = g then opsK F res (ud l ++ r) kp k s h else opsK F res r kp k (offs s l) h
    | some _ => opsK F res r kp k (offs s l) h
    | none => opsK F res (gd j g l ++ r) kp k s h := by
  split
  · rename_i c hj; exact kGdB hk hj
  · rename_i d hne hj; exact kGdN (fun c hc => hne c hc) hk hj
  · rfl

theorem kUd {x : Option Nat × DBody} {l : List (Option Nat × DBody)} {r : List DOper} : ud (x :: l) ++ r = ⟨x.1, none, x.2⟩ :: (ud l ++ r) := Eq.trans rfl rfl
theorem kUd0 {r : List DOper} : ud [] ++ r = r := Eq.trans rfl rfl

end

/-- A function, step by step. -/
theorem R_K {E : Env} {f : FuncId} {df : DFun} (hp : E.prim f = none) (hf : E.fn f = some df) (args : List DV) (h : Heap) : R E f args h = runK (R E) df.res [.code df.body] (args ++ List.replicate (df.nt - args.length) .junk) h := by
  rw [R_fn hp hf, bodyL, runK]
  cases execL (R E) df.body (args ++ List.replicate (df.nt - args.length) .junk) h with
  | none => rfl
  | some x =>
    obtain ⟨e, s', h'⟩ := x
    cases e with
    | normal => simp only; rw [runK]
    | exit id => simp only; rw [exitK]
    | ret => rfl

/-- A call on what the arguments hold, they being without names. -/
theorem callD_free {F : CallF} {f : FuncId} {args as : List DV} {h : Heap} (hn : DV.oks (fun _ => true) (fun _ => false) args = true) (hs : args.mapM (snap h 1 0 6) = some as) :
    callD F f args .pure h = (F f as []).bind fun x => (snap x.2 0 0 6 x.1).map fun r => (r, h) := by
  simp only [callD, hs]
  cases F f as [] with
  | none => rfl
  | some x =>
    obtain ⟨r, h1⟩ := x
    simp only [Option.bind_some]
    cases snap h1 0 0 6 r with
    | none => rfl
    | some r' => simp only [hn, Bool.true_or, if_true]; rfl

/-- A call on what the arguments hold, some of them named. -/
theorem callD_named {F : CallF} {f : FuncId} {args as as' : List DV} {r : DV} {h h0 : Heap} (hs : args.mapM (snap h 1 0 6) = some as) (hs' : as.mapM (snap h0 1 0 6) = some as) (hr : noB r = true)
    (hc : callD F f as .pure h0 = some (r, h0)) : callD F f args .pure h = some (r, h) := by
  simp only [callD, hs, hs'] at hc ⊢
  cases hF : F f as [] with
  | none => rw [hF] at hc; cases hc
  | some x =>
    rw [hF] at hc
    obtain ⟨r0, h1⟩ := x
    simp only at hc ⊢
    cases hsn : snap h1 0 0 6 r0 with
    | none => rw [hsn] at hc; cases hc
    | some r' =>
      rw [hsn] at hc
      simp only at hc ⊢
      split at hc
      · injection hc with hc; injection hc with hc _
        subst hc
        simp [hr]
      · cases hc

end Go.Proofs.Ytdlonbcefhimaaa.XD
