/- What is proved: the evaluator step by step, one way at a time. No condition. -/
import Derived.Test.YtdlonbcefhimaaaXD20
namespace Go.Proofs.Ytdlonbcefhimaaa.XD
open Go Go.RowKit
set_option linter.all false

section
variable (F : CallF) (res : List (Nat × Option (Bool × Nat)))

/-- A branch, its condition told. -/
noncomputable def brK (o : Option DV) (a b : DCode) (k : List KI) (s : List DV) (h : Heap) : Option (DV × Heap) := match o with
  | some (.bool t) => if t = true then runK F res (.code a :: k) s h else runK F res (.code b :: k) s h
  | _ => none
/-- An operation's result, put down. -/
noncomputable def stK (o : Option (DV × Heap)) (dst : Option Nat) (l : List DOper) (kp : Option (List Nat)) (k : List KI) (s : List DV) : Option (DV × Heap) := match o with
  | some (d, h') => opsK F res l kp k (putD s dst d) h'
  | none => none
/-- Operations behind a guard. -/
noncomputable def gdK (o : Option DV) (j : Nat) (g : Bool) (l : List (Option Nat × DBody)) (r : List DOper) (kp : Option (List Nat)) (k : List KI) (s : List DV) (h : Heap) : Option (DV × Heap) := match o with
  | some (.bool c) => if c = g then opsK F res (ud l ++ r) kp k s h else opsK F res r kp k (offs s l) h
  | some _ => opsK F res r kp k (offs s l) h
  | none => opsK F res (gd j g l ++ r) kp k s h
noncomputable def anK (o : Option DV) (j m : Nat) (g : Bool) (dst : Nat) (l : List (Option Nat × DBody)) (r : List DOper) (kp : Option (List Nat)) (k : List KI) (s : List DV) (h : Heap) : Option (DV × Heap) := match o with
  | some (.bool c) => if c = g then opsK F res (ud l ++ ⟨some dst, none, .op (.mv (.t m))⟩ :: r) kp k s h else opsK F res r kp k (putD (offs s l) (some dst) (.bool (!g))) h
  | _ => opsK F res (gd j g l ++ ⟨some dst, none, .op (if g = true then .pick (.t j) (.t m) (.c (.bool (!g))) else .pick (.t j) (.c (.bool (!g))) (.t m))⟩ :: r) kp k s h
end

section
variable {F : CallF} {res : List (Nat × Option (Bool × Nat))} {kp : Option (List Nat)} {k : List KI} {s : List DV} {h : Heap}

theorem xCond {x : DX} {a b : DCode} : runK F res (.code (.cond x a b) :: k) s h = brK F res (x.ev s) a b k s h := kCond
theorem brT {a b : DCode} : brK F res (some (.bool true)) a b k s h = runK F res (.code a :: k) s h := Eq.trans rfl rfl
theorem brF {a b : DCode} : brK F res (some (.bool false)) a b k s h = runK F res (.code b :: k) s h := Eq.trans rfl rfl
theorem brI {a b : DCode} {t : Bool} : brK F res (some (.bool t)) a b k s h = if t = true then runK F res (.code a :: k) s h else runK F res (.code b :: k) s h := Eq.trans rfl rfl

theorem xOp {dst : Option Nat} {b : DBody} {l : List DOper} : opsK F res (⟨dst, none, b⟩ :: l) kp k s h = stK F res (opB F s h b) dst l kp k s := kOp
theorem stS {d : DV} {h' : Heap} {dst : Option Nat} {l : List DOper} : stK F res (some (d, h')) dst l kp k s = opsK F res l kp k (putD s dst d) h' := Eq.trans rfl rfl

theorem xGd {j : Nat} {g : Bool} {l : List (Option Nat × DBody)} {r : List DOper} (hk : keeps j l = true) : opsK F res (gd j g l ++ r) kp k s h = gdK F res (getS s j) j g l r kp k s h := kGd hk
theorem gdTT {j : Nat} {l : List (Option Nat × DBody)} {r : List DOper} : gdK F res (some (.bool true)) j true l r kp k s h = opsK F res (ud l ++ r) kp k s h := Eq.trans rfl rfl
theorem gdTF {j : Nat} {l : List (Option Nat × DBody)} {r : List DOper} : gdK F res (some (.bool true)) j false l r kp k s h = opsK F res r kp k (offs s l) h := Eq.trans rfl rfl
theorem gdFT {j : Nat} {l : List (Option Nat × DBody)} {r : List DOper} : gdK F res (some (.bool false)) j true l r kp k s h = opsK F res r kp k (offs s l) h := Eq.trans rfl rfl
theorem gdFF {j : Nat} {l : List (Option Nat × DBody)} {r : List DOper} : gdK F res (some (.bool false)) j false l r kp k s h = opsK F res (ud l ++ r) kp k s h := Eq.trans rfl rfl
theorem gdO {j : Nat} {g : Bool} {vs : List DV} {l : List (Option Nat × DBody)} {r : List DOper} : gdK F res (some (.tup vs)) j g l r kp k s h = opsK F res r kp k (offs s l) h := Eq.trans rfl rfl

theorem xAn {j m : Nat} {dst : Nat} {r : List DOper} {l : List (Option Nat × DBody)} (hk : keeps j l = true) :
    opsK F res (gd j true l ++ ⟨some dst, none, .op (.pick (.t j) (.t m) (.c (.bool false)))⟩ :: r) kp k s h = anK F res (getS s j) j m true dst l r kp k s h := kAndT hk
theorem xOr {j m : Nat} {dst : Nat} {r : List DOper} {l : List (Option Nat × DBody)} (hk : keeps j l = true) :
    opsK F res (gd j false l ++ ⟨some dst, none, .op (.pick (.t j) (.c (.bool true)) (.t m))⟩ :: r) kp k s h = anK F res (getS s j) j m false dst l r kp k s h := by
  rw [kOrT hk]
  unfold anK
  cases hj : getS s j with
  | none => rfl
  | some d =>
    cases d with
    | bool c => cases c <;> rfl
    | _ => rfl
theorem anTT {j m dst : Nat} {l : List (Option Nat × DBody)} {r : List DOper} : anK F res (some (.bool true)) j m true dst l r kp k s h = opsK F res (ud l ++ ⟨some dst, none, .op (.mv (.t m))⟩ :: r) kp k s h := Eq.trans rfl rfl
theorem anFT {j m dst : Nat} {l : List (Option Nat × DBody)} {r : List DOper} : anK F res (some (.bool false)) j m true dst l r kp k s h = opsK F res r kp k (putD (offs s l) (some dst) (.bool false)) h := Eq.trans rfl rfl
theorem anTF {j m dst : Nat} {l : List (Option Nat × DBody)} {r : List DOper} : anK F res (some (.bool true)) j m false dst l r kp k s h = opsK F res r kp k (putD (offs s l) (some dst) (.bool true)) h := Eq.trans rfl rfl
theorem anFF {j m dst : Nat} {l : List (Option Nat × DBody)} {r : List DOper} : anK F res (some (.bool false)) j m false dst l r kp k s h = opsK F res (ud l ++ ⟨some dst, none, .op (.mv (.t m))⟩ :: r) kp k s h := Eq.trans rfl rfl
theorem anIT {j m dst : Nat} {c : Bool} {l : List (Option Nat × DBody)} {r : List DOper} : anK F res (some (.bool c)) j m true dst l r kp k s h = if c = true then opsK F res (ud l ++ ⟨some dst, none, .op (.mv (.t m))⟩ :: r) kp k s h else opsK F res r kp k (putD (offs s l) (some dst) (.bool false)) h := Eq.trans rfl rfl
theorem anIF {j m dst : Nat} {c : Bool} {l : List (Option Nat × DBody)} {r : List DOper} : anK F res (some (.bool c)) j m false dst l r kp k s h = if c = true then opsK F res r kp k (putD (offs s l) (some dst) (.bool true)) h else opsK F res (ud l ++ ⟨some dst, none, .op (.mv (.t m))⟩ :: r) kp k s h := by cases c <;> rfl

end

/-- What a call gives back: its result without names. -/
def outK (h : Heap) (o : Option (DV × Heap)) : Option (DV × Heap) := o.bind fun x => (snap x.2 0 0 6 x.1).map fun r => (r, h)
theorem outS {h h1 : Heap} {d : DV} : outK h (some (d, h1)) = (snap h1 0 0 6 d).map fun r => (r, h) := Eq.trans rfl rfl
theorem outI {h : Heap} {c : Prop} [Decidable c] {a b : Option (DV × Heap)} : outK h (if c then a else b) = if c then outK h a else outK h b := by split <;> rfl
theorem outC {E : Env} {f : FuncId} {df : DFun} (hp : E.prim f = none) (hf : E.fn f = some df) {args : List DV} {h : Heap} (hn : DV.stills args = true) (hl : args.length ≤ df.nt) :
    callD (R E) f args .pure h = outK h (runK (R E) df.res [.code df.body] (mk df.nt (idxJ 0 args)) []) := callD_run hp hf hn hl

/-- A call some of whose arguments have names. -/
theorem outN {E : Env} {f : FuncId} {df : DFun} (hp : E.prim f = none) (hf : E.fn f = some df) {args as : List DV} {h : Heap} {r : DV} (hs : args.mapM (snap h 1 0 6) = some as) (hl : as.length ≤ df.nt)
    (h1 : outK h (runK (R E) df.res [.code df.body] (mk df.nt (idxJ 0 as)) []) = some (r, h)) (hr : noB r = true) : callD (R E) f args .pure h = some (r, h) := by
  simp only [callD, hs, R_mk hp hf hl]
  unfold outK at h1
  cases hx : runK (R E) df.res [.code df.body] (mk df.nt (idxJ 0 as)) [] with
  | none => rw [hx] at h1; cases h1
  | some x =>
    rw [hx] at h1
    obtain ⟨d, h2⟩ := x
    simp only [Option.bind_some] at h1 ⊢
    cases hy : snap h2 0 0 6 d with
    | none => rw [hy] at h1; cases h1
    | some d' =>
      rw [hy] at h1
      simp only [Option.map_some, Option.some.injEq, Prod.mk.injEq, and_true] at h1
      subst h1
      simp [hr]

/-- One of two. -/
def chK (b : Bool) (x y : Option (DV × Heap)) : Option (DV × Heap) := if b = true then x else y
theorem chT {x y : Option (DV × Heap)} : chK true x y = x := Eq.trans rfl rfl
theorem chF {x y : Option (DV × Heap)} : chK false x y = y := Eq.trans rfl rfl
theorem chO {h : Heap} {b : Bool} {x y : Option (DV × Heap)} : outK h (chK b x y) = chK b (outK h x) (outK h y) := by cases b <;> rfl
theorem chB {h : Heap} {b c d : Bool} : chK b (some (.bool c, h)) (some (.bool d, h)) = some (.bool (if b = true then c else d), h) := by cases b <;> rfl

theorem wrapN {n : Nat} (h : n < 4611686018427387904) : IntKind.i64.wrap ((n : Int) + 1) = ((n + 1 : Nat) : Int) := by
  have : (2 : Int) ^ IntKind.i64.bits = 18446744073709551616 := by decide
  have : (2 : Int) ^ (IntKind.i64.bits - 1) = 9223372036854775808 := by decide
  simp [IntKind.wrap, *]; omega
theorem all_drop {α : Type} {f : α → Bool} {l : List α} {n : Nat} {x : α} (h : l[n]? = some x) : (l.drop n).all f = (f x && (l.drop (n + 1)).all f) := by
  obtain ⟨hn, rfl⟩ := List.getElem?_eq_some_iff.1 h
  rw [List.drop_eq_getElem_cons hn]; rfl
theorem beqD (a b : Int) : (a == b) = decide (a = b) := by by_cases h : a = b <;> simp [h]

end Go.Proofs.Ytdlonbcefhimaaa.XD
