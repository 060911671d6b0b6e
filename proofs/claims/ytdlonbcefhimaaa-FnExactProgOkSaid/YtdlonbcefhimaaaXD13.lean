/- What is proved: nothing yet: codes of the plain evaluator, and when one stands for the machine's code. No condition. -/
import Derived.Test.YtdlonbcefhimaaaXD12
namespace Go.Proofs.Ytdlonbcefhimaaa.XD
open Go Go.RowKit
set_option linter.all false

/-- How a call is handed its arguments: as what they hold, or on the same memory. -/
inductive CM where
  | pure
  | shared
  deriving Inhabited, DecidableEq

inductive DCallee where
  | fn (f : FuncId)
  | val (x : DX)
  | inv (x : DX) (tbl : List (TypeId × FuncId))
  deriving Inhabited

inductive DBody where
  | op (d : DOp)
  | call (c : DCallee) (args : List DX) (m : CM)
  deriving Inhabited

structure DOper where
  dst : Option Nat
  guard : Option (Nat × Bool)
  body : DBody
  deriving Inhabited

/-- Operations of one guard. -/
def gd (j : Nat) (g : Bool) (l : List (Option Nat × DBody)) : List DOper := l.map fun x => ⟨x.1, some (j, g), x.2⟩

inductive DCode where
  | skip (kp : Option (List Nat))
  | reg (draw : Bool) (ops : List DOper) (kp : Option (List Nat))
  | seq (a b : DCode)
  | cond (x : DX) (a b : DCode)
  | block (id : Nat) (c : DCode)
  | loop (c : DCode)
  | exit (id : Nat) (kp : Option (List Nat))
  | ret
  deriving Inhabited

inductive DExit where
  | normal
  | exit (id : Nat)
  | ret
  deriving DecidableEq, Inhabited

structure DFun where
  nt : Nat
  res : List (Nat × Option (Bool × Nat))
  body : DCode
  deriving Inhabited

abbrev CallF := FuncId → List DV → Heap → Option (DV × Heap)

structure Env where
  fn : FuncId → Option DFun
  prim : FuncId → Option (List DV → Heap → Option (DV × Heap))

def putD (s : List DV) (dst : Option Nat) (d : DV) : List DV :=
  match dst with
  | none => s
  | some i => s.set i d

/-- Is an operation wanted? (none: not known) -/
def wantedD (s : List DV) : Option (Nat × Bool) → Option Bool
  | none => some true
  | some (j, b) => match getS s j with
    | some (.bool c) => some (c == b)
    | some _ => some false
    | none => none

/-- What is still wanted of a frame. -/
def keepS : Option (List Nat) → List DV → List DV
  | none, s => s
  | some ks, s => s.mapIdx fun i d => if ks.contains i then d else .junk

def lowHeap (N : Nat) (h : Heap) : Bool := h.all fun o => match o with
  | .arr _ _ es _ => DV.okss (fun _ => true) (fun n => decide (n < N)) es
  | _ => true

def callD (F : CallF) (f : FuncId) (args : List DV) (m : CM) (h : Heap) : Option (DV × Heap) :=
  match m with
  | .pure => match args.mapM (snap h 1 0 6) with
    | some as => match F f as [] with
      | some (r, h1) => match snap h1 0 0 6 r with
        | some r' => if DV.oks (fun _ => true) (fun _ => false) args || noB r' then some (r', h) else none
        | none => none
      | none => none
    | none => none
  | .shared => match F f args h with
    | some (r, h1) => match snap h1 0 h.length 6 r with
      | some r' => if lowHeap h.length (h1.take h.length) then some (r', h1.take h.length) else none
      | none => none
    | none => none

def lookT : List (TypeId × FuncId) → TypeId → Option FuncId
  | [], _ => none
  | (t, f) :: l, u => if t = u then some f else lookT l u

def opB (F : CallF) (s : List DV) (h : Heap) : DBody → Option (DV × Heap)
  | .op d => opD s h d
  | .call c args m => match evs s args with
    | none => none
    | some as => match c with
      | .fn f => callD F f as m h
      | .val x => match x.ev s with
        | some (.func f caps) => callD F f (as ++ caps) m h
        | _ => none
      | .inv x tbl => match x.ev s with
        | some (.iface t d) => match lookT tbl t with
          | some f => callD F f (d :: as) m h
          | none => none
        | _ => none

def stepO (F : CallF) (o : DOper) (s : List DV) (h : Heap) : Option (List DV × Heap) :=
  match wantedD s o.guard with
  | none => none
  | some false => some (putD s o.dst (.tup []), h)
  | some true => match opB F s h o.body with
    | some (d, h') => some (putD s o.dst d, h')
    | none => none

def runOps (F : CallF) : List DOper → List DV → Heap → Option (List DV × Heap)
  | [], s, h => some (s, h)
  | o :: l, s, h => match stepO F o s h with
    | some (s', h') => runOps F l s' h'
    | none => none

def iter (f : List DV → Heap → Option (DExit × List DV × Heap)) : Nat → List DV → Heap → Option (DExit × List DV × Heap)
  | 0, _, _ => none
  | k + 1, s, h => match f s h with
    | some (.normal, s', h') => iter f k s' h'
    | r => r

def execW (F : CallF) (n : Nat) : DCode → List DV → Heap → Option (DExit × List DV × Heap)
  | .skip kp, s, h => some (.normal, keepS kp s, h)
  | .reg _ ops kp, s, h => match runOps F ops s h with
    | some (s', h') => some (.normal, keepS kp s', h')
    | none => none
  | .seq a b, s, h => match execW F n a s h with
    | some (.normal, s', h') => execW F n b s' h'
    | r => r
  | .cond x a b, s, h => match x.ev s with
    | some (.bool t) => if t then execW F n a s h else execW F n b s h
    | _ => none
  | .block id c, s, h => match execW F n c s h with
    | some (.exit i, s', h') => if i = id then some (.normal, s', h') else some (.exit i, s', h')
    | r => r
  | .loop c, s, h => iter (execW F n c) n s h
  | .exit id kp, s, h => some (.exit id, keepS kp s, h)
  | .ret, s, h => some (.ret, s, h)

/-- A result: a slot's value, or what lies where it points. -/
def resV (s : List DV) (h : Heap) : Nat × Option (Bool × Nat) → Option DV
  | (t, none) => getS s t
  | (t, some (agg, sz)) => match getS s t with
    | some (.ptr n i off stamp) => match elemAt h n i stamp with
      | some (_, cs) => partD agg sz cs off
      | none => none
    | _ => none

def slots (s : List DV) (h : Heap) : List (Nat × Option (Bool × Nat)) → Option (List DV)
  | [] => some []
  | i :: l => match resV s h i, slots s h l with
    | some d, some ds => some (d :: ds)
    | _, _ => none

def resD (res : List (Nat × Option (Bool × Nat))) (s : List DV) (h : Heap) : Option DV :=
  match slots s h res with
  | some [d] => some d
  | some ds => some (.tup ds)
  | none => none

def run (E : Env) : Nat → CallF
  | 0, _, _, _ => none
  | n + 1, f, args, h => match E.prim f with
    | some p => p args h
    | none => match E.fn f with
      | none => none
      | some df => match execW (run E n) n df.body (args ++ List.replicate (df.nt - args.length) .junk) h with
        | some (.normal, s', h') => (resD df.res s' h').map (·, h')
        | some (.ret, s', h') => (resD df.res s' h').map (·, h')
        | _ => none

/-! ## When a code of the evaluator stands for the machine's -/

def okTbl (P : Program) (name : String) (tbl : List (TypeId × FuncId)) : Bool := tbl.all fun (t, f) =>
  match P.info? t with
  | some i => (match i.methods.find? (·.name == name) with
    | some m => m.path.isEmpty && (match m.func with | some (g, pr) => g == f && !pr | none => false)
    | none => false) && (match P.underlying t with | some (.pointer _) | none => false | _ => true)
  | none => false

def okBody (P : Program) (o : Op) : DBody → Bool
  | .op d => okOp P o d
  | .call c args _ => match o with
    | .call cc => okXs cc.args.toList args && (match cc.callee, c with
      | .value (.func f), .fn g => f == g
      | .value x, .val y => okX x y
      | .invoke x name, .inv y tbl => okX x y && okTbl P name tbl
      | _, _ => false)
    | _ => false

def okGuard (ops : Array Oper) : Option (Nat × Bool) → Option (Nat × Bool) → Bool
  | none, none => true
  | some (j, b), some (t, b') => b == b' && (ops[j]?).bind (·.dst) == some t
  | _, _ => false

def okOper (P : Program) (ops : Array Oper) (o : Oper) (d : DOper) : Bool :=
  o.dst == d.dst && okGuard ops o.guard d.guard && okBody P o.op d.body

def okOpers (P : Program) (ops : Array Oper) : List Oper → List DOper → Bool
  | [], [] => true
  | o :: os, d :: ds => okOper P ops o d && okOpers P ops os ds
  | _, _ => false

/-! ### what may be done in another order -/

def DX.slot : DX → List Nat
  | .t i => [i]
  | .c _ => []

def oslot : Option DX → List Nat
  | some x => x.slot
  | none => []

def DOp.reads : DOp → List Nat
  | .mv x | .box _ _ x | .load _ _ x | .nilck x | .eqn _ x | .not x | .neg x | .conv _ x | .mkif _ x | .mks _ _ _ x | .fad _ x | .fld _ _ _ x | .tas _ _ _ x | .ext x _ | .len x | .slen x => x.slot
  | .pick a b c => a.slot ++ (b.slot ++ c.slot)
  | .new _ _ => []
  | .build _ ps => ps.flatMap fun p => p.2.2.slot
  | .lits _ _ _ _ ps => ps.flatMap fun p => p.2.slot
  | .store _ x y | .bin _ x y | .beq _ x y | .eqs _ _ x y | .iad _ x y | .idx x y | .app _ _ _ x y => x.slot ++ y.slot
  | .mkfn _ xs => xs.flatMap DX.slot
  | .slc _ x lo hi | .sstr x lo hi => x.slot ++ (oslot lo ++ oslot hi)

def DCallee.reads : DCallee → List Nat
  | .fn _ => []
  | .val x => x.slot
  | .inv x _ => x.slot

def DBody.reads : DBody → List Nat
  | .op d => d.reads
  | .call c args _ => c.reads ++ args.flatMap DX.slot

def DOper.reads (o : DOper) : List Nat := (match o.guard with | some (j, _) => [j] | none => []) ++ o.body.reads

/-- Memory has no part in it. -/
def DOp.free : DOp → Bool
  | .mv _ | .pick .. | .build .. | .nilck _ | .bin .. | .beq .. | .eqs .. | .eqn .. | .not _ | .neg _ | .conv .. | .mkif .. | .mkfn .. | .sstr .. | .fad .. | .fld .. | .idx .. | .tas .. | .ext .. | .slen _ | .len _ => true
  | .lits named .. => !named
  | _ => false

def DBody.free : DBody → Bool
  | .op d => d.free
  | .call .. => false

/-- It leaves memory as it is. -/
def DOp.still : DOp → Bool
  | .load .. | .slc .. | .iad .. => true
  | d => d.free

def DBody.still : DBody → Bool
  | .op d => d.still
  | .call _ _ m => m == .pure

/-- Two operations of which either may come first. -/
def swapO (a b : DOper) : Bool :=
  (match a.dst with | some i => !b.reads.contains i && b.dst != some i | none => true) &&
  (match b.dst with | some i => !a.reads.contains i | none => true) &&
  (a.body.free || b.body.free || (a.body.still && b.body.still))

/-- For each operation: which come ahead of it. -/
def masks : List Oper → List Nat → List Nat
  | [], acc => acc
  | o :: os, acc => masks os (acc ++ [o.after.toList.foldl (fun s e => if Region.binds .any e && decide (e.on < acc.length) then s ||| 2 ^ e.on ||| acc.getD e.on 0 else s) 0])

def okPairs (ms : List Nat) (ds : List DOper) : Bool :=
  (List.range ds.length).all fun i => (List.range i).all fun k => (ms.getD i 0).testBit k || swapO (ds.getD k default) (ds.getD i default)

/-- Each operation waits for earlier ones alone. -/
def okBack : List Oper → Nat → Bool
  | [], _ => true
  | o :: os, i => o.after.toList.all (fun e => !Region.binds .any e || decide (e.on < i)) && okBack os (i + 1)

def okDraw (ops : Array Oper) (ds : List DOper) : Bool := okBack ops.toList 0 && okPairs (masks ops.toList []) ds

def okCode (P : Program) : Code → DCode → Bool
  | .skip, .skip _ => true
  | .region _ ops draw, .reg draw' ds _ => draw == draw' && okOpers P ops ops.toList ds && (!draw || okDraw ops ds)
  | .seq a b, .seq a' b' => okCode P a a' && okCode P b b'
  | .cond x a b, .cond x' a' b' => okX x x' && okCode P a a' && okCode P b b'
  | .block id c, .block id' c' => id == id' && okCode P c c'
  | .loop c, .loop c' => okCode P c c'
  | .exit id, .exit id' _ => id == id'
  | .ret, .ret => true
  | _, _ => false

def okRes (P : Program) : List ResultVar → List (Nat × Option (Bool × Nat)) → Bool
  | [], [] => true
  | .tmp t :: rs, (u, none) :: us => t == u && okRes P rs us
  | .cell t ty :: rs, (u, some (agg, sz)) :: us => t == u && aggP P ty == some agg && sizeP P ty == some sz && okRes P rs us
  | _, _ => false

/-- A function of the evaluator stands for one of the program's. -/
def okFun (P : Program) (fn : Func) (d : DFun) : Bool :=
  match fn.body with
  | some c => fn.name != "runtime.NumGoroutine" && fn.ntmps == d.nt && okRes P fn.results.toList d.res && okCode P c d.body
  | none => false

end Go.Proofs.Ytdlonbcefhimaaa.XD
