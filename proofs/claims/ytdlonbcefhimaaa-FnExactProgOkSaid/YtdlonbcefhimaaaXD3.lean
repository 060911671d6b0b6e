/- What is proved: nothing yet: the operations of the plain evaluator, and when one stands for an operation of the machine's code. No condition. -/
import Derived.Test.YtdlonbcefhimaaaXD2
namespace Go.Proofs.Ytdlonbcefhimaaa.XD
open Go Go.RowKit
set_option linter.all false

/-- An operand. -/
inductive DX where
  | t (i : Nat)
  | c (d : DV)
  deriving Inhabited

def DV.isJ : DV → Bool
  | .junk => true
  | _ => false
/-- A slot's value, if it is known. -/
def getS (s : List DV) (i : Nat) : Option DV := match s[i]? with
  | some d => if d.isJ then none else some d
  | none => none
theorem getS_some {s : List DV} {i : Nat} {d : DV} (h : getS s i = some d) : s[i]? = some d ∧ d.isJ = false := by
  unfold getS at h
  split at h
  · rename_i d0 hd
    split at h
    · cases h
    · rename_i hj; injection h with h; subst h; exact ⟨hd, by simpa using hj⟩
  · cases h
def DX.ev (s : List DV) : DX → Option DV
  | .t i => getS s i
  | .c d => some d

def DV.cells : DV → List DV
  | .agg cs => cs
  | d => [d]

def splice {α : Type} (z : List α) (off : Nat) (cs : List α) : List α := z.take off ++ (cs ++ z.drop (off + cs.length))

inductive DOp where
  | mv (x : DX)
  | pick (c a b : DX)
  | new (e : TypeId) (z : List DV)
  | box (e : TypeId) (sz : Nat) (x : DX)
  | build (z : List DV) (ps : List (Nat × Nat × DX))
  | lits (named : Bool) (e : TypeId) (z : List DV) (n : Nat) (ps : List (Nat × DX))
  | load (agg : Bool) (sz : Nat) (p : DX)
  | store (sz : Nat) (p x : DX)
  | nilck (x : DX)
  | bin (op : BinOp) (x y : DX)
  | beq (neg : Bool) (x y : DX)
  | eqs (neg : Bool) (ks : List Nat) (x y : DX)
  | eqn (neg : Bool) (x : DX)
  | not (x : DX)
  | neg (x : DX)
  | conv (k : IntKind) (x : DX)
  | mkif (t : TypeId) (x : DX)
  | mkfn (f : FuncId) (caps : List DX)
  | mks (e : TypeId) (z : List DV) (bytes : Nat) (x : DX)
  | slc (st : Nat) (x : DX) (lo hi : Option DX)
  | sstr (x : DX) (lo hi : Option DX)
  | fad (off : Nat) (x : DX)
  | fld (agg : Bool) (off sz : Nat) (x : DX)
  | iad (st : Nat) (x i : DX)
  | idx (x i : DX)
  | tas (t : TypeId) (z : DV) (ok : Bool) (x : DX)
  | ext (x : DX) (i : Nat)
  | len (x : DX)
  | slen (x : DX)
  | app (e : TypeId) (st bytes : Nat) (x y : DX)
  deriving Inhabited

/-- A part of an aggregate. -/
def partD (agg : Bool) (sz : Nat) (cs : List DV) (off : Nat) : Option DV :=
  if agg then (if off + sz ≤ cs.length then some (.agg ((cs.drop off).take sz)) else none) else cs[off]?

/-- The element at a name's place, if what was read is still the row's own. -/
def elemAt (h : Heap) (n i stamp : Nat) : Option (Nat × List DV) :=
  match h[n]? with
  | some (.arr _ st es m) => if m ≤ stamp then (es[i]?).map (st, ·) else none
  | _ => none

def evs (s : List DV) : List DX → Option (List DV)
  | [] => some []
  | x :: xs => match x.ev s, evs s xs with
    | some d, some ds => some (d :: ds)
    | _, _ => none

def fillD (s : List DV) : List (Nat × Nat × DX) → List DV → Option (List DV)
  | [], z => some z
  | (off, sz, x) :: ps, z => match x.ev s with
    | some d => if d.cells.length = sz ∧ off + sz ≤ z.length ∧ (d.cells.all DV.one) = true then fillD s ps (splice z off d.cells) else none
    | none => none

def fillE (s : List DV) (st : Nat) : List (Nat × DX) → List (List DV) → Option (List (List DV))
  | [], es => some es
  | (i, x) :: ps, es => match x.ev s with
    | some d => if d.cells.length = st ∧ i < es.length ∧ (d.cells.all DV.one) = true then fillE s st ps (es.set i d.cells) else none
    | none => none

/-- A bound of a slice expression. -/
def bound (s : List DV) (x : Option DX) (dflt top : Nat) : Option Nat :=
  match x with
  | none => some dflt
  | some x => match x.ev s with
    | some (.int _ n) => if 0 ≤ n ∧ n ≤ (top : Int) then some n.toNat else none
    | _ => none

/-- Is an element of so many cells? -/
def headLen (st : Nat) : List (List DV) → Bool
  | [] => true
  | e :: _ => e.length == st

/-- The elements of a slice. -/
def elems (h : Heap) : DV → Option (List (List DV))
  | .ro _ es => some es
  | .nsl n i len => match h[n]? with
    | some (.arr _ _ es m) => if m ≤ i + len ∧ i + len ≤ es.length then some ((es.drop i).take len) else none
    | _ => none
  | _ => none

def intD (op : BinOp) (k : IntKind) (a b : Int) : Option DV :=
  match op with
  | .add => some (.int k (k.wrap (a + b)))
  | .sub => some (.int k (k.wrap (a - b)))
  | .mul => some (.int k (k.wrap (a * b)))
  | .quo => if b = 0 then none else some (.int k (k.wrap (a.tdiv b)))
  | .rem => if b = 0 then none else some (.int k (a.tmod b))
  | .eql => some (.bool (a == b))
  | .neq => some (.bool (a != b))
  | .lss => some (.bool (decide (a < b)))
  | .leq => some (.bool (decide (a ≤ b)))
  | .gtr => some (.bool (decide (a > b)))
  | .geq => some (.bool (decide (a ≥ b)))
  | .xor => some (.int k (Go.bits .xor k a b))
  | .and => some (.int k (Go.bits .and k a b))
  | .or => some (.int k (Go.bits .or k a b))
  | _ => none

def binD (op : BinOp) : DV → DV → Option DV
  | .int k a, .int k' b => if k = k' then intD op k a b else none
  | .str a, .str b => match op with
    | .add => if a.size + b.size ≤ 9223372036854775807 then some (.str (a ++ b)) else none
    | .eql => some (.bool (a.toList == b.toList))
    | .neq => some (.bool (!(a.toList == b.toList)))
    | _ => none
  | _, _ => none

/-- Two cells of plain kinds, asked whether they are the same. -/
def sameC : Nat → DV → DV → Option Bool
  | 0, .int k a, .int k' b => if k = k' then some (a == b) else none
  | 1, .bool a, .bool b => some (a == b)
  | 2, .str a, .str b => some (a.toList == b.toList)
  | _, _, _ => none

def sameCs : List Nat → List DV → List DV → Option Bool
  | [], [], [] => some true
  | k :: ks, a :: as, b :: bs => match sameC k a b, sameCs ks as bs with
    | some x, some y => some (x && y)
    | _, _ => none
  | _, _, _ => none

def opD (s : List DV) (h : Heap) : DOp → Option (DV × Heap)
  | .mv x => (x.ev s).map (·, h)
  | .pick c a b => match c.ev s with
    | some (.bool t) => ((if t then a else b).ev s).map (·, h)
    | _ => none
  | .new e z => if z.length = 0 then none else some (.ptr h.length 0 0 1, h ++ [.arr e z.length [z] 0])
  | .box e sz x => match x.ev s with
    | some d => if d.cells.length = sz ∧ sz ≠ 0 ∧ (d.cells.all DV.one) = true then some (.ptr h.length 0 0 1, h ++ [.arr e sz [d.cells] 0]) else none
    | none => none
  | .build z ps => (fillD s ps z).map (fun cs => (.agg cs, h))
  | .lits named e z n ps => match fillE s z.length ps (List.replicate n z) with
    | some es => if named then some (.nsl h.length 0 n, h ++ [.arr e z.length es 0]) else some (.ro 2 es, h)
    | none => none
  | .load agg sz p => match p.ev s with
    | some (.ptr n i off stamp) => match elemAt h n i stamp with
      | some (_, cs) => (partD agg sz cs off).map (·, h)
      | none => none
    | some (.rp _ cs off) => (partD agg sz cs off).map (·, h)
    | _ => none
  | .store sz p x => match p.ev s, x.ev s with
    | some (.ptr n i off stamp), some d => match h[n]? with
      | some (.arr e st es m) => match es[i]? with
        | some cs => if m ≤ stamp ∧ d.cells.length = sz ∧ off + sz ≤ cs.length ∧ (d.cells.all DV.one) = true then some (.tup [], h.set n (.arr e st (es.set i (splice cs off d.cells)) m)) else none
        | none => none
      | _ => none
    | _, _ => none
  | .nilck x => match x.ev s with
    | some (.ptr n i o st) => some (.ptr n i o st, h)
    | some (.rp t cs o) => some (.rp t cs o, h)
    | some (.func f cs) => some (.func f cs, h)
    | some (.iface t d) => some (.iface t d, h)
    | _ => none
  | .bin op x y => match x.ev s, y.ev s with
    | some a, some b => (binD op a b).map (·, h)
    | _, _ => none
  | .beq neg x y => match x.ev s, y.ev s with
    | some (.bool a), some (.bool b) => some (.bool (if neg then !(a == b) else (a == b)), h)
    | _, _ => none
  | .eqs neg ks x y => match x.ev s, y.ev s with
    | some (.agg a), some (.agg b) => (sameCs ks a b).map (fun t => (.bool (if neg then !t else t), h))
    | _, _ => none
  | .eqn neg x => match x.ev s with
    | some .niface => some (.bool (!neg), h)
    | some (.iface _ _) => some (.bool neg, h)
    | _ => none
  | .not x => match x.ev s with
    | some (.bool b) => some (.bool (!b), h)
    | _ => none
  | .neg x => match x.ev s with
    | some (.int k n) => some (.int k (k.wrap (0 - n)), h)
    | _ => none
  | .conv k x => match x.ev s with
    | some (.int _ n) => some (.int k (k.wrap n), h)
    | _ => none
  | .mkif t x => (x.ev s).map (fun d => (.iface t d, h))
  | .mkfn f caps => (evs s caps).map (fun ds => (.func f ds, h))
  | .mks e z bytes x => match x.ev s with
    | some (.int _ n) => if 0 ≤ n ∧ bytes * n ≤ 281474976710656 ∧ n ≤ 35184372088832 then some (.nsl h.length 0 n.toNat, h ++ [.arr e z.length (List.replicate n.toNat z) 0]) else none
    | _ => none
  | .slc st x lo hi => match x.ev s with
    | some (.nsl n i len) => match h[n]? with
      | some (.arr _ st' es m) => match bound s hi len len with
        | some b => match bound s lo 0 b with
          | some a => if st' = st ∧ m ≤ i + len ∧ i + len ≤ es.length then some (.nsl n (i + a) (b - a), h) else none
          | none => none
        | none => none
      | _ => none
    | some (.ro t es) => match bound s hi es.length es.length with
      | some b => match bound s lo 0 b with
        | some a => if headLen st es = true then some (.ro (if t = 2 ∧ b ≠ es.length then 0 else t) ((es.drop a).take (b - a)), h) else none
        | none => none
      | none => none
    | _ => none
  | .sstr x lo hi => match x.ev s with
    | some (.str t) => match bound s hi t.size t.size with
      | some b => match bound s lo 0 b with
        | some a => some (.str (t.extract a b), h)
        | none => none
      | none => none
    | _ => none
  | .fad off x => match x.ev s with
    | some (.ptr n i o st) => some (.ptr n i (o + off) st, h)
    | some (.rp t cs o) => some (.rp t cs (o + off), h)
    | _ => none
  | .fld agg off sz x => match x.ev s with
    | some (.agg cs) => (partD agg sz cs off).map (·, h)
    | _ => none
  | .iad st x i => match x.ev s, i.ev s with
    | some (.nsl n j len), some (.int _ k) => match h[n]? with
      | some (.arr _ st' es m) => if st' = st ∧ m ≤ j + len ∧ j + len ≤ es.length ∧ 0 ≤ k ∧ k < (len : Int) then some (.ptr n (j + k.toNat) 0 (j + len), h) else none
      | _ => none
    | some (.ro t es), some (.int _ k) => if 0 ≤ k then (match es[k.toNat]? with
      | some cs => if cs.length = st then some (.rp t cs 0, h) else none
      | none => none) else none
    | _, _ => none
  | .idx x i => match x.ev s, i.ev s with
    | some (.str t), some (.int _ k) => if 0 ≤ k then (t[k.toNat]?).map (fun b => (.int .u8 b.toNat, h)) else none
    | _, _ => none
  | .tas t z ok x => match x.ev s with
    | some (.iface t' d) => if t = t' then some (if ok then .tup [d, .bool true] else d, h) else if ok then some (.tup [z, .bool false], h) else none
    | some .niface => if ok then some (.tup [z, .bool false], h) else none
    | _ => none
  | .ext x i => match x.ev s with
    | some (.tup vs) => (vs[i]?).map (·, h)
    | _ => none
  | .len x => match x.ev s with
    | some (.ro _ es) => some (.int .i64 es.length, h)
    | some (.nsl _ _ len) => some (.int .i64 len, h)
    | _ => none
  | .slen x => match x.ev s with
    | some (.str t) => some (.int .i64 t.size, h)
    | _ => none
  | .app e st bytes x y => match y.ev s with
    | none => none
    | some y => match elems h y with
      | none => none
      | some ys => match x.ev s with
        | some (.nsl n i len) => match h[n]? with
          | some (.arr e' st' es m) =>
            if i = 0 ∧ len = es.length ∧ e' = e ∧ st' = st ∧ m ≤ len ∧ (len + ys.length) * bytes ≤ 140737488355328 ∧ len + ys.length ≤ 35184372088832 ∧ ys.all (fun e => e.length == st) then
              if ys.length = 0 then some (.nsl n i len, h) else some (.nsl n 0 (len + ys.length), h.set n (.arr e st (es ++ ys) (len + ys.length)))
            else none
          | _ => none
        | some (.ro 2 es) =>
          if (es.length + ys.length) * bytes ≤ 140737488355328 ∧ es.length + ys.length ≤ 35184372088832 ∧ ys.all (fun e => e.length == st) ∧ es.all (fun e => e.length == st) then
            if ys.length = 0 then some (.ro 2 es, h) else some (.nsl h.length 0 (es.length + ys.length), h ++ [.arr e st (es ++ ys) 0])
          else none
        | _ => none

/-! ## When an operation of the evaluator stands for one of the machine's -/

def okC : Value → DV → Bool
  | .int k n, .int k' n' => k == k' && n == n'
  | .bool b, .bool b' => b == b'
  | .string s, .str s' => decide (s = s')
  | .slice none 0 0, .ro 2 [] => true
  | .nilIface, .niface => true
  | .pointer none, .nilp => true
  | _, _ => false

def okCs : List Value → List DV → Bool
  | [], [] => true
  | v :: vs, d :: ds => okC v d && okCs vs ds
  | _, _ => false

def okX : Operand → DX → Bool
  | .tmp i, .t j => i == j
  | .const v, .c d => okC v d
  | .func f, .c (.func g []) => f == g
  | _, _ => false

def okO : Option Operand → Option DX → Bool
  | none, none => true
  | some x, some y => okX x y
  | _, _ => false

def okXs : List Operand → List DX → Bool
  | [], [] => true
  | x :: xs, y :: ys => okX x y && okXs xs ys
  | _, _ => false

/-- Is a value of this type told by several cells? -/
def aggP (P : Program) (t : TypeId) : Option Bool :=
  match P.underlying t with
  | some (.struct _) | some (.array _ _) => some true
  | some _ => some false
  | none => none

def sizeP (P : Program) (t : TypeId) : Option Nat := (P.info? t).map (·.size)

def zeroP (P : Program) (t : TypeId) : Option (List Value) := ((P.info? t).bind (·.zero)).map (·.cells.toList)

def okZs (P : Program) (t : TypeId) (z : List DV) : Bool :=
  match zeroP P t with
  | some vs => okCs vs z
  | none => false

def okZ (P : Program) (t : TypeId) (z : DV) : Bool :=
  match (P.info? t).bind (·.zero), z with
  | some (.agg vs), .agg ds => okCs vs.toList ds
  | some v, d => okC v d
  | none, _ => false

/-- The element of a slice's type: its cells, its bytes. -/
def elemP (P : Program) (t : TypeId) : Option (TypeId × Nat × Nat) :=
  match P.underlying t with
  | some (.slice e) => (P.info? e).map (fun i => (e, i.size, i.bytes))
  | _ => none

def okPs (fs : Array Field) (P : Program) : List (Nat × Operand) → List (Nat × Nat × DX) → Bool
  | [], [] => true
  | (i, x) :: ps, (off, sz, y) :: qs => (match fs[i]? with
    | some f => f.offset == off && sizeP P f.type == some sz
    | none => false) && okX x y && okPs fs P ps qs
  | _, _ => false

def okEs : List (Nat × Operand) → List (Nat × DX) → Bool
  | [], [] => true
  | (i, x) :: ps, (j, y) :: qs => i == j && okX x y && okEs ps qs
  | _, _ => false

/-- A struct of plain cells, one a field, of these kinds. -/
def flatF (P : Program) : List Field → Nat → List Nat → Bool
  | [], _, [] => true
  | f :: fs, i, k :: ks => f.name != "_" && f.offset == i && (match P.underlying f.type with
    | some .bool => k == 1
    | some (.int _) => k == 0
    | some .string => k == 2
    | _ => false) && flatF P fs (i + 1) ks
  | _, _, _ => false

def flatP (P : Program) (t : TypeId) (ks : List Nat) : Bool :=
  match P.underlying t with
  | some (.struct fs) => flatF P fs.toList 0 ks && !P.stoodInHeld t && !P.eqGuardType P.depth t
  | _ => false

def noShift : BinOp → Bool
  | .shl | .shr => false
  | _ => true

def okOp (P : Program) (o : Op) (d : DOp) : Bool :=
  match o, d with
  | .move x, .mv y | .assign x, .mv y => okX x y
  | .pick c a b, .pick c' a' b' => okX c c' && okX a a' && okX b b'
  | .alloc e, .new e' z => e == e' && okZs P e z
  | .box e x, .box e' _ y => e == e' && okX x y
  | .build t ps, .build z qs => okZs P t z && (match P.underlying t with
    | some (.struct fs) => fs.all (fun f => (P.info? f.type).isSome) && okPs fs P ps.toList qs
    | _ => false)
  | .buildSlice t n ps, .lits _ e' z n' qs => (match elemP P t with
    | some (e, st, _) => e == e' && st == z.length && n == n' && decide (n * st ≤ 2 ^ 24) && st != 0 && okZs P e z && okEs ps.toList qs
    | none => false)
  | .load t p, .load agg sz q => aggP P t == some agg && sizeP P t == some sz && okX p q
  | .store t p x, .store sz q y => sizeP P t == some sz && okX p q && okX x y
  | .nilCheck x, .nilck y => okX x y
  | .binOp op t x y _, .bin op' x' y' => op == op' && noShift op && okX x x' && okX y y' && (P.underlying t).isSome
  | .binOp op t x y _, .beq neg x' y' => (op == if neg then .neq else .eql) && okX x x' && okX y y' && (match P.underlying t with | some .bool => true | _ => false)
  | .binOp op t x y _, .eqs neg ks x' y' => (op == if neg then .neq else .eql) && okX x x' && okX y y' && flatP P t ks
  | .binOp op t x (.const .nilIface) _, .eqn neg x' => (op == if neg then .neq else .eql) && okX x x' && (match P.underlying t with | some (.interface _) => true | _ => false)
  | .unOp .not _ x, .not y => okX x y
  | .unOp .neg _ x, .neg y => okX x y
  | .convert src dst x, .conv k y => okX x y && (P.underlying src).isSome && (match P.underlying dst with | some (.int k') => k == k' | _ => false)
  | .makeInterface t x, .mkif t' y => t == t' && okX x y && (match P.underlying t with | some (.interface _) | none => false | _ => true)
  | .makeFunc (.func f) first caps, .mkfn g ys => f == g && first.isEmpty && okXs caps.toList ys
  | .makeSlice t l c, .mks e' z bytes y => okX l y && okX c y && (match elemP P t with
    | some (e, st, b) => e == e' && st == z.length && b == bytes && okZs P e z && st != 0
    | none => false)
  | .slice t x lo hi none, .slc st y lo' hi' => okX x y && okO lo lo' && okO hi hi' && (match elemP P t with
    | some (_, st', _) => st == st'
    | none => false)
  | .slice t x lo hi none, .sstr y lo' hi' => okX x y && okO lo lo' && okO hi hi' && (match P.underlying t with | some .string => true | _ => false)
  | .fieldAddr t x f, .fad off y => okX x y && (match P.underlying t with
    | some (.struct fs) => (match fs[f]? with
      | some fl => fl.offset == off && (match sizeP P fl.type with | some 0 | none => false | _ => true)
      | none => false)
    | _ => false)
  | .field t x f, .fld agg off sz y => okX x y && (match P.underlying t with
    | some (.struct fs) => (match fs[f]? with
      | some fl => fl.offset == off && sizeP P fl.type == some sz && aggP P fl.type == some agg
      | none => false)
    | _ => false)
  | .indexAddr t x i, .iad st y j => okX x y && okX i j && (match elemP P t with
    | some (_, st', _) => st == st'
    | none => false)
  | .index t x i, .idx y j => okX x y && okX i j && (match P.underlying t with | some .string => true | _ => false)
  | .typeAssert x _ t ok, .tas t' z ok' y => okX x y && t == t' && ok == ok' && okZ P t z && (match P.underlying t with | some (.interface _) | none => false | _ => true)
  | .extract x i, .ext y j => okX x y && i == j
  | .call c, .len y => (match c.callee, c.args.toList, c.argTypes.toList with
    | .builtin .len, [x], [t] => okX x y && (elemP P t).isSome
    | _, _, _ => false)
  | .call c, .slen y => (match c.callee, c.args.toList, c.argTypes.toList with
    | .builtin .len, [x], [t] => okX x y && (match P.underlying t with | some .string => true | _ => false)
    | _, _, _ => false)
  | .call c, .app e' st bytes x' y' => (match c.callee, c.args.toList, c.argTypes.toList with
    | .builtin .append, [x, y], [t, t'] => okX x x' && okX y y' && t == t' && (match elemP P t with
      | some (e, st', b) => e == e' && st == st' && b == bytes && st != 0 && (match zeroP P e with | some vs => vs.length == st | none => false)
      | none => false)
    | _, _, _ => false)
  | _, _ => false

end Go.Proofs.Ytdlonbcefhimaaa.XD
