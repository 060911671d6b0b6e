/- What is proved: the values of a plain evaluator, and what it means that they stand for the machine's values. No condition. -/
import Derived.Orders
import Derived.WalkKit
import Derived.Below
namespace Go.Proofs.Ytdlonbcefhimaaa.XD
open Go Go.RowKit
set_option linter.all false

inductive DV where
  | bool (b : Bool)
  | int (k : IntKind) (n : Int)
  | str (s : ByteArray)
  | agg (cs : List DV)
  | tup (vs : List DV)
  | ro (t : Nat) (es : List (List DV))
  | nsl (n i len : Nat)
  | ptr (n i off stamp : Nat)
  | rp (t : Nat) (cs : List DV) (off : Nat)
  | func (f : FuncId) (caps : List DV)
  | niface
  | iface (t : TypeId) (v : DV)
  | map (n : Nat)
  | nilp
  | junk
  deriving Inhabited

/-- One cell holds it. -/
def DV.one : DV → Bool
  | .agg _ | .tup _ | .junk => false
  | _ => true

/-- Where a name's row lies: the machine's own slice of all of it, its element's type, an element's cells, how many elements, and from which end on a part of it is still the row's own. -/
inductive Loc where
  | row (v : Value) (e : TypeId) (st len min : Nat)
  | map (r : Nat)

structure Ctx where
  F : Bool → Nat → Nat → Option Value
  μ : Nat → Option Loc
  nx : Nat

def tg (t : Nat) : Bool := t == 1

/-- What a part of a row looks like in the machine. -/
def PartOf (v : Value) (st i len : Nat) (u : Value) : Prop :=
  (v = .slice none 0 0 ∧ i = 0 ∧ len = 0 ∧ u = .slice none 0 0) ∨
  ∃ g L cap a, v = .slice (some ⟨g, 0, none⟩) L cap ∧ u = .slice a len (cap - i) ∧ i + len ≤ L ∧ L ≤ cap ∧ (cap - i = 0 ∨ a = some ⟨g, i * st, none⟩) ∧ (i = 0 → a = some ⟨g, 0, none⟩)

inductive VR (C : Ctx) : DV → Value → Prop
  | bool (b : Bool) : VR C (.bool b) (.bool b)
  | int (k : IntKind) (n : Int) : VR C (.int k n) (.int k n)
  | str (s : ByteArray) : VR C (.str s) (.string s)
  | agg (cs : List DV) (vs : Array Value) (hl : vs.size = cs.length) (h1 : ∀ c ∈ cs, c.one = true)
      (h : ∀ (i : Nat) c v, cs[i]? = some c → vs[i]? = some v → VR C c v) : VR C (.agg cs) (.agg vs)
  | tup (cs : List DV) (vs : Array Value) (hl : vs.size = cs.length)
      (h : ∀ (i : Nat) c v, cs[i]? = some c → vs[i]? = some v → VR C c v) : VR C (.tup cs) (.tuple vs)
  | roE (t : Nat) (a : Option Addr) (cap : Nat) (h2 : t = 2 → cap = 0) : VR C (.ro t []) (.slice a 0 cap)
  | ro (t st : Nat) (es : List (List DV)) (b off cap : Nat) (vals : Nat → Nat → Value) (hl : ∀ e ∈ es, e.length = st) (h1 : ∀ e ∈ es, ∀ c ∈ e, c.one = true) (hc : es.length ≤ cap) (h2 : t = 2 → cap = es.length)
      (hF : ∀ (i j : Nat) e c, es[i]? = some e → e[j]? = some c → C.F (tg t) b (off + i * st + j) = some (vals i j))
      (h : ∀ (i j : Nat) e c, es[i]? = some e → e[j]? = some c → VR C c (vals i j)) : VR C (.ro t es) (.slice (some ⟨b, off, none⟩) es.length cap)
  | nsl (n i len : Nat) (u : Value) (hn : n < C.nx) (hu : ∃ a cap, u = .slice a len cap)
      (h : ∀ v e st L min, C.μ n = some (.row v e st L min) → i + len ≤ L ∧ (min ≤ i + len → PartOf v st i len u)) : VR C (.nsl n i len) u
  | ptr (n i off stamp : Nat) (a : Addr) (hn : n < C.nx)
      (h : ∀ v e st L min, C.μ n = some (.row v e st L min) → stamp ≤ L ∧ (min ≤ stamp → i < stamp ∧ ∃ g cap, v = .slice (some ⟨g, 0, none⟩) L cap ∧ a = ⟨g, i * st + off, none⟩)) : VR C (.ptr n i off stamp) (.pointer (some a))
  | rp (t : Nat) (cs : List DV) (off b o : Nat) (vals : Nat → Value) (h1 : ∀ c ∈ cs, c.one = true)
      (hF : ∀ (j : Nat) c, cs[j]? = some c → C.F (tg t) b (o + j) = some (vals j))
      (h : ∀ (j : Nat) c, cs[j]? = some c → VR C c (vals j)) : VR C (.rp t cs off) (.pointer (some ⟨b, o + off, none⟩))
  | func (f : FuncId) (caps : List DV) (vs : Array Value) (hl : vs.size = caps.length)
      (h : ∀ (i : Nat) c v, caps[i]? = some c → vs[i]? = some v → VR C c v) : VR C (.func f caps) (.func (.func f) #[] vs)
  | niface : VR C .niface .nilIface
  | iface (t : TypeId) (d : DV) (v : Value) (h : VR C d v) : VR C (.iface t d) (.iface t v)
  | map (n r : Nat) (hn : n < C.nx) (h : ∀ r', C.μ n = some (.map r') → r' = r) : VR C (.map n) (.map (some r))
  | nilp : VR C .nilp (.pointer none)

/-- How a context may go on. -/
structure Ctx.le (C C' : Ctx) : Prop where
  F : ∀ t b o v, C.F t b o = some v → C'.F t b o = some v
  nx : C.nx ≤ C'.nx
  μ : ∀ n, n < C.nx → C'.μ n = C.μ n ∨ C'.μ n = none ∨ ∃ v e st L m v' L' m', C.μ n = some (.row v e st L m) ∧ C'.μ n = some (.row v' e st L' m') ∧ L < m' ∧ L ≤ L'

theorem Ctx.le.refl (C : Ctx) : C.le C := ⟨fun _ _ _ _ h => h, Nat.le_refl _, fun _ _ => .inl rfl⟩

theorem Ctx.le.trans {A B C : Ctx} (h : A.le B) (k : B.le C) : A.le C := by
  refine ⟨fun t b o v q => k.F t b o v (h.F t b o v q), Nat.le_trans h.nx k.nx, fun n hn => ?_⟩
  have hn' : n < B.nx := Nat.lt_of_lt_of_le hn h.nx
  rcases k.μ n hn' with e | e | ⟨v, e, st, L, m, v', L', m', e1, e2, h3, h4⟩
  · rw [e]; exact h.μ n hn
  · exact .inr (.inl e)
  · rcases h.μ n hn with q | q | ⟨v0, e0, st0, L0, m0, v1, L1, m1, q1, q2, q3, q4⟩
    · exact .inr (.inr ⟨v, e, st, L, m, v', L', m', q ▸ e1, e2, h3, h4⟩)
    · rw [q] at e1; cases e1
    · rw [q2] at e1
      injection e1 with e1
      injection e1 with x1 x2 x3 x4 x5
      subst x1; subst x2; subst x3; subst x4; subst x5
      exact .inr (.inr ⟨_, _, _, _, _, _, _, _, q1, e2, by omega, by omega⟩)

theorem VR.mono {C C' : Ctx} (h : C.le C') {d : DV} {v : Value} (hv : VR C d v) : VR C' d v := by
  induction hv with
  | bool b => exact .bool b
  | int k n => exact .int k n
  | str s => exact .str s
  | agg cs vs hl h1 _ ih => exact .agg cs vs hl h1 ih
  | tup cs vs hl _ ih => exact .tup cs vs hl ih
  | roE t a cap h2 => exact .roE t a cap h2
  | ro t st es b off cap vals hl h1 hc h2 hF _ ih => exact .ro t st es b off cap vals hl h1 hc h2 (fun i j e c p q => h.F _ _ _ _ (hF i j e c p q)) ih
  | nsl n i len u hn hu hh =>
    refine .nsl n i len u (Nat.lt_of_lt_of_le hn h.nx) hu (fun v e st L min hm => ?_)
    rcases h.μ n hn with q | q | ⟨v0, e0, st0, L0, m0, v1, L1, m1, q1, q2, q3, q4⟩
    · exact hh v e st L min (q ▸ hm)
    · rw [q] at hm; cases hm
    · rw [q2] at hm
      injection hm with hm
      injection hm with x1 x2 x3 x4 x5
      have := (hh _ _ _ _ _ q1).1
      exact ⟨by omega, fun hx => by omega⟩
  | ptr n i off stamp a hn hh =>
    refine .ptr n i off stamp a (Nat.lt_of_lt_of_le hn h.nx) (fun v e st L min hm => ?_)
    rcases h.μ n hn with q | q | ⟨v0, e0, st0, L0, m0, v1, L1, m1, q1, q2, q3, q4⟩
    · exact hh v e st L min (q ▸ hm)
    · rw [q] at hm; cases hm
    · rw [q2] at hm
      injection hm with hm
      injection hm with x1 x2 x3 x4 x5
      have := (hh _ _ _ _ _ q1).1
      exact ⟨by omega, fun hx => by omega⟩
  | rp t cs off b o vals h1 hF _ ih => exact .rp t cs off b o vals h1 (fun j c q => h.F _ _ _ _ (hF j c q)) ih
  | func f caps vs hl _ ih => exact .func f caps vs hl ih
  | niface => exact .niface
  | iface t d v _ ih => exact .iface t d v ih
  | map n r hn hh =>
    refine .map n r (Nat.lt_of_lt_of_le hn h.nx) (fun r' hm => ?_)
    rcases h.μ n hn with q | q | ⟨v0, e0, st0, L0, m0, v1, L1, m1, q1, q2, q3, q4⟩
    · exact hh r' (q ▸ hm)
    · rw [q] at hm; cases hm
    · rw [q2] at hm; cases hm
  | nilp => exact .nilp

theorem VR.one {C : Ctx} {d : DV} {v : Value} (h : VR C d v) : d.one = true → v.oneCell' = true := by
  cases h <;> simp [DV.one, Value.oneCell']
  rename_i n i len hn hu hh
  obtain ⟨a, cap, rfl⟩ := hu
  simp

end Go.Proofs.Ytdlonbcefhimaaa.XD
