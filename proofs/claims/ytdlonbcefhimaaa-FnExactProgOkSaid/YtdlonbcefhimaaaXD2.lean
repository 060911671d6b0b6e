/- What is proved: how the relation between the plain evaluator's memory and the machine's goes on when memory grows or a row of one's own is written. No condition. -/
import Derived.Test.YtdlonbcefhimaaaXD1
namespace Go.Proofs.Ytdlonbcefhimaaa.XD
open Go Go.RowKit
set_option linter.all false

inductive DObj where
  | arr (e : TypeId) (st : Nat) (es : List (List DV)) (min : Nat)
  | mp (kvs : List (Int × Bool))
  | dead
  deriving Inhabited

abbrev Heap := List DObj

/-- A map's entries stand for whole numbers with truth values. -/
def MapR (kvs : List (Int × Bool)) (es : Array MapEntry) : Prop :=
  es.size = kvs.length ∧ ∀ (i : Nat) e k b, es[i]? = some e → kvs[i]? = some (k, b) → e.key = .int .i64 k ∧ e.val = .bool b

structure WRel (C : Ctx) (w : World) (h : Heap) : Prop where
  F : ∀ t b o v, C.F t b o = some v → w.cell? ⟨b, o, none⟩ = some v
  nx : C.nx = h.length
  arr : ∀ n v e st L m, C.μ n = some (.row v e st L m) → ∃ es xs, h[n]? = some (.arr e st es m) ∧ L = es.length ∧ m ≤ L ∧ w.ownsRow 0 e st v es.length xs ∧
    (∀ x ∈ es, x.length = st) ∧ (∀ x ∈ es, ∀ c ∈ x, c.one = true) ∧
    ∀ (i j : Nat) x c, es[i]? = some x → x[j]? = some c → ∃ u, xs[i * st + j]? = some u ∧ VR C c u
  mp : ∀ n r, C.μ n = some (.map r) → ∃ kvs es clock, h[n]? = some (.mp kvs) ∧ w.heap[r]? = some (.map es clock) ∧ MapR kvs es
  named : ∀ n e st es m, h[n]? = some (.arr e st es m) → ∃ v, C.μ n = some (.row v e st es.length m)
  namedM : ∀ n kvs, h[n]? = some (.mp kvs) → ∃ r, C.μ n = some (.map r)
  apart : ∀ n v e st L m n' v' e' st' L' m' g, C.μ n = some (.row v e st L m) → C.μ n' = some (.row v' e' st' L' m') → v.ownBlock = some g → v'.ownBlock = some g → n = n'
  apartM : ∀ n n' r, C.μ n = some (.map r) → C.μ n' = some (.map r) → n = n'
  unf : ∀ n v e st L m g, C.μ n = some (.row v e st L m) → v.ownBlock = some g → ∀ t o, C.F t g o = none

/-- The blocks that a context's names own. -/
def Ctx.owns (C : Ctx) (g : Nat) : Prop := (∃ n v e st L m, C.μ n = some (.row v e st L m) ∧ v.ownBlock = some g) ∨ ∃ n, C.μ n = some (.map g)

/-- One step: what isn't owned stays, what is owned newly is new. -/
structure Step (C : Ctx) (w : World) (C' : Ctx) (w' : World) : Prop where
  le : C.le C'
  F1 : C'.F true = C.F true
  os : w'.os = w.os
  tape : w'.tape = w.tape
  output : w'.output = w.output
  size : w.heap.size ≤ w'.heap.size
  block : ∀ k, k < w.heap.size → ¬ C.owns k → w'.heap[k]? = w.heap[k]?
  own : ∀ k, C'.owns k → C.owns k ∨ w.heap.size ≤ k
  Fnew : ∀ t b o v, C'.F t b o = some v → C.F t b o = some v ∨ w.heap.size ≤ b ∨ C.owns b

theorem Step.refl (C : Ctx) (w : World) : Step C w C w := ⟨.refl C, rfl, rfl, rfl, rfl, Nat.le_refl _, fun _ _ _ => rfl, fun _ h => .inl h, fun _ _ _ _ h => .inl h⟩

theorem Step.trans {A B C : Ctx} {u v w : World} (h : Step A u B v) (k : Step B v C w) : Step A u C w where
  le := h.le.trans k.le
  F1 := k.F1.trans h.F1
  os := k.os.trans h.os
  tape := k.tape.trans h.tape
  output := k.output.trans h.output
  size := Nat.le_trans h.size k.size
  block := fun i hi ho => by
    rw [k.block i (Nat.lt_of_lt_of_le hi h.size) (fun hb => (h.own i hb).elim ho (fun hx => by omega)), h.block i hi ho]
  own := fun i hi => by
    rcases k.own i hi with q | q
    · exact h.own i q
    · exact .inr (Nat.le_trans h.size q)
  Fnew := fun t b o v q => by
    rcases k.Fnew t b o v q with q | q | q
    · exact h.Fnew t b o v q
    · exact .inr (.inl (Nat.le_trans h.size q))
    · rcases h.own b q with q | q
      · exact .inr (.inr q)
      · exact .inr (.inl q)

theorem cell_block {w : World} {b o : Nat} {v : Value} (h : w.cell? ⟨b, o, none⟩ = some v) : b < w.heap.size := World.block_lt_of_cell? w _ h

/-- Memory grows, nothing that has a name changes: all stays. -/
theorem WRel.grown {C : Ctx} {w w' : World} {h : Heap} (H : WRel C w h) (hg : w.grownBy w' none) : WRel C w' h where
  F := fun t b o v q => hg.cell (H.F t b o v q) (by simp)
  nx := H.nx
  arr := fun n v e st L m q => by
    obtain ⟨es, xs, a1, a2, a3, a4, a5⟩ := H.arr n v e st L m q
    exact ⟨es, xs, a1, a2, a3, a4.kept hg (by cases v.ownBlock <;> simp), a5⟩
  mp := fun n r q => by
    obtain ⟨kvs, es, cl, a1, a2, a3⟩ := H.mp n r q
    exact ⟨kvs, es, cl, a1, by rw [hg.block r (Array.getElem?_eq_some_iff.1 a2).1 (by simp)]; exact a2, a3⟩
  named := H.named
  namedM := H.namedM
  apart := H.apart
  apartM := H.apartM
  unf := H.unf

theorem Step.grown {C : Ctx} {w w' : World} (hg : w.grownBy w' none) : Step C w C w' :=
  ⟨.refl C, rfl, hg.os, hg.tape, hg.output, hg.size, fun k hk _ => hg.block k hk (by simp), fun _ h => .inl h, fun _ _ _ _ h => .inl h⟩

theorem drew_grown (w : World) : w.grownBy w.drew none := ⟨rfl, rfl, rfl, Nat.le_refl _, fun _ _ _ => rfl⟩

/-- A context with one more name. -/
def Ctx.add (C : Ctx) (l : Loc) : Ctx := { C with μ := fun n => if n = C.nx then some l else C.μ n, nx := C.nx + 1 }

theorem Ctx.le_add (C : Ctx) (l : Loc) : C.le (C.add l) where
  F := fun _ _ _ _ h => h
  nx := Nat.le_succ _
  μ := fun n hn => .inl (by simp only [Ctx.add]; rw [if_neg (by omega)])

theorem WRel.μ_lt {C : Ctx} {w : World} {h : Heap} (H : WRel C w h) {n : Nat} {l : Loc} (q : C.μ n = some l) : n < C.nx := by
  cases l with
  | row v e st L m =>
    obtain ⟨es, xs, a1, _⟩ := H.arr n v e st L m q
    rw [H.nx]
    exact (List.getElem?_eq_some_iff.1 a1).1
  | map r =>
    obtain ⟨_, _, _, a1, _⟩ := H.mp n r q
    rw [H.nx]
    exact (List.getElem?_eq_some_iff.1 a1).1

/-- A new row. -/
theorem WRel.add {C : Ctx} {w w' : World} {h : Heap} (H : WRel C w h) (hg : w.grownBy w' none) {v : Value} {e st : Nat} {es : List (List DV)} {xs : List Value} {m : Nat}
    (ho : w'.ownsRow w.heap.size e st v es.length xs) (hm : m ≤ es.length) (hl : ∀ x ∈ es, x.length = st) (h1 : ∀ x ∈ es, ∀ c ∈ x, c.one = true)
    (hx : ∀ (i j : Nat) x c, es[i]? = some x → x[j]? = some c → ∃ u, xs[i * st + j]? = some u ∧ VR C c u) :
    WRel (C.add (.row v e st es.length m)) w' (h ++ [.arr e st es m]) ∧ Step C w (C.add (.row v e st es.length m)) w' := by
  have ho' : w'.ownsRow 0 e st v es.length xs := by
    refine ⟨ho.1, ?_⟩
    rcases ho.2 with q | ⟨g, cap, cur, q, _, r⟩
    · exact .inl q
    · exact .inr ⟨g, cap, cur, q, Nat.zero_le _, r⟩
  have hnew : ∀ g, v.ownBlock = some g → w.heap.size ≤ g := fun g hg' => (ho.lt g hg').1
  have hold : ∀ n v' e' st' L' m' g, C.μ n = some (.row v' e' st' L' m') → v'.ownBlock = some g → g < w.heap.size := fun n v' e' st' L' m' g q hb => by
    obtain ⟨_, _, _, _, _, a4, _⟩ := H.arr n v' e' st' L' m' q
    exact (a4.lt g hb).2
  have hle := C.le_add (.row v e st es.length m)
  have hne : ∀ n l, C.μ n = some l → n ≠ C.nx := fun n l q => Nat.ne_of_lt (H.μ_lt q)
  have W := H.grown hg
  refine ⟨?_, ?_⟩
  · constructor
    · exact W.F
    · simp only [Ctx.add, List.length_append, List.length_singleton, H.nx]
    · intro n v' e' st' L' m' q
      simp only [Ctx.add] at q
      split at q
      · rename_i hn
        injection q with q
        injection q with x1 x2 x3 x4 x5
        subst x1; subst x2; subst x3; subst x4; subst x5
        refine ⟨es, xs, ?_, rfl, hm, ho', hl, h1, fun i j x c p q => ?_⟩
        · rw [hn, H.nx, List.getElem?_append_right (Nat.le_refl _)]; simp
        · obtain ⟨u, hu, hv⟩ := hx i j x c p q
          exact ⟨u, hu, hv.mono hle⟩
      · rename_i hn
        obtain ⟨es', xs', a1, a2, a3, a4, a5, a6, a7⟩ := W.arr n v' e' st' L' m' q
        refine ⟨es', xs', ?_, a2, a3, a4, a5, a6, fun i j x c p q => ?_⟩
        · rw [List.getElem?_append_left (List.getElem?_eq_some_iff.1 a1).1]; exact a1
        · obtain ⟨u, hu, hv⟩ := a7 i j x c p q
          exact ⟨u, hu, hv.mono hle⟩
    · intro n r q
      simp only [Ctx.add] at q
      split at q
      · cases q
      · obtain ⟨kvs, es', cl, a1, a2, a3⟩ := W.mp n r q
        exact ⟨kvs, es', cl, by rw [List.getElem?_append_left (List.getElem?_eq_some_iff.1 a1).1]; exact a1, a2, a3⟩
    · intro n e' st' es' m' q
      rcases Nat.lt_or_ge n h.length with hn | hn
      · rw [List.getElem?_append_left hn] at q
        obtain ⟨v', r⟩ := H.named n e' st' es' m' q
        exact ⟨v', by simp only [Ctx.add]; rw [if_neg (hne n _ r)]; exact r⟩
      · rw [List.getElem?_append_right hn] at q
        have : n = h.length := by
          rcases Nat.lt_or_ge (n - h.length) 1 with z | z
          · omega
          · rw [List.getElem?_eq_none (by simpa using z)] at q; cases q
        subst this
        simp at q
        obtain ⟨rfl, rfl, rfl, rfl⟩ := q
        exact ⟨v, by simp only [Ctx.add]; rw [if_pos H.nx.symm]⟩
    · intro n kvs q
      rcases Nat.lt_or_ge n h.length with hn | hn
      · rw [List.getElem?_append_left hn] at q
        obtain ⟨r, hr⟩ := H.namedM n kvs q
        exact ⟨r, by simp only [Ctx.add]; rw [if_neg (hne n _ hr)]; exact hr⟩
      · rw [List.getElem?_append_right hn] at q
        have : n - h.length = 0 := by
          rcases Nat.lt_or_ge (n - h.length) 1 with z | z
          · omega
          · rw [List.getElem?_eq_none (by simpa using z)] at q; cases q
        rw [this] at q
        simp at q
    · intro n v1 e1 st1 L1 m1 n' v2 e2 st2 L2 m2 g q q' b b'
      simp only [Ctx.add] at q q'
      split at q <;> split at q'
      · omega
      · injection q with q
        injection q with x1 x2 x3 x4 x5
        subst x1
        have := hnew g b
        have := hold n' _ _ _ _ _ g q' b'
        omega
      · injection q' with q'
        injection q' with x1 x2 x3 x4 x5
        subst x1
        have := hnew g b'
        have := hold n _ _ _ _ _ g q b
        omega
      · exact H.apart n _ _ _ _ _ n' _ _ _ _ _ g q q' b b'
    · intro n n' r q q'
      simp only [Ctx.add] at q q'
      split at q
      · cases q
      · split at q'
        · cases q'
        · exact H.apartM n n' r q q'
    · intro n v' e' st' L' m' g q b t o
      simp only [Ctx.add] at q
      split at q
      · injection q with q
        injection q with x1 x2 x3 x4 x5
        subst x1
        show C.F t g o = none
        cases hF : C.F t g o with
        | none => rfl
        | some u => have := cell_block (H.F t g o u hF); have := hnew g b; omega
      · exact H.unf n v' e' st' L' m' g q b t o
  · refine ⟨hle, rfl, hg.os, hg.tape, hg.output, hg.size, fun k hk _ => hg.block k hk (by simp), fun k hk => ?_, fun _ _ _ _ h => .inl h⟩
    rcases hk with ⟨n, v', e', st', L', m', q, b⟩ | ⟨n, q⟩
    · simp only [Ctx.add] at q
      split at q
      · injection q with q
        injection q with x1 x2 x3 x4 x5
        subst x1
        exact .inr (hnew k b)
      · exact .inl (.inl ⟨n, v', e', st', L', m', q, b⟩)
    · simp only [Ctx.add] at q
      split at q
      · cases q
      · exact .inl (.inr ⟨n, q⟩)

/-- A context in which one name's row lies elsewhere. -/
def Ctx.put (C : Ctx) (n : Nat) (l : Loc) : Ctx := { C with μ := fun k => if k = n then some l else C.μ k }

/-- A row of one's own is written, or grows. -/
theorem WRel.upd {C : Ctx} {w w' : World} {h : Heap} (H : WRel C w h) {n : Nat} {v v' : Value} {e st L m m' : Nat} {es : List (List DV)} {xs : List Value}
    (hn : C.μ n = some (.row v e st L m)) (hg : w.grownBy w' v.ownBlock)
    (ho : w'.ownsRow 0 e st v' es.length xs) (hb : v'.ownBlock = v.ownBlock ∨ ∀ g, v'.ownBlock = some g → w.heap.size ≤ g) (hm : m' ≤ es.length)
    (hk : (v' = v ∧ es.length = L ∧ m' = m) ∨ (L < m' ∧ L ≤ es.length)) (hl : ∀ x ∈ es, x.length = st) (h1 : ∀ x ∈ es, ∀ c ∈ x, c.one = true)
    (hx : ∀ (i j : Nat) x c, es[i]? = some x → x[j]? = some c → ∃ u, xs[i * st + j]? = some u ∧ VR C c u) :
    WRel (C.put n (.row v' e st es.length m')) w' (h.set n (.arr e st es m')) ∧ Step C w (C.put n (.row v' e st es.length m')) w' := by
  obtain ⟨es0, xs0, b1, b2, b3, b4, b5⟩ := H.arr n v e st L m hn
  have hlt : n < h.length := (List.getElem?_eq_some_iff.1 b1).1
  have hle : C.le (C.put n (.row v' e st es.length m')) := by
    refine ⟨fun _ _ _ _ q => q, Nat.le_refl _, fun k hk' => ?_⟩
    simp only [Ctx.put]
    split
    · rename_i hkn
      subst hkn
      rcases hk with ⟨rfl, rfl, rfl⟩ | ⟨h3, h4⟩
      · exact .inl hn.symm
      · exact .inr (.inr ⟨_, _, _, _, _, _, _, _, hn, rfl, h3, h4⟩)
    · exact .inl rfl
  have hkeep : ∀ k, k < w.heap.size → some k ≠ v.ownBlock → w'.heap[k]? = w.heap[k]? := fun k hk' hne => hg.block k hk' hne
  have hother : ∀ k v1 e1 st1 L1 m1, k ≠ n → C.μ k = some (.row v1 e1 st1 L1 m1) → v1.ownBlock = none ∨ v1.ownBlock ≠ v.ownBlock := fun k v1 e1 st1 L1 m1 hkn q => by
    cases hb1 : v1.ownBlock with
    | none => exact .inl rfl
    | some g => exact .inr fun he => hkn (H.apart k _ _ _ _ _ n _ _ _ _ _ g q hn hb1 he.symm)
  have hbl : ∀ g, v'.ownBlock = some g → v.ownBlock = some g ∨ w.heap.size ≤ g := fun g q => by
    rcases hb with r | r
    · exact .inl (r ▸ q)
    · exact .inr (r g q)
  refine ⟨?_, ?_⟩
  · constructor
    · intro t b o u q
      refine hg.cell (H.F t b o u q) ?_
      intro he
      have q' : C.F t b o = some u := q
      rw [H.unf n v e st L m b hn he.symm t o] at q'
      cases q'
    · simp only [Ctx.put, List.length_set, H.nx]
    · intro k v1 e1 st1 L1 m1 q
      simp only [Ctx.put] at q
      split at q
      · rename_i hkn
        subst hkn
        injection q with q
        injection q with x1 x2 x3 x4 x5
        subst x1; subst x2; subst x3; subst x4; subst x5
        refine ⟨es, xs, by rw [List.getElem?_set_self hlt], rfl, hm, ho, hl, h1, fun i j x c p q => ?_⟩
        obtain ⟨u, hu, hv⟩ := hx i j x c p q
        exact ⟨u, hu, hv.mono hle⟩
      · rename_i hkn
        obtain ⟨es', xs', a1, a2, a3, a4, a5, a6, a7⟩ := H.arr k v1 e1 st1 L1 m1 q
        refine ⟨es', xs', by rw [List.getElem?_set_ne (Ne.symm hkn)]; exact a1, a2, a3, a4.kept hg (hother k _ _ _ _ _ hkn q), a5, a6, fun i j x c p q => ?_⟩
        obtain ⟨u, hu, hv⟩ := a7 i j x c p q
        exact ⟨u, hu, hv.mono hle⟩
    · intro k r q
      simp only [Ctx.put] at q
      split at q
      · cases q
      · rename_i hkn
        obtain ⟨kvs, es', cl, a1, a2, a3⟩ := H.mp k r q
        refine ⟨kvs, es', cl, by rw [List.getElem?_set_ne (Ne.symm hkn)]; exact a1, ?_, a3⟩
        rw [hkeep r (Array.getElem?_eq_some_iff.1 a2).1 ?_]
        · exact a2
        · intro he
          rcases b4.2 with ⟨rfl, _⟩ | ⟨g, cap, cur, rfl, _, hgg, _⟩
          · simp [Value.ownBlock] at he
          · simp [Value.ownBlock] at he
            subst he
            rw [hgg] at a2
            cases a2
    · intro k e0 st' es' m1 q
      by_cases hkn : k = n
      · subst hkn
        rw [List.getElem?_set_self hlt] at q
        injection q with q
        injection q with x0 x1 x2 x3
        subst x0; subst x1; subst x2; subst x3
        exact ⟨v', by simp [Ctx.put]⟩
      · rw [List.getElem?_set_ne (Ne.symm hkn)] at q
        obtain ⟨v1, r⟩ := H.named k e0 st' es' m1 q
        exact ⟨v1, by simp only [Ctx.put]; rw [if_neg hkn]; exact r⟩
    · intro k kvs q
      by_cases hkn : k = n
      · subst hkn
        rw [List.getElem?_set_self hlt] at q
        cases q
      · rw [List.getElem?_set_ne (Ne.symm hkn)] at q
        obtain ⟨r, hr⟩ := H.namedM k kvs q
        exact ⟨r, by simp only [Ctx.put]; rw [if_neg hkn]; exact hr⟩
    · intro k v1 e1 st1 L1 m1 k' v2 e2 st2 L2 m2 g q q' c1 c2
      have hold : ∀ k v1 e1 st1 L1 m1, C.μ k = some (.row v1 e1 st1 L1 m1) → v1.ownBlock = some g → g < w.heap.size := fun k v1 e1 st1 L1 m1 q c => by
        obtain ⟨_, _, _, _, _, a4, _⟩ := H.arr k v1 e1 st1 L1 m1 q
        exact (a4.lt g c).2
      simp only [Ctx.put] at q q'
      split at q <;> split at q'
      · omega
      · rename_i hkn hkn'
        injection q with q
        injection q with x1 x2 x3 x4 x5
        subst x1
        rcases hbl g c1 with r | r
        · exact hkn.trans (H.apart n _ _ _ _ _ k' _ _ _ _ _ g hn q' r c2)
        · have := hold _ _ _ _ _ _ q' c2; omega
      · rename_i hkn hkn'
        injection q' with q'
        injection q' with x1 x2 x3 x4 x5
        subst x1
        rcases hbl g c2 with r | r
        · exact (H.apart k _ _ _ _ _ n _ _ _ _ _ g q hn c1 r).trans hkn'.symm
        · have := hold _ _ _ _ _ _ q c1; omega
      · exact H.apart k _ _ _ _ _ k' _ _ _ _ _ g q q' c1 c2
    · intro k k' r q q'
      simp only [Ctx.put] at q q'
      split at q
      · cases q
      · split at q'
        · cases q'
        · exact H.apartM k k' r q q'
    · intro k v1 e1 st1 L1 m1 g q c t o
      simp only [Ctx.put] at q
      split at q
      · injection q with q
        injection q with x1 x2 x3 x4 x5
        subst x1
        rcases hbl g c with r | r
        · exact H.unf n v e st L m g hn r t o
        · show C.F t g o = none
          cases hF : C.F t g o with
          | none => rfl
          | some u => have := cell_block (H.F t g o u hF); omega
      · exact H.unf k v1 e1 st1 L1 m1 g q c t o
  · refine ⟨hle, rfl, hg.os, hg.tape, hg.output, hg.size, fun k hk' hno => hkeep k hk' (fun he => hno (.inl ⟨n, v, e, st, L, m, hn, he.symm⟩)), fun k hk' => ?_, fun _ _ _ _ h => .inl h⟩
    rcases hk' with ⟨k', v1, e1, st1, L1, m1, q, c⟩ | ⟨k', q⟩
    · simp only [Ctx.put] at q
      split at q
      · injection q with q
        injection q with x1 x2 x3 x4 x5
        subst x1
        rcases hbl k c with r | r
        · exact .inl (.inl ⟨n, v, e, st, L, m, hn, r⟩)
        · exact .inr r
      · exact .inl (.inl ⟨k', v1, e1, st1, L1, m1, q, c⟩)
    · simp only [Ctx.put] at q
      split at q
      · cases q
      · exact .inl (.inr ⟨k', q⟩)

/-- A context in which a new block's cells stand still for good. -/
def Ctx.ice (C : Ctx) (g : Nat) (xs : List Value) : Ctx := { C with F := fun t b o => if t = false ∧ b = g then xs[o]? else C.F t b o }

/-- A new block that is never written again. -/
theorem WRel.iced {C : Ctx} {w w' : World} {h : Heap} (H : WRel C w h) (hg : w.grownBy w' none) {g : Nat} {cur : Array Value} {e : TypeId} {fz : Nat × Nat} (hgg : w.heap.size ≤ g)
    (hc : w'.heap[g]? = some (.cells cur e fz)) (xs : List Value) (hxs : ∀ (i : Nat) u, xs[i]? = some u → cur[i]? = some u) : WRel (C.ice g xs) w' h ∧ Step C w (C.ice g xs) w' := by
  have hnF : ∀ t o, C.F t g o = none := fun t o => by
    cases hF : C.F t g o with
    | none => rfl
    | some u => have := cell_block (H.F t g o u hF); omega
  have hle : C.le (C.ice g xs) := by
    refine ⟨fun t b o v q => ?_, Nat.le_refl _, fun n hn => .inl rfl⟩
    simp only [Ctx.ice]
    split
    · rename_i hb
      obtain ⟨_, rfl⟩ := hb
      rw [hnF] at q
      cases q
    · exact q
  have W := H.grown hg
  refine ⟨?_, ?_⟩
  · constructor
    · intro t b o v q
      simp only [Ctx.ice] at q
      split at q
      · rename_i hb
        obtain ⟨_, rfl⟩ := hb
        simp only [World.cell?, hc]
        simpa using hxs o v q
      · exact W.F t b o v q
    · exact H.nx
    · intro n v e' st L m q
      obtain ⟨es, xs', a1, a2, a3, a4, a5, a6, a7⟩ := W.arr n v e' st L m q
      refine ⟨es, xs', a1, a2, a3, a4, a5, a6, fun i j x c p q => ?_⟩
      obtain ⟨u, hu, hv⟩ := a7 i j x c p q
      exact ⟨u, hu, hv.mono hle⟩
    · exact W.mp
    · exact H.named
    · exact H.namedM
    · exact H.apart
    · exact H.apartM
    · intro n v e' st L m g' q b t o
      simp only [Ctx.ice]
      split
      · rename_i hb
        obtain ⟨_, rfl⟩ := hb
        obtain ⟨_, _, _, _, _, a4, _⟩ := H.arr n v e' st L m q
        have := (a4.lt g' b).2
        omega
      · exact H.unf n v e' st L m g' q b t o
  · refine ⟨hle, by funext b o; simp [Ctx.ice], hg.os, hg.tape, hg.output, hg.size, fun k hk _ => hg.block k hk (by simp), fun _ h => .inl h, fun t b o v q => ?_⟩
    simp only [Ctx.ice] at q
    split at q
    · rename_i hb
      rw [hb.2]
      exact .inr (.inl hgg)
    · exact .inl q

end Go.Proofs.Ytdlonbcefhimaaa.XD
