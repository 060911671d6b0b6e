/- What is proved: an argument that can be read as data is a value of the evaluator, and a run of the evaluator on it is a call of the machine's. No condition. -/
import Derived.Test.YtdlonbcefhimaaaXD22
import Derived.ChangeArms
import Derived.ChangeSame
import Derived.ChangeSlices
import Derived.ProofKit
import Derived.Lib.SmallJoins
import Derived.Below
namespace Go.Proofs.Ytdlonbcefhimaaa.XD
open Go Go.RowKit
set_option linter.all false
variable {P : Program}

/-- What a world says before a law is called. -/
def ofW (W : World) : Ctx := ⟨fun t b o => if t = true then none else W.cell? ⟨b, o, none⟩, fun _ => none, 0⟩

theorem ofW_rel (W : World) : WRel (ofW W) W [] where
  F := fun t b o v h => by
    simp only [ofW] at h
    split at h
    · cases h
    · exact h
  nx := rfl
  arr := fun n v e st L m h => by cases h
  mp := fun n r h => by cases h
  named := fun n e st es m h => by simp at h
  namedM := fun n kvs h => by simp at h
  apart := fun n v e st L m n' v' e' st' L' m' g h => by cases h
  apartM := fun n n' r h => by cases h
  unf := fun n v e st L m g h => by cases h

/-- Cells that stand for one list of the evaluator's values. -/
def VRs (C : Ctx) (ds : List DV) (cs : List Value) : Prop := cs.length = ds.length ∧ (∀ d ∈ ds, d.one = true) ∧ ∀ (i : Nat) d v, ds[i]? = some d → cs[i]? = some v → VR C d v

theorem VRs.one {C : Ctx} {d : DV} {v : Value} (h1 : d.one = true) (h : VR C d v) : VRs C [d] [v] := ⟨rfl, fun x hx => by simp at hx; subst hx; exact h1, fun i x u p q => by
  cases i with
  | zero => simp at p q; subst p; subst q; exact h
  | succ i => simp at p⟩

theorem VRs.append {C : Ctx} {ds ds' : List DV} {cs cs' : List Value} (h : VRs C ds cs) (h' : VRs C ds' cs') : VRs C (ds ++ ds') (cs ++ cs') := by
  refine ⟨by simp [h.1, h'.1], fun d hd => ?_, fun i d v p q => ?_⟩
  · rcases List.mem_append.1 hd with k | k
    · exact h.2.1 d k
    · exact h'.2.1 d k
  · rcases Nat.lt_or_ge i ds.length with hi | hi
    · rw [List.getElem?_append_left hi] at p
      rw [List.getElem?_append_left (by rw [h.1]; exact hi)] at q
      exact h.2.2 i d v p q
    · rw [List.getElem?_append_right hi] at p
      rw [List.getElem?_append_right (by rw [h.1]; exact hi), h.1] at q
      exact h'.2.2 _ d v p q

/-- Cells that read as data of type t stand for one of these, and what they say is well formed. -/
def Opn {α : Type} (P : Program) (t : TypeId) (D : α → List DV) (wf : α → Prop) : Prop :=
  ∀ (H : Type) (enc : TypeId × Value → H) (W : World) (fuel : Nat) (cs : List Value) (x : DataW H × List MemPlace),
    DataW.trod enc P W 0 (fun _ => true) true fuel t cs = some x → ∃ a : α, VRs (ofW W) (D a) cs ∧ wf a

theorem Opn.int {t : TypeId} {k : IntKind} (ht : P.underlying t = some (.int k)) : Opn P t (fun n : Int => [.int k n]) (fun n => (Lit.int k n).wf = true) := by
  intro H enc W fuel cs x h
  obtain ⟨n, rfl, _, wn⟩ := DataW.trod_int ht h
  exact ⟨n, .one rfl (.int k n), wn⟩
theorem Opn.bool {t : TypeId} (ht : P.underlying t = some .bool) : Opn P t (fun b : Bool => [.bool b]) (fun _ => True) := by
  intro H enc W fuel cs x h
  obtain ⟨b, rfl, _⟩ := DataW.trod_bool ht h
  exact ⟨b, .one rfl (.bool b), trivial⟩
theorem Opn.string {t : TypeId} (ht : P.underlying t = some .string) : Opn P t (fun s : ByteArray => [.str s]) (fun s => s.size ≤ maxLen) := by
  intro H enc W fuel cs x h
  obtain ⟨s, rfl, _, hs⟩ := DataW.trod_string ht h
  exact ⟨s, .one rfl (.str s), hs⟩

theorem cells_of {w : World} {a : Addr} {n : Nat} {cs : List Value} (h : w.cells? 0 a n = some cs) : cs.length = n ∧ ∀ i u, cs[i]? = some u → w.cell? (a.add i) = some u := by
  unfold World.cells? at h
  rw [if_pos (Nat.zero_le _)] at h
  have hl := mapM_some_length h
  simp at hl
  refine ⟨hl, fun i u hu => ?_⟩
  have hi : i < n := by have := (List.getElem?_eq_some_iff.1 hu).1; omega
  have := mapM_some_get h i i (by simp [hi])
  rw [this, hu]

theorem add_add (a : Addr) (i j : Nat) : (a.add i).add j = a.add (i + j) := by
  unfold Addr.add
  by_cases hi : i = 0 <;> by_cases hj : j = 0 <;> simp [hi, hj, Nat.add_assoc]

theorem gather {β : Type} (Q : Nat → β → Prop) (len : Nat) (h : ∀ i, i < len → ∃ b, Q i b) : ∃ xs : List β, xs.length = len ∧ ∀ i b, xs[i]? = some b → Q i b := by
  induction len with
  | zero => exact ⟨[], rfl, fun i b hb => by simp at hb⟩
  | succ m ih =>
    obtain ⟨xs, hl, hx⟩ := ih (fun i hi => h i (by omega))
    obtain ⟨b, hb⟩ := h m (by omega)
    refine ⟨xs ++ [b], by simp [hl], fun i b' hb' => ?_⟩
    rcases Nat.lt_or_ge i xs.length with hi | hi
    · rw [List.getElem?_append_left hi] at hb'
      exact hx i b' hb'
    · have hi' : i = xs.length := by
        have := (List.getElem?_eq_some_iff.1 hb').1
        simp at this
        omega
      subst hi'
      simp at hb'
      subst hb'
      rw [hl]
      exact hb

theorem cell_spot {w : World} {a : Addr} {j : Nat} {u : Value} (h : w.cell? (a.add j) = some u) : a.add j = ⟨a.block, a.off + j, none⟩ := by
  have hs : (a.add j).spot = none := by
    unfold World.cell? at h
    split at h
    · split at h
      · cases h
      · rename_i hn; cases hh : (a.add j).spot <;> simp_all
    · cases h
  unfold Addr.add at hs ⊢
  by_cases hj : j = 0
  · subst hj
    simp at hs ⊢
    cases a
    simp at hs
    simp [hs]
  · simp [hj] at hs ⊢
    try exact hs

/-- A slice. -/
theorem Opn.slice {α : Type} {t e : TypeId} {st : Nat} {D : α → List DV} {wf : α → Prop} (ht : P.underlying t = some (.slice e)) (hsz : P.cellsOf e = st) (hst : 0 < st) (hD : ∀ a, (D a).length = st) (hK : Opn P e D wf) :
    Opn P t (fun xs : List α => [.ro 0 (xs.map D)]) (fun xs => xs.length ≤ maxLen ∧ ∀ x ∈ xs, wf x) := by
  intro H enc W fuel cs x h
  rcases DataW.trod_slice ht h with ⟨rfl, _⟩ | ⟨a, len, cap, elems, rest, n, _, rfl, _, _, hl, hm, hlen, hel, _, _⟩
  · exact ⟨[], .one rfl (.roE 0 none 0 (fun h => by cases h)), by simp, by simp⟩
  have key : ∀ i, i < len → ∃ b : α, wf b ∧ ∀ j d, (D b)[j]? = some d → ∃ u, W.cell? (a.add (i * st + j)) = some u ∧ d.one = true ∧ VR (ofW W) d u := by
    intro i hi
    have h1 := hel i hi
    rw [List.getElem?_eq_getElem (by omega)] at h1
    obtain ⟨c, hc, ht1⟩ := Option.bind_eq_some_iff.1 h1
    obtain ⟨b, hb, hw⟩ := hK H enc W n c _ ht1
    obtain ⟨hcl, hcc⟩ := cells_of hc
    refine ⟨b, hw, fun j d hd => ?_⟩
    have hj := (List.getElem?_eq_some_iff.1 hd).1
    have hj' : j < c.length := by rw [hb.1]; exact hj
    have hcell := hcc j _ (List.getElem?_eq_getElem hj')
    rw [add_add, hsz] at hcell
    exact ⟨_, hcell, hb.2.1 d (List.mem_of_getElem? hd), hb.2.2 j d _ hd (List.getElem?_eq_getElem hj')⟩
  obtain ⟨xs, hxl, hx⟩ := gather (fun i (b : α) => wf b ∧ ∀ j d, (D b)[j]? = some d → ∃ u, W.cell? (a.add (i * st + j)) = some u ∧ d.one = true ∧ VR (ofW W) d u) len key
  subst hxl
  refine ⟨xs, .one rfl ?_, by omega, fun b hb => ?_⟩
  · by_cases h0 : xs = []
    · subst h0
      exact .roE 0 (some a) cap (fun h => by cases h)
    · have hpos : 0 < xs.length := List.length_pos_iff.2 h0
      have hone : ∀ (i j : Nat) (e' : List DV) (d : DV), (xs.map D)[i]? = some e' → e'[j]? = some d → ∃ u, W.cell? (a.add (i * st + j)) = some u ∧ d.one = true ∧ VR (ofW W) d u := fun i j e' d hi hj => by
        rw [List.getElem?_map] at hi
        cases hxi : xs[i]? with
        | none => rw [hxi] at hi; cases hi
        | some b => rw [hxi] at hi; simp at hi; subst hi; exact (hx i b hxi).2 j d hj
      have ha : a = ⟨a.block, a.off, none⟩ := by
        obtain ⟨u, hu, _⟩ := hone 0 0 (D xs[0]) ((D xs[0])[0]'(by rw [hD]; exact hst)) (by simp [List.getElem?_eq_getElem hpos]) (List.getElem?_eq_getElem _)
        have := cell_spot hu
        simp [Addr.add] at this
        exact this
      have hl' : (xs.map D).length = xs.length := by simp
      rw [ha, ← hl']
      refine .ro 0 st (xs.map D) a.block a.off cap (fun i j => (W.cell? (a.add (i * st + j))).getD undef) (fun e' he => ?_) (fun e' he d hd => ?_) (by rw [hl']; omega) (fun h => by cases h) (fun i j e' d hi hj => ?_) (fun i j e' d hi hj => ?_)
      · obtain ⟨b, _, rfl⟩ := List.mem_map.1 he; exact hD b
      · obtain ⟨i, hi, rfl⟩ := List.getElem_of_mem he
        obtain ⟨j, hj, rfl⟩ := List.getElem_of_mem hd
        obtain ⟨u, _, h1, _⟩ := hone i j _ _ (List.getElem?_eq_getElem hi) (List.getElem?_eq_getElem hj)
        exact h1
      · obtain ⟨u, hu, _, _⟩ := hone i j e' d hi hj
        simp only [ofW, tg]
        have hs := cell_spot hu
        rw [hs] at hu
        rw [if_neg (by simp), hs, hu, Nat.add_assoc, hu]
        rfl
      · obtain ⟨u, hu, _, hV⟩ := hone i j e' d hi hj
        rw [hu]; exact hV
  · obtain ⟨i, hi, rfl⟩ := List.getElem_of_mem hb
    exact (hx i _ (List.getElem?_eq_getElem hi)).1

/-- Fields in line, from the offset off on. -/
def OpnAt {α : Type} (P : Program) (fs : List Field) (off sz : Nat) (D : α → List DV) (wf : α → Prop) : Prop :=
  ∀ (H : Type) (enc : TypeId × Value → H) (W : World) (fuel : Nat) (cs : List Value) (_ : cs.length = sz)
    (_ : ∀ f ∈ fs, ∃ y, DataW.trod enc P W 0 (fun _ => true) true fuel f.type ((cs.drop (f.offset - off)).take (P.cellsOf f.type)) = some y), ∃ a : α, VRs (ofW W) (D a) cs ∧ wf a

theorem OpnAt.last {α : Type} {f : Field} {off sz : Nat} {D : α → List DV} {wf : α → Prop} (ho : f.offset = off) (hc : P.cellsOf f.type = sz) (h : Opn P f.type D wf) : OpnAt P [f] off sz D wf := by
  intro H enc W fuel cs hl hf
  obtain ⟨y, hy⟩ := hf f (by simp)
  rw [ho, Nat.sub_self, List.drop_zero, hc, ← hl, List.take_length] at hy
  exact h H enc W fuel cs y hy

theorem OpnAt.cons {α β : Type} {f : Field} {fs : List Field} {off n sz : Nat} {D : α → List DV} {wf : α → Prop} {D' : β → List DV} {wf' : β → Prop} (ho : f.offset = off) (hc : P.cellsOf f.type = n)
    (hoff : ∀ g ∈ fs, off + n ≤ g.offset) (h : Opn P f.type D wf) (h' : OpnAt P fs (off + n) sz D' wf') : OpnAt P (f :: fs) off (n + sz) (fun x : α × β => D x.1 ++ D' x.2) (fun x => wf x.1 ∧ wf' x.2) := by
  intro H enc W fuel cs hl hf
  obtain ⟨y, hy⟩ := hf f (by simp)
  rw [ho, Nat.sub_self, List.drop_zero, hc] at hy
  obtain ⟨a, ha, hwa⟩ := h H enc W fuel _ y hy
  obtain ⟨b, hb, hwb⟩ := h' H enc W fuel (cs.drop n) (by rw [List.length_drop]; omega) (fun g hg => by
    obtain ⟨z, hz⟩ := hf g (by simp [hg])
    refine ⟨z, ?_⟩
    have := hoff g hg
    rw [List.drop_drop, show n + (g.offset - (off + n)) = g.offset - off by omega]
    exact hz)
  refine ⟨(a, b), ?_, hwa, hwb⟩
  have := ha.append hb
  rwa [List.take_append_drop] at this

/-- A record. -/
theorem Opn.struct {α : Type} {t : TypeId} {fs : Array Field} {sz : Nat} {D : α → List DV} {wf : α → Prop} (ht : P.underlying t = some (.struct fs)) (hc : P.cellsOf t = sz) (h : OpnAt P fs.toList 0 sz D wf) : Opn P t D wf := by
  intro H enc W fuel cs x hx
  obtain ⟨xs, n, _, rfl, hl, hlen, hf⟩ := DataW.trod_struct ht hx
  refine h H enc W n cs (by omega) (fun f hfm => ?_)
  obtain ⟨i, hi, he⟩ := List.getElem_of_mem hfm
  have hi' : i < fs.size := by simpa using hi
  have := hf i f (by rw [Array.getElem?_eq_getElem hi']; simpa using congrArg some he)
  simp only [Nat.sub_zero]
  rw [this]
  exact ⟨_, List.getElem?_eq_getElem (by omega)⟩

/-- By another name. -/
theorem Opn.iso {α β : Type} {t : TypeId} {D : α → List DV} {wf : α → Prop} {D' : β → List DV} {wf' : β → Prop} (g : α → β) (hg : ∀ a, D' (g a) = D a) (hw : ∀ a, wf a → wf' (g a)) (h : Opn P t D wf) : Opn P t D' wf' := by
  intro H enc W fuel cs x hx
  obtain ⟨a, ha, hwa⟩ := h H enc W fuel cs x hx
  exact ⟨g a, by rw [hg]; exact ha, hw a hwa⟩

/-- A law's run: what it says of the machine's call. -/
theorem law_calls {E : Env} (hE : EnvOK P E) {f : FuncId} {args : List DV} {vs : Array Value} {W : World} {b : Bool} (q : callD (R E) f args .pure [] = some (.bool b, [])) (A : ArgsVR (ofW W) args vs) :
    Calls P f vs W fun e W' => e = .returned (.bool b) ∧ Below W.heap.size W W' := by
  obtain ⟨_, h⟩ := callD_OK (R_OK hE) q (ofW_rel W) A
  refine h.mono fun e W' ⟨v, C', he, hr, hs, hv⟩ => ?_
  have := hv.bool_inv
  subst this
  refine ⟨he, hs.os, hs.tape, hs.output, hs.size, fun k hk => hs.block k hk (fun ho => ?_)⟩
  rcases ho with ⟨n, v, e, st, L, m, hm, _⟩ | ⟨n, hm⟩
  · cases hm
  · cases hm

end Go.Proofs.Ytdlonbcefhimaaa.XD
