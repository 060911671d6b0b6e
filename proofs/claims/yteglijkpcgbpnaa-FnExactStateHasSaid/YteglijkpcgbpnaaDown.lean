/- What is proved: an argument that can be read as data is of the print's kinds (whole numbers, bools, strings, slices, records of these, nested), with its numbers in range and its lengths bounded. No condition. -/
import Derived.Test.YteglijkpcgbpnaaWMore
import Derived.ChangeArms
import Derived.ChangeSame
import Derived.ChangeSlices
import Derived.ProofKit
import Derived.Lib.SmallJoins
namespace Go.Proofs.Yteglijkpcgbpnaa.Down
open Go.RowKit Go.Proofs.YteglijkpcgbpnaaW.PrintWords
variable {P : Program} {H : Type} {enc : TypeId × Value → H}

/-- Cells that read as data of type t are of the kind K, and what they say is well formed. -/
def Opens {α : Type} (P : Program) (t : TypeId) (K : Kd α) (wf : α → Prop) : Prop :=
  ∀ (H : Type) (enc : TypeId × Value → H) (W : World) (fuel : Nat) (cs : List Value) (x : DataW H × List MemPlace),
    DataW.trod enc P W 0 (fun _ => true) true fuel t cs = some x → ∃ a : α, K.K W a cs ∧ wf a

theorem Opens.int {t : TypeId} {k : IntKind} (ht : P.underlying t = some (.int k)) : Opens P t (Kd.int k) (fun n => (Lit.int k n).wf = true) := by
  intro H enc W fuel cs x h
  obtain ⟨n, rfl, _, wn⟩ := DataW.trod_int ht h
  exact ⟨n, rfl, wn⟩
theorem Opens.bool {t : TypeId} (ht : P.underlying t = some .bool) : Opens P t Kd.bool (fun _ => True) := by
  intro H enc W fuel cs x h
  obtain ⟨b, rfl, _⟩ := DataW.trod_bool ht h
  exact ⟨b, rfl, trivial⟩
theorem Opens.string {t : TypeId} (ht : P.underlying t = some .string) : Opens P t Kd.string (fun s => s.size ≤ maxLen) := by
  intro H enc W fuel cs x h
  obtain ⟨s, rfl, _, hs⟩ := DataW.trod_string ht h
  exact ⟨s, rfl, hs⟩

theorem cells_of_cells? {w : World} {a : Addr} {n : Nat} {cs : List Value} (h : w.cells? 0 a n = some cs) : cs.length = n ∧ ∀ i u, cs[i]? = some u → w.cell? (a.add i) = some u := by
  unfold World.cells? at h
  rw [if_pos (Nat.zero_le _)] at h
  have hl := mapM_some_length h
  simp at hl
  refine ⟨hl, fun i u hu => ?_⟩
  have hi : i < n := by have := (List.getElem?_eq_some_iff.1 hu).1; omega
  have := mapM_some_get h i i (by simp [hi])
  rw [this, hu]

theorem addr_add_add (a : Addr) (i j : Nat) : (a.add i).add j = a.add (i + j) := by
  unfold Addr.add
  by_cases hi : i = 0 <;> by_cases hj : j = 0 <;> simp [hi, hj, Nat.add_assoc]

theorem collect {β : Type} (Q : Nat → β → Prop) (len : Nat) (h : ∀ i, i < len → ∃ b, Q i b) : ∃ xs : List β, xs.length = len ∧ ∀ i b, xs[i]? = some b → Q i b := by
  induction len with
  | zero => exact ⟨[], rfl, fun i b hb => by simp at hb⟩
  | succ m ih =>
    obtain ⟨xs, hl, hx⟩ := ih (fun i hi => h i (by omega))
    obtain ⟨b, hb⟩ := h m (by omega)
    refine ⟨xs ++ [b], by simp [hl], fun i b' hb' => ?_⟩
    rcases Nat.lt_or_ge i xs.length with hi | hi
    · rw [List.getElem?_append_left hi] at hb'
      exact hx i b' hb'
    · have hi' : i = xs.length := by
        have := (List.getElem?_eq_some_iff.1 hb').1
        simp at this
        omega
      subst hi'
      simp at hb'
      subst hb'
      rw [hl]
      exact hb

/-- A slice. -/
theorem Opens.slice {α : Type} {t e : TypeId} {K : Kd α} {wf : α → Prop} (ht : P.underlying t = some (.slice e)) (hsz : P.cellsOf e = K.sz) (hK : Opens P e K wf) :
    Opens P t (Kd.slice e K) (fun xs => xs.length ≤ maxLen ∧ ∀ x ∈ xs, wf x) := by
  intro H enc W fuel cs x h
  rcases DataW.trod_slice ht h with ⟨rfl, _⟩ | ⟨a, len, cap, elems, rest, n, _, rfl, _, _, hl, hm, hlen, hel, _, _⟩
  · exact ⟨[], ⟨none, 0, rfl, Nat.le_refl _, ⟨rfl, by simp, fun hh => absurd hh (by simp)⟩⟩, by simp, by simp⟩
  have key : ∀ i, i < len → ∃ (b : α) (c : List Value), K.K W b c ∧ wf b ∧ c.length = K.sz ∧ ∀ j u, c[j]? = some u → W.cell? (a.add (i * K.sz + j)) = some u := by
    intro i hi
    have h1 := hel i hi
    rw [List.getElem?_eq_getElem (by omega)] at h1
    obtain ⟨c, hc, ht1⟩ := Option.bind_eq_some_iff.1 h1
    obtain ⟨b, hb, hw⟩ := hK H enc W n c _ ht1
    obtain ⟨hcl, hcc⟩ := cells_of_cells? hc
    refine ⟨b, c, hb, hw, K.K_len hb, fun j u hu => ?_⟩
    have := hcc j u hu
    rwa [addr_add_add, hsz] at this
  have hxs := collect (fun i (b : α) => wf b ∧ ∃ c : List Value, c.length = K.sz ∧ K.K W b c ∧ ∀ j u, c[j]? = some u → W.cell? (a.add (i * K.sz + j)) = some u) len (fun i hi => by
    obtain ⟨b, c, h1, h2, h3, h4⟩ := key i hi
    exact ⟨b, h2, c, h3, h1, h4⟩)
  obtain ⟨xs, hxl, hx⟩ := hxs
  subst hxl
  refine ⟨xs, ⟨some a, cap, rfl, hl, ⟨rfl, by unfold maxLen at hm; omega, fun _ => ⟨a, rfl, fun j p hp => ?_⟩⟩⟩, by omega, fun b hb => ?_⟩
  · obtain ⟨_, c, h1, h2, h3⟩ := hx j p hp
    exact ⟨c, h1, h2, h3⟩
  · obtain ⟨i, hi, rfl⟩ := List.getElem_of_mem hb
    exact (hx i _ (List.getElem?_eq_getElem hi)).1

/-- Fields in line, from the offset off on. -/
def OpensAt {α : Type} (P : Program) (fs : List Field) (off sz : Nat) (K : Kd α) (wf : α → Prop) : Prop :=
  ∀ (H : Type) (enc : TypeId × Value → H) (W : World) (fuel : Nat) (cs : List Value) (_ : cs.length = sz)
    (_ : ∀ f ∈ fs, ∃ y, DataW.trod enc P W 0 (fun _ => true) true fuel f.type ((cs.drop (f.offset - off)).take (P.cellsOf f.type)) = some y), ∃ a : α, K.K W a cs ∧ wf a

theorem OpensAt.last {α : Type} {f : Field} {off sz : Nat} {K : Kd α} {wf : α → Prop} (ho : f.offset = off) (hc : P.cellsOf f.type = sz) (h : Opens P f.type K wf) : OpensAt P [f] off sz K wf := by
  intro H enc W fuel cs hl hf
  obtain ⟨y, hy⟩ := hf f (by simp)
  rw [ho, Nat.sub_self, List.drop_zero, hc, ← hl, List.take_length] at hy
  exact h H enc W fuel cs y hy

theorem OpensAt.cons {α β : Type} {f : Field} {fs : List Field} {off n sz : Nat} {K : Kd α} {wf : α → Prop} {K' : Kd β} {wf' : β → Prop} (ho : f.offset = off) (hc : P.cellsOf f.type = n)
    (hoff : ∀ g ∈ fs, off + n ≤ g.offset) (h : Opens P f.type K wf) (h' : OpensAt P fs (off + n) sz K' wf') : OpensAt P (f :: fs) off (n + sz) (Kd.pair K K') (fun x => wf x.1 ∧ wf' x.2) := by
  intro H enc W fuel cs hl hf
  obtain ⟨y, hy⟩ := hf f (by simp)
  rw [ho, Nat.sub_self, List.drop_zero, hc] at hy
  obtain ⟨a, ha, hwa⟩ := h H enc W fuel _ y hy
  obtain ⟨b, hb, hwb⟩ := h' H enc W fuel (cs.drop n) (by rw [List.length_drop]; omega) (fun g hg => by
    obtain ⟨z, hz⟩ := hf g (by simp [hg])
    refine ⟨z, ?_⟩
    have := hoff g hg
    rw [List.drop_drop, show n + (g.offset - (off + n)) = g.offset - off by omega]
    exact hz)
  exact ⟨(a, b), ⟨cs.take n, cs.drop n, (List.take_append_drop n cs).symm, ha, hb⟩, hwa, hwb⟩

/-- A record. -/
theorem Opens.struct {α : Type} {t : TypeId} {fs : Array Field} {sz : Nat} {K : Kd α} {wf : α → Prop} (ht : P.underlying t = some (.struct fs)) (hc : P.cellsOf t = sz) (h : OpensAt P fs.toList 0 sz K wf) : Opens P t K wf := by
  intro H enc W fuel cs x hx
  obtain ⟨xs, n, _, rfl, hl, hlen, hf⟩ := DataW.trod_struct ht hx
  refine h H enc W n cs (by omega) (fun f hfm => ?_)
  obtain ⟨i, hi, he⟩ := List.getElem_of_mem hfm
  have hi' : i < fs.size := by simpa using hi
  have := hf i f (by rw [Array.getElem?_eq_getElem hi']; simpa using congrArg some he)
  simp only [Nat.sub_zero]
  rw [this]
  exact ⟨_, List.getElem?_eq_getElem (by omega)⟩

/-- By another name. -/
theorem Opens.iso {α β : Type} {t : TypeId} {K : Kd α} {wf : α → Prop} (f : β → α) (g : α → β) (hfg : ∀ a, f (g a) = a) (h : Opens P t K wf) : Opens P t (Kd.iso K f) (fun b => wf (f b)) := by
  intro H enc W fuel cs x hx
  obtain ⟨a, ha, hw⟩ := h H enc W fuel cs x hx
  refine ⟨g a, ?_, ?_⟩
  · show K.K W (f (g a)) cs
    rw [hfg]
    exact ha
  · show wf (f (g a))
    rw [hfg]
    exact hw

end Go.Proofs.Yteglijkpcgbpnaa.Down
