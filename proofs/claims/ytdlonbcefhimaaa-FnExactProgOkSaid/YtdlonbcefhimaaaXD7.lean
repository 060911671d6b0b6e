/- What is proved: the evaluator's operations that make or write memory. No condition. -/
import Derived.Test.YtdlonbcefhimaaaXD6
namespace Go.Proofs.Ytdlonbcefhimaaa.XD
open Go Go.RowKit
set_option linter.all false

section
variable {P : Program} {C : Ctx} {s : List DV} {a : Act} {w : World} {h : Heap} {o : Oper} {r : DV} {h' : Heap}

theorem zeroP_run {t : TypeId} {vs : List Value} (hz : zeroP P t = some vs) : ∃ i z, P.info? t = some i ∧ i.zero = some z ∧ z.cells.toList = vs := by
  obtain ⟨z, h1, h2⟩ := map_some hz
  cases hi : P.info? t with
  | none => rw [hi] at h1; cases h1
  | some i => rw [hi] at h1; exact ⟨i, z, rfl, h1, h2⟩

theorem okZs_run {t : TypeId} {z : List DV} (hz : okZs P t z = true) : ∃ i zv, P.info? t = some i ∧ i.zero = some zv ∧ okCs zv.cells.toList z = true := by
  unfold okZs at hz
  split at hz
  · rename_i vs hvs
    obtain ⟨i, zv, h1, h2, h3⟩ := zeroP_run hvs
    exact ⟨i, zv, h1, h2, h3 ▸ hz⟩
  · cases hz

theorem okCs_VR {vs : List Value} {ds : List DV} (h : okCs vs ds = true) : vs.length = ds.length ∧ (∀ c ∈ ds, c.one = true) ∧ (∀ v ∈ vs, v.oneCell' = true) ∧ ∀ (i : Nat) c, ds[i]? = some c → ∃ u, vs[i]? = some u ∧ VR C c u := by
  obtain ⟨h1, h2⟩ := okCs_get h
  refine ⟨h1, fun c hc => ?_, fun v hv => ?_, fun i c q => ?_⟩
  · obtain ⟨i, hi, rfl⟩ := List.getElem_of_mem hc
    exact (okC_one (h2 i _ _ (List.getElem?_eq_getElem (by omega)) (List.getElem?_eq_getElem hi))).1
  · obtain ⟨i, hi, rfl⟩ := List.getElem_of_mem hv
    exact (okC_one (h2 i _ _ (List.getElem?_eq_getElem hi) (List.getElem?_eq_getElem (by omega)))).2
  · have hi := (List.getElem?_eq_some_iff.1 q).1
    exact ⟨vs[i], List.getElem?_eq_getElem (by omega), okC_VR (h2 i _ _ (List.getElem?_eq_getElem (by omega)) q)⟩

theorem sim_alloc {e : TypeId} {z : List DV} (ho : o.op = .alloc e) (hz : okZs P e z = true) (H : WRel C w h) (q : opD s h (.new e z) = some (r, h')) : Sim P o a C w r h' := by
  obtain ⟨i, zv, h1, h2, h3⟩ := okZs_run hz
  obtain ⟨b1, b2, _, b3⟩ := okCs_VR (C := C) h3
  simp only [opD] at q
  split at q
  · cases q
  · injection q with q; injection q with q q'
    subst q; subst q'
    refine sim_new H (e := e) (vs := zv.cells) ?_ (by simpa using b1) b2 (fun i c p => ?_)
    · simp [execOp, ho, Instr.alloc, zeroValue, typeInfo, h1, h2, newVar, newRow]
    · obtain ⟨u, hu, hV⟩ := b3 i c p
      exact ⟨u, by simpa using hu, hV⟩

theorem sim_box {e : TypeId} {x : Operand} {x' : DX} {sz : Nat} (ho : o.op = .box e x) (hx : okX x x' = true) (T : TR C s a) (H : WRel C w h) (q : opD s h (.box e sz x') = some (r, h')) : Sim P o a C w r h' := by
  simp only [opD] at q
  split at q
  · rename_i d hd
    split at q
    · rename_i hc
      injection q with q; injection q with q q'
      subst q; subst q'
      obtain ⟨c1, c2, c3⟩ := hc
      obtain ⟨b1, b2, b3⟩ := (ev_VR T hx hd).cells c3
      rw [← c1]
      refine sim_new H (e := e) (vs := (a.eval x).cells) ?_ b1 (fun c p => List.all_eq_true.1 c3 c p) b3
      simp [execOp, ho, Instr.box, newVar, newRow]
    · cases q
  · cases q

/-! ### a part written into an aggregate -/

theorem splice_get {α : Type} {z : List α} {off : Nat} {cs : List α} (h : off + cs.length ≤ z.length) (k : Nat) : (splice z off cs)[k]? = if off ≤ k ∧ k < off + cs.length then cs[k - off]? else z[k]? := by
  unfold splice
  have h1 : (z.take off).length = off := by simp; omega
  rcases Nat.lt_or_ge k off with hk | hk
  · rw [List.getElem?_append_left (by omega), List.getElem?_take, if_pos hk, if_neg (by omega)]
  · rw [List.getElem?_append_right (by omega), h1]
    rcases Nat.lt_or_ge (k - off) cs.length with hc | hc
    · rw [List.getElem?_append_left hc, if_pos (by omega)]
    · rw [List.getElem?_append_right hc, List.getElem?_drop, if_neg (by omega), show off + cs.length + (k - off - cs.length) = k by omega]

theorem splice_length {α : Type} {z : List α} {off : Nat} {cs : List α} (h : off + cs.length ≤ z.length) : (splice z off cs).length = z.length := by
  unfold splice
  simp
  omega

theorem splice_one {z : List DV} {off : Nat} {cs : List DV} (hz : ∀ c ∈ z, c.one = true) (hc : ∀ c ∈ cs, c.one = true) : ∀ c ∈ splice z off cs, c.one = true := by
  intro c p
  unfold splice at p
  simp only [List.mem_append] at p
  rcases p with p | p | p
  · exact hz c (List.mem_of_mem_take p)
  · exact hc c p
  · exact hz c (List.mem_of_mem_drop p)

/-- Cells that stand for an aggregate's. -/
def CellsVR (C : Ctx) (z : List DV) (vs : Array Value) : Prop := vs.size = z.length ∧ ∀ (i : Nat) c, z[i]? = some c → ∃ u, vs[i]? = some u ∧ VR C c u

theorem foldl_set {n : Nat} : ∀ (us : List Value) (off j0 : Nat) (cells : Array Value), cells.size = n →
    ((us.zipIdx j0).foldl (fun cs (x : Value × Nat) => cs.setIfInBounds (off + x.2) x.1) cells).size = n ∧
    ∀ k, ((us.zipIdx j0).foldl (fun cs (x : Value × Nat) => cs.setIfInBounds (off + x.2) x.1) cells)[k]? = if off + j0 ≤ k ∧ k < off + j0 + us.length ∧ k < n then us[k - (off + j0)]? else cells[k]? := by
  intro us
  induction us with
  | nil => intro off j0 cells hn; exact ⟨hn, fun k => by rw [if_neg (by simp; omega)]; rfl⟩
  | cons u us ih =>
    intro off j0 cells hn
    simp only [List.zipIdx_cons, List.foldl_cons]
    obtain ⟨h1, h2⟩ := ih off (j0 + 1) (cells.setIfInBounds (off + j0) u) (by simpa using hn)
    refine ⟨h1, fun k => ?_⟩
    rw [h2 k]
    by_cases hk : k = off + j0
    · subst hk
      rw [if_neg (by omega)]
      by_cases hn' : off + j0 < n
      · rw [if_pos ⟨Nat.le_refl _, by simp, hn'⟩]
        simp [hn, hn']
      · rw [if_neg (by omega)]
        rw [Array.getElem?_eq_none (by simp; omega), Array.getElem?_eq_none (by omega)]
    · by_cases hc : off + (j0 + 1) ≤ k ∧ k < off + (j0 + 1) + us.length ∧ k < n
      · rw [if_pos hc, if_pos ⟨by omega, by simp; omega, hc.2.2⟩, show k - (off + j0) = (k - (off + (j0 + 1))) + 1 by omega, List.getElem?_cons_succ]
      · rw [if_neg hc, Array.getElem?_setIfInBounds_ne (Ne.symm hk)]
        rw [if_neg (by simp; omega)]

theorem CellsVR.splice {z cs : List DV} {vs us : Array Value} {off : Nat} (hz : CellsVR C z vs) (hc : CellsVR C cs us) (h : off + cs.length ≤ z.length) :
    CellsVR C (splice z off cs) (us.zipIdx.foldl (fun cs (x : Value × Nat) => cs.setIfInBounds (off + x.2) x.1) vs) := by
  have he : us.zipIdx.foldl (fun cs (x : Value × Nat) => cs.setIfInBounds (off + x.2) x.1) vs = (us.toList.zipIdx 0).foldl (fun cs (x : Value × Nat) => cs.setIfInBounds (off + x.2) x.1) vs := by
    rw [← Array.foldl_toList]
    simp [Array.toList_zipIdx]
  rw [he]
  obtain ⟨h1, h2⟩ := foldl_set us.toList off 0 vs hz.1
  refine ⟨by rw [h1, splice_length h], fun i c q => ?_⟩
  rw [splice_get h] at q
  rw [h2 i]
  simp only [Nat.add_zero, Array.length_toList, hc.1]
  split at q
  · rename_i hi
    rw [if_pos ⟨hi.1, hi.2, by omega⟩]
    obtain ⟨u, hu, hV⟩ := hc.2 _ _ q
    exact ⟨u, by simpa using hu, hV⟩
  · rename_i hi
    have hlt := (List.getElem?_eq_some_iff.1 q).1
    rw [if_neg (fun hx => hi ⟨hx.1, hx.2.1⟩)]
    exact hz.2 i c q

theorem fillD_run {fs : Array Field} (T : TR C s a) {place : Nat → Option (Nat × Nat)} (hp : ∀ i f sz, fs[i]? = some f → sizeP P f.type = some sz → place i = some (f.offset, sz)) :
    ∀ {ps : List (Nat × Operand)} {qs : List (Nat × Nat × DX)} {z r : List DV} {vs : Array Value}, okPs fs P ps qs = true → fillD s qs z = some r → CellsVR C z vs → (∀ c ∈ z, c.one = true) →
      ∃ us, Instr.fill place vs (ps.map fun x => (x.1, a.eval x.2)) = some us ∧ CellsVR C r us ∧ ∀ c ∈ r, c.one = true
  | [], [], z, r, vs, _, q, hz, h1 => by simp only [fillD, Option.some.injEq] at q; subst q; exact ⟨vs, rfl, hz, h1⟩
  | [], _ :: _, _, _, _, h, _, _, _ => by simp [okPs] at h
  | _ :: _, [], _, _, _, h, _, _, _ => by simp [okPs] at h
  | (i, x) :: ps, (off, sz, y) :: qs, z, r, vs, h, q, hz, h1 => by
    simp only [okPs, Bool.and_eq_true] at h
    obtain ⟨⟨hf, hx⟩, hrest⟩ := h
    simp only [fillD] at q
    split at q
    · rename_i d hd
      split at q
      · rename_i hc
        obtain ⟨c1, c2, c3⟩ := hc
        cases hfi : fs[i]? with
        | none => rw [hfi] at hf; cases hf
        | some f =>
          rw [hfi] at hf
          simp only [Bool.and_eq_true, beq_iff_eq] at hf
          obtain ⟨rfl, hsz⟩ := hf
          have hpl := hp i f sz hfi hsz
          obtain ⟨b1, b2, b3⟩ := (ev_VR T hx hd).cells c3
          have hz' := hz.splice (off := f.offset) (cs := d.cells) (us := (a.eval x).cells) ⟨b1, b3⟩ (by omega)
          obtain ⟨us, hus, hr, ho⟩ := fillD_run T hp hrest q hz' (splice_one h1 (fun c p => List.all_eq_true.1 c3 c p))
          refine ⟨us, ?_, hr, ho⟩
          simp only [List.map_cons, Instr.fill, hpl]
          have hcond : ¬ ((decide ((a.eval x).cells.size ≠ sz) || decide (f.offset + (a.eval x).cells.size > vs.size)) = true) := by
            simp only [b1, c1, hz.1]
            simp
            omega
          rw [if_neg hcond]
          exact hus
      · cases q
    · cases q

theorem mapM_sizes (fs : List Field) (hall : ∀ f ∈ fs, (P.info? f.type).isSome = true) : (fs.mapM (fun f => (do Pure.pure (f.offset, ← sizeOf f.type) : Sem (Nat × Nat)))).run P w = .ok (fs.map fun f => (f.offset, ((P.info? f.type).map (·.size)).getD 0)) w := by
  induction fs with
  | nil => simp
  | cons f fs ih =>
    obtain ⟨i, hi⟩ := Option.isSome_iff_exists.1 (hall f (by simp))
    simp [List.mapM_cons, sizeOf, typeInfo, hi] at ih ⊢
    simp [ih (fun f hf => hall f (by simp [hf]))]

end

end Go.Proofs.Ytdlonbcefhimaaa.XD
