/- What is proved: the evaluator's operations on addresses, fields, elements, lengths, loads. No condition. -/
import Derived.Test.YtdlonbcefhimaaaXD5
namespace Go.Proofs.Ytdlonbcefhimaaa.XD
open Go Go.RowKit
set_option linter.all false

theorem add_at (g o k : Nat) : (⟨g, o, none⟩ : Addr).add k = ⟨g, o + k, none⟩ := by unfold Addr.add; split <;> simp_all

theorem collect {β : Type} (Q : Nat → β → Prop) (n : Nat) (h : ∀ i, i < n → ∃ b, Q i b) : ∃ xs : List β, xs.length = n ∧ ∀ (i : Nat) b, xs[i]? = some b → Q i b := by
  induction n with
  | zero => exact ⟨[], rfl, fun i b q => by simp at q⟩
  | succ n ih =>
    obtain ⟨xs, h1, h2⟩ := ih (fun i hi => h i (by omega))
    obtain ⟨b, hb⟩ := h n (by omega)
    refine ⟨xs ++ [b], by simp [h1], fun i c q => ?_⟩
    rcases Nat.lt_or_ge i xs.length with hi | hi
    · rw [List.getElem?_append_left hi] at q; exact h2 i c q
    · rw [List.getElem?_append_right hi] at q
      have : i = n := by
        have := (List.getElem?_eq_some_iff.1 q).1
        simp at this
        omega
      subst this
      rw [h1] at q
      simp at q
      subst q
      exact hb

section
variable {P : Program} {C : Ctx} {s : List DV} {a : Act} {w : World} {h : Heap} {o : Oper} {r : DV} {h' : Heap}

theorem VR.agg_inv {cs : List DV} {v : Value} (hv : VR C (.agg cs) v) : ∃ vs : Array Value, v = .agg vs ∧ vs.size = cs.length ∧ (∀ c ∈ cs, c.one = true) ∧ ∀ (i : Nat) c, cs[i]? = some c → ∃ u, vs[i]? = some u ∧ VR C c u := by
  cases hv with
  | agg _ vs hl h1 hh =>
    refine ⟨vs, rfl, hl, h1, fun i c q => ?_⟩
    have hi := (List.getElem?_eq_some_iff.1 q).1
    have hu : vs[i]? = some vs[i] := Array.getElem?_eq_getElem (by omega)
    exact ⟨_, hu, hh i c _ q hu⟩

/-- A named row's element, in the machine. -/
theorem WRel.elem (H : WRel C w h) {n st m i : Nat} {es : List (List DV)} {cs : List DV} {e : TypeId} (hn : h[n]? = some (.arr e st es m)) (hi : es[i]? = some cs) {v : Value} {L : Nat}
    (hm : C.μ n = some (.row v e st L m)) {g cap : Nat} (hv : v = .slice (some ⟨g, 0, none⟩) L cap) :
    cs.length = st ∧ (∀ c ∈ cs, c.one = true) ∧ ∀ (j : Nat) c, cs[j]? = some c → ∃ u, w.cell? ⟨g, i * st + j, none⟩ = some u ∧ VR C c u := by
  obtain ⟨es', xs, a1, a2, a3, a4, a5, a6, a7⟩ := H.arr n v e st L m hm
  rw [hn] at a1
  injection a1 with a1
  injection a1 with x0 x1 x2 x3
  subst x2
  have hmem : cs ∈ es := List.mem_of_getElem? hi
  refine ⟨a5 cs hmem, a6 cs hmem, fun j c hj => ?_⟩
  obtain ⟨u, hu, hV⟩ := a7 i j cs c hi hj
  refine ⟨u, ?_, hV⟩
  have := a4.cells (g := g) (by rw [hv]; rfl) (i * st + j) u hu
  rwa [add_at, Nat.zero_add] at this

/-- What a pointer points to. -/
theorem ptr_cells (H : WRel C w h) {n i off stamp st : Nat} {cs : List DV} {p : Value} (hp : VR C (.ptr n i off stamp) p) (he : elemAt h n i stamp = some (st, cs)) :
    ∃ g o', p = .pointer (some ⟨g, o' + off, none⟩) ∧ (∀ c ∈ cs, c.one = true) ∧ ∀ (j : Nat) c, cs[j]? = some c → ∃ u, w.cell? ⟨g, o' + j, none⟩ = some u ∧ VR C c u := by
  unfold elemAt at he
  split at he
  · rename_i e st' es m hn
    split at he
    · rename_i hms
      obtain ⟨cs', hi, hc⟩ := map_some he
      injection hc with q1 q2
      subst q1; subst q2
      obtain ⟨v, hm⟩ := H.named n e st' es m hn
      cases hp with
      | ptr _ _ _ _ ad hnx hh =>
        obtain ⟨h1, h2⟩ := hh v e st' _ m hm
        obtain ⟨h3, g, cap, hv, had⟩ := h2 hms
        obtain ⟨b1, b2, b3⟩ := H.elem hn hi hm hv
        exact ⟨g, i * st', by rw [had], b2, b3⟩
    · cases he
  · cases he

theorem rp_cells (H : WRel C w h) {t off : Nat} {cs : List DV} {p : Value} (hp : VR C (.rp t cs off) p) :
    ∃ g o', p = .pointer (some ⟨g, o' + off, none⟩) ∧ (∀ c ∈ cs, c.one = true) ∧ ∀ (j : Nat) c, cs[j]? = some c → ∃ u, w.cell? ⟨g, o' + j, none⟩ = some u ∧ VR C c u := by
  cases hp with
  | rp _ _ _ b o' vals h1 hF hh => exact ⟨b, o', rfl, h1, fun j c q => ⟨vals j, H.F _ _ _ _ (hF j c q), hh j c q⟩⟩

/-- A part of some cells, loaded. -/
theorem run_part {t : TypeId} {agg : Bool} {sz off g o' : Nat} {cs : List DV} {d : DV} (h1 : ∀ c ∈ cs, c.one = true) (hc : ∀ (j : Nat) c, cs[j]? = some c → ∃ u, w.cell? ⟨g, o' + j, none⟩ = some u ∧ VR C c u)
    (ha : aggP P t = some agg) (hs : sizeP P t = some sz) (hd : partD agg sz cs off = some d) : ∃ v, (loadVar t ⟨g, o' + off, none⟩).run P w = .ok v w ∧ VR C d v := by
  obtain ⟨ti, hti, hsz⟩ := map_some hs
  have hso : (sizeOf t).run P w = .ok sz w := by simp [sizeOf, typeInfo, hti, hsz]
  have hia : (isAgg t).run P w = .ok agg w := by
    unfold aggP at ha
    cases hu : P.underlying t with
    | none => rw [hu] at ha; cases ha
    | some e => rw [hu] at ha; simp only [isAgg, Sem.run_bind, run_underlying hu, Result.andThen_ok]; cases e <;> simp at ha <;> subst ha <;> rfl
  unfold partD at hd
  cases agg with
  | true =>
    simp only [if_true] at hd
    split at hd
    · rename_i hle
      injection hd with hd
      subst hd
      obtain ⟨us, hl, hus⟩ := collect (fun j u => w.cell? ⟨g, o' + off + j, none⟩ = some u ∧ ∀ c, cs[off + j]? = some c → VR C c u) sz (fun j hj => by
        obtain ⟨u, hu, hV⟩ := hc (off + j) _ (List.getElem?_eq_getElem (by omega))
        exact ⟨u, by rw [Nat.add_assoc]; exact hu, fun c q => by rw [List.getElem?_eq_getElem (by omega)] at q; injection q with q; subst q; exact hV⟩)
      have hr := run_loadCells_list (P := P) w ⟨g, o' + off, none⟩ us (fun j u q => by rw [add_at]; exact (hus j u q).1)
      rw [hl] at hr
      refine ⟨.agg us.toArray, by simp [loadVar, hia, hso, hr], .agg _ _ (by simp [hl]; omega) (fun c q => h1 c (List.mem_of_mem_drop (List.mem_of_mem_take q))) (fun j c u q q' => ?_)⟩
      simp only [List.getElem?_take, List.getElem?_drop] at q
      split at q
      · exact (hus j u (by simpa using q')).2 c q
      · cases q
    · cases hd
  | false =>
    simp only [Bool.false_eq_true, if_false] at hd
    obtain ⟨u, hu, hV⟩ := hc off d hd
    exact ⟨u, by simp [loadVar, hia, hu], hV⟩

theorem sim_load {t : TypeId} {p : Operand} {p' : DX} {agg : Bool} {sz : Nat} (ho : o.op = .load t p) (hp : okX p p' = true) (ha : aggP P t = some agg) (hs : sizeP P t = some sz) (T : TR C s a) (H : WRel C w h)
    (q : opD s h (.load agg sz p') = some (r, h')) : Sim P o a C w r h' := by
  simp only [opD] at q
  split at q
  · rename_i n i off stamp hd
    split at q
    · rename_i st cs he
      obtain ⟨d, q1, q2⟩ := map_some q
      injection q2 with q2 q3
      subst q2; subst q3
      obtain ⟨g, o', e1, b1, b2⟩ := ptr_cells H (ev_VR T hp hd) he
      obtain ⟨v, hv, hV⟩ := run_part (P := P) b1 b2 ha hs q1
      exact Sim.pure H (v := v) (by simp [execOp, ho, Instr.loadAt, Instr.sureAddr, e1, hv]) hV
    · cases q
  · rename_i t' cs off hd
    obtain ⟨d, q1, q2⟩ := map_some q
    injection q2 with q2 q3
    subst q2; subst q3
    obtain ⟨g, o', e1, b1, b2⟩ := rp_cells H (ev_VR T hp hd)
    obtain ⟨v, hv, hV⟩ := run_part (P := P) b1 b2 ha hs q1
    exact Sim.pure H (v := v) (by simp [execOp, ho, Instr.loadAt, Instr.sureAddr, e1, hv]) hV
  · cases q

theorem sim_fld {t : TypeId} {x : Operand} {x' : DX} {fs : Array Field} {f : Field} {j : Nat} {agg : Bool} {sz : Nat} (ho : o.op = .field t x j) (hx : okX x x' = true) (ht : P.underlying t = some (.struct fs)) (hf : fs[j]? = some f)
    (ha : aggP P f.type = some agg) (hs : sizeP P f.type = some sz) (T : TR C s a) (H : WRel C w h) (q : opD s h (.fld agg f.offset sz x') = some (r, h')) : Sim P o a C w r h' := by
  simp only [opD] at q
  split at q
  · rename_i cs hd
    obtain ⟨d, q1, q2⟩ := map_some q
    injection q2 with q2 q3
    subst q2; subst q3
    obtain ⟨vs, e1, hl, h1, hvs⟩ := (ev_VR T hx hd).agg_inv
    obtain ⟨ti, hti, hsz⟩ := map_some hs
    have hso : (sizeOf f.type).run P w = .ok sz w := by simp [sizeOf, typeInfo, hti, hsz]
    have hia : (isAgg f.type).run P w = .ok agg w := by
      unfold aggP at ha
      cases hu : P.underlying f.type with
      | none => rw [hu] at ha; cases ha
      | some e => rw [hu] at ha; simp only [isAgg, Sem.run_bind, run_underlying hu, Result.andThen_ok]; cases e <;> simp at ha <;> subst ha <;> rfl
    unfold partD at q1
    cases agg with
    | true =>
      simp only [if_true] at q1
      split at q1
      · rename_i hle
        injection q1 with q1
        subst q1
        refine Sim.pure H (v := .agg (vs.extract f.offset (f.offset + sz))) (by simp [execOp, ho, Instr.field, run_underlying ht, hf, part, hia, hso, e1, asAgg]) (.agg _ _ (by simp; omega) (fun c q => h1 c (List.mem_of_mem_drop (List.mem_of_mem_take q))) (fun j c u p p' => ?_))
        simp only [List.getElem?_take, List.getElem?_drop] at p
        split at p
        · obtain ⟨u', hu', hV⟩ := hvs _ _ p
          rw [Array.getElem?_extract] at p'
          split at p'
          · rw [hu'] at p'
            injection p' with p'
            subst p'
            exact hV
          · cases p'
        · cases p
      · cases q1
    | false =>
      simp only [Bool.false_eq_true, if_false] at q1
      obtain ⟨u, hu, hV⟩ := hvs _ _ q1
      exact Sim.pure H (v := u) (by simp [execOp, ho, Instr.field, run_underlying ht, hf, part, hia, e1, asAgg, hu]) hV
  · cases q

theorem sim_fad {t : TypeId} {x : Operand} {x' : DX} {fs : Array Field} {f : Field} {j sz : Nat} (ho : o.op = .fieldAddr t x j) (hx : okX x x' = true) (ht : P.underlying t = some (.struct fs)) (hf : fs[j]? = some f)
    (hs : sizeP P f.type = some sz) (h0 : sz ≠ 0) (T : TR C s a) (H : WRel C w h) (q : opD s h (.fad f.offset x') = some (r, h')) : Sim P o a C w r h' := by
  obtain ⟨ti, hti, hsz⟩ := map_some hs
  have hso : (sizeOf f.type).run P w = .ok sz w := by simp [sizeOf, typeInfo, hti, hsz]
  have hfp : ∀ ad : Addr, (fieldPlace ad f).run P w = .ok (ad.add f.offset) w := fun ad => by simp [fieldPlace, hso, h0]
  simp only [opD] at q
  split at q
  · rename_i n i off st hd
    injection q with q; injection q with q q'
    subst q; subst q'
    have V := ev_VR T hx hd
    obtain ⟨ad, e1, hn, hh⟩ : ∃ ad, a.eval x = .pointer (some ad) ∧ n < C.nx ∧ ∀ v e st' L min, C.μ n = some (.row v e st' L min) → st ≤ L ∧ (min ≤ st → i < st ∧ ∃ g cap, v = .slice (some ⟨g, 0, none⟩) L cap ∧ ad = ⟨g, i * st' + off, none⟩) := by
      generalize a.eval x = vx at V
      cases V with
      | ptr _ _ _ _ ad hn hh => exact ⟨ad, rfl, hn, hh⟩
    refine Sim.pure H (v := .pointer (some (ad.add f.offset))) (by simp [execOp, ho, Instr.fieldAt, run_underlying ht, hf, Instr.sureAddr, e1, hfp]) (.ptr _ _ _ _ _ hn (fun v e st' L min hm => ?_))
    obtain ⟨h1, h2⟩ := hh v e st' L min hm
    refine ⟨h1, fun hms => ?_⟩
    obtain ⟨h3, g, cap, hv, had⟩ := h2 hms
    exact ⟨h3, g, cap, hv, by rw [had, add_at, Nat.add_assoc]⟩
  · rename_i t' cs off hd
    injection q with q; injection q with q q'
    subst q; subst q'
    have V := ev_VR T hx hd
    obtain ⟨b, o', vals, e1, h1, hF, hh⟩ : ∃ (b o' : Nat) (vals : Nat → Value), a.eval x = .pointer (some ⟨b, o' + off, none⟩) ∧ (∀ c ∈ cs, c.one = true) ∧ (∀ (j : Nat) c, cs[j]? = some c → C.F (tg t') b (o' + j) = some (vals j)) ∧ ∀ (j : Nat) c, cs[j]? = some c → VR C c (vals j) := by
      generalize a.eval x = vx at V
      cases V with
      | rp _ _ _ b o' vals h1 hF hh => exact ⟨b, o', vals, rfl, h1, hF, hh⟩
    refine Sim.pure H (v := .pointer (some ⟨b, o' + (off + f.offset), none⟩)) ?_ (.rp _ _ _ b o' vals h1 hF hh)
    simp [execOp, ho, Instr.fieldAt, run_underlying ht, hf, Instr.sureAddr, e1, hfp, add_at, Nat.add_assoc]
  · cases q

theorem elemP_run {t e : TypeId} {st b : Nat} (he : elemP P t = some (e, st, b)) : P.underlying t = some (.slice e) ∧ ∃ i, P.info? e = some i ∧ i.size = st ∧ i.bytes = b := by
  unfold elemP at he
  split at he
  · rename_i e' hu
    obtain ⟨i, h1, h2⟩ := map_some he
    injection h2 with h2 h3
    injection h3 with h3 h4
    subst h2
    exact ⟨hu, i, h1, h3, h4⟩
  · cases he

/-- A part of a named row that is still its own. -/
theorem nsl_part (H : WRel C w h) {n i len st m : Nat} {es : List (List DV)} {u : Value} (hu : VR C (.nsl n i len) u) {e : TypeId} (hn : h[n]? = some (.arr e st es m)) (h1 : m ≤ i + len) :
    ∃ v, C.μ n = some (.row v e st es.length m) ∧ n < C.nx ∧ PartOf v st i len u := by
  obtain ⟨v, hm⟩ := H.named n e st es m hn
  cases hu with
  | nsl _ _ _ _ hnx _ hh => exact ⟨v, hm, hnx, (hh v e st _ m hm).2 h1⟩

theorem PartOf.slice {v : Value} {st i len : Nat} {u : Value} (h : PartOf v st i len u) :
    (v = .slice none 0 0 ∧ i = 0 ∧ len = 0 ∧ u = .slice none 0 0) ∨ ∃ g L cap a, v = .slice (some ⟨g, 0, none⟩) L cap ∧ u = .slice a len (cap - i) ∧ len ≤ cap - i ∧ i + len ≤ L ∧ L ≤ cap ∧ (cap - i = 0 ∨ a = some ⟨g, i * st, none⟩) ∧ (i = 0 → a = some ⟨g, 0, none⟩) := by
  rcases h with h | ⟨g, L, cap, a, h1, h2, h3, h4, h5⟩
  · exact .inl h
  · exact .inr ⟨g, L, cap, a, h1, h2, by omega, h3, h4, h5⟩

/-- An index that is in range. -/
theorem run_indexAt_slice {t e : TypeId} {st b : Nat} (he : elemP P t = some (e, st, b)) (ad : Addr) (len cap : Nat) (k : IntKind) (i : Int) (h0 : 0 ≤ i) (h1 : i < (len : Int)) :
    (Instr.indexAt t (.slice (some ad) len cap) (.int k i)).run P w = .ok (.pointer (some (ad.add (i.toNat * st)))) w := by
  obtain ⟨hu, ti, hi, hs, _⟩ := elemP_run he
  have hso : (sizeOf e).run P w = .ok st w := by simp [sizeOf, typeInfo, hi, hs]
  simp [Instr.indexAt, asIntOf, run_underlying hu, h0, h1, hso]

theorem sim_iad {t e : TypeId} {st b : Nat} {x i : Operand} {x' i' : DX} (ho : o.op = .indexAddr t x i) (hx : okX x x' = true) (hi : okX i i' = true) (he : elemP P t = some (e, st, b)) (T : TR C s a) (H : WRel C w h)
    (q : opD s h (.iad st x' i') = some (r, h')) : Sim P o a C w r h' := by
  simp only [opD] at q
  split at q
  · rename_i n j len kk k hd hk
    split at q
    · rename_i e' st' es m hn
      split at q
      · rename_i hc
        injection q with q; injection q with q q'
        subst q; subst q'
        obtain ⟨hst', hc1, hc2, hc3, hc4⟩ := hc
        subst hst'
        have e2 := (ev_VR T hi hk).int_inv
        obtain ⟨v, hm, hnx, hp⟩ := nsl_part H (ev_VR T hx hd) hn hc1
        rcases hp.slice with ⟨_, _, hl, _⟩ | ⟨g, L, cap, ad, hv, hu, h1, h2, h3, h4, h5⟩
        · omega
        · have had : ad = some ⟨g, j * st', none⟩ := h4.resolve_left (by omega)
          subst had
          refine Sim.pure H (v := .pointer (some ⟨g, (j + k.toNat) * st' + 0, none⟩)) ?_ (.ptr _ _ _ _ _ hnx (fun v2 e2 st2 L2 min2 hm2 => ?_))
          · simp only [execOp, ho, hu, e2, Sem.run_bind]
            rw [run_indexAt_slice he _ _ _ _ _ hc3 hc4]
            simp [add_at, Nat.add_mul]
          · rw [hm] at hm2
            injection hm2 with hm2
            injection hm2 with x1 x2 x3 x4 x5
            subst x1; subst x3; subst x4; subst x5
            refine ⟨hc2, fun _ => ⟨by omega, g, cap, ?_, rfl⟩⟩
            rw [hv]
            obtain ⟨_, _, a1, a2, _, a4, _⟩ := H.arr _ _ _ _ _ _ hm
            have hLL : L = es.length := by
              rcases a4.2 with ⟨hz, _⟩ | ⟨g2, cap2, cur, hz, _⟩
              · rw [hv] at hz; cases hz
              · rw [hv] at hz; injection hz with z1 z2 z3; rw [z2]; omega
            rw [hLL]
      · cases q
    · cases q
  · rename_i t' es kk k hd hk
    split at q
    · rename_i h0
      split at q
      · rename_i cs q1
        split at q
        · rename_i hcl
          injection q with q; injection q with q2 q3
          subst q2; subst q3
          have e2 := (ev_VR T hi hk).int_inv
          have hlt := (List.getElem?_eq_some_iff.1 q1).1
          have V := ev_VR T hx hd
          generalize hax : a.eval x = vx at V
          cases V with
          | roE _ _ _ _ => simp at hlt
          | ro _ st' _ bb off cap vals hl h1 hc h2 hF hh =>
            have hst' : st' = st := by rw [← hl cs (List.mem_of_getElem? q1)]; exact hcl
            subst hst'
            refine Sim.pure H (v := .pointer (some ⟨bb, (off + k.toNat * st') + 0, none⟩)) ?_ (.rp _ _ _ bb (off + k.toNat * st') (fun j => vals k.toNat j) (h1 cs (List.mem_of_getElem? q1)) (fun j c p => ?_) (fun j c p => hh _ _ _ _ q1 p))
            · simp only [execOp, ho, hax, e2, Sem.run_bind]
              rw [run_indexAt_slice he _ _ _ _ _ h0 (by omega)]
              simp [add_at]
            · exact hF _ _ _ _ q1 p
        · cases q
      · cases q
    · cases q
  · cases q

theorem sim_idx {t : TypeId} {x i : Operand} {x' i' : DX} (ho : o.op = .index t x i) (hx : okX x x' = true) (hi : okX i i' = true) (ht : P.underlying t = some .string) (T : TR C s a) (H : WRel C w h)
    (q : opD s h (.idx x' i') = some (r, h')) : Sim P o a C w r h' := by
  simp only [opD] at q
  split at q
  · rename_i u kk k hd hk
    split at q
    · rename_i h0
      obtain ⟨b, q1, q2⟩ := map_some q
      injection q2 with q2 q3
      subst q2; subst q3
      have e1 := (ev_VR T hx hd).str_inv
      have e2 := (ev_VR T hi hk).int_inv
      exact Sim.pure H (v := .int .u8 b.toNat) (by simp [execOp, ho, e1, e2, Instr.index, asIntOf, run_underlying ht, h0, q1]) (.int _ _)
    · cases q
  · cases q

theorem sim_len {t e : TypeId} {st b : Nat} {c : Call} {x : Operand} {x' : DX} (ho : o.op = .call c) (h1 : c.callee = .builtin .len) (h2 : c.args.toList = [x]) (h3 : c.argTypes.toList = [t]) (hx : okX x x' = true) (he : elemP P t = some (e, st, b)) (T : TR C s a) (H : WRel C w h)
    (q : opD s h (.len x') = some (r, h')) : Sim P o a C w r h' := by
  have h2' : c.args = #[x] := by apply Array.toList_inj.1; simpa using h2
  have h3' : c.argTypes = #[t] := by apply Array.toList_inj.1; simpa using h3
  have hu := (elemP_run he).1
  simp only [opD] at q
  split at q
  · rename_i t' es hd
    injection q with q; injection q with q q'
    subst q; subst q'
    have V := ev_VR T hx hd
    obtain ⟨ad, cap, e1⟩ : ∃ ad cap, a.eval x = .slice ad es.length cap := by
      generalize a.eval x = vx at V
      cases V
      · exact ⟨_, _, rfl⟩
      · exact ⟨_, _, rfl⟩
    exact Sim.pure H (v := .int .i64 es.length) (by simp [execOp, ho, h1, h2', h3', resolve, invoke, builtin, Builtin.len_, run_underlying hu, e1, goInt]) (.int _ _)
  · rename_i n i len hd
    injection q with q; injection q with q q'
    subst q; subst q'
    have V := ev_VR T hx hd
    obtain ⟨ad, cap, e1⟩ : ∃ ad cap, a.eval x = .slice ad len cap := by
      generalize a.eval x = vx at V
      cases V with
      | nsl _ _ _ _ _ hu _ => exact hu
    exact Sim.pure H (v := .int .i64 len) (by simp [execOp, ho, h1, h2', h3', resolve, invoke, builtin, Builtin.len_, run_underlying hu, e1, goInt]) (.int _ _)
  · cases q

theorem sim_slen {t : TypeId} {c : Call} {x : Operand} {x' : DX} (ho : o.op = .call c) (h1 : c.callee = .builtin .len) (h2 : c.args.toList = [x]) (h3 : c.argTypes.toList = [t]) (hx : okX x x' = true) (hu : P.underlying t = some .string) (T : TR C s a) (H : WRel C w h)
    (q : opD s h (.slen x') = some (r, h')) : Sim P o a C w r h' := by
  have h2' : c.args = #[x] := by apply Array.toList_inj.1; simpa using h2
  have h3' : c.argTypes = #[t] := by apply Array.toList_inj.1; simpa using h3
  simp only [opD] at q
  split at q
  · rename_i u hd
    injection q with q; injection q with q q'
    subst q; subst q'
    have e1 := (ev_VR T hx hd).str_inv
    exact Sim.pure H (v := .int .i64 u.size) (by simp [execOp, ho, h1, h2', h3', resolve, invoke, builtin, Builtin.len_, run_underlying hu, e1, goInt]) (.int _ _)
  · cases q

theorem okO_some {lo : Option Operand} {lo' : Option DX} (h : okO lo lo' = true) : (lo = none ∧ lo' = none) ∨ ∃ x y, lo = some x ∧ lo' = some y ∧ okX x y = true := by
  cases lo <;> cases lo' <;> simp [okO] at h ⊢
  exact h

theorem run_bound {x : Operand} {y : DX} {d top r : Nat} (hx : okX x y = true) (T : TR C s a) (hb : bound s (some y) d top = some r) (y' : Nat) (hy : top ≤ y') (code : BoundsCode) : (Instr.sliceBound (a.eval x) y' code).run P w = .ok r w ∧ r ≤ top := by
  simp only [bound] at hb
  split at hb
  · rename_i k n hd
    split at hb
    · rename_i hc
      injection hb with hb
      subst hb
      have e1 := (ev_VR T hx hd).int_inv
      refine ⟨?_, by omega⟩
      rw [e1]
      simp only [Instr.sliceBound, asIntOf, Sem.run_bind, Sem.run_pure, Result.andThen_ok]
      rw [if_pos ⟨hc.1, by omega⟩]
      rfl
    · cases hb
  · cases hb

theorem run_bounds (isS : Bool) {lo hi : Option Operand} {lo' hi' : Option DX} (hlo : okO lo lo' = true) (hhi : okO hi hi' = true) (T : TR C s a) {len cap hv lv : Nat} (hlc : len ≤ cap)
    (b1 : bound s hi' len len = some hv) (b2 : bound s lo' 0 hv = some lv) :
    lv ≤ hv ∧ hv ≤ len ∧ (Instr.sliceBounds isS len cap (lo.map a.eval) (hi.map a.eval) none).run P w = .ok (lv, hv, cap) w := by
  rcases okO_some hhi with ⟨rfl, rfl⟩ | ⟨y, y', rfl, rfl, hy⟩
  · simp only [bound, Option.some.injEq] at b1
    subst b1
    rcases okO_some hlo with ⟨rfl, rfl⟩ | ⟨z, z', rfl, rfl, hz⟩
    · simp only [bound, Option.some.injEq] at b2
      subst b2
      exact ⟨Nat.zero_le _, Nat.le_refl _, by simp [Instr.sliceBounds]⟩
    · obtain ⟨q1, q2⟩ := run_bound (P := P) (w := w) hz T b2 len (Nat.le_refl _) .sliceB
      exact ⟨q2, Nat.le_refl _, by simp [Instr.sliceBounds, q1]⟩
  · obtain ⟨p1, p2⟩ := run_bound (P := P) (w := w) hy T b1 cap hlc (if isS then .sliceAcap else .sliceAlen)
    rcases okO_some hlo with ⟨rfl, rfl⟩ | ⟨z, z', rfl, rfl, hz⟩
    · simp only [bound, Option.some.injEq] at b2
      subst b2
      exact ⟨Nat.zero_le _, p2, by simp [Instr.sliceBounds, p1]⟩
    · obtain ⟨q1, q2⟩ := run_bound (P := P) (w := w) hz T b2 hv (Nat.le_refl _) .sliceB
      exact ⟨q2, p2, by simp [Instr.sliceBounds, p1, q1]⟩

theorem sim_slc {t e : TypeId} {st b : Nat} {x : Operand} {lo hi : Option Operand} {x' : DX} {lo' hi' : Option DX} (ho : o.op = .slice t x lo hi none) (hx : okX x x' = true) (hlo : okO lo lo' = true) (hhi : okO hi hi' = true) (he : elemP P t = some (e, st, b)) (T : TR C s a) (H : WRel C w h)
    (q : opD s h (.slc st x' lo' hi') = some (r, h')) : Sim P o a C w r h' := by
  obtain ⟨hu, ti, hi0, hs, _⟩ := elemP_run he
  have hso : (sizeOf e).run P w = .ok st w := by simp [sizeOf, typeInfo, hi0, hs]
  have bounds : ∀ (len cap hv lv : Nat), len ≤ cap → bound s hi' len len = some hv → bound s lo' 0 hv = some lv → lv ≤ hv ∧ hv ≤ len ∧ (Instr.sliceBounds true len cap (lo.map a.eval) (hi.map a.eval) none).run P w = .ok (lv, hv, cap) w := fun len cap hv lv hlc c1 c2 => run_bounds true hlo hhi T hlc c1 c2
  simp only [opD] at q
  split at q
  · rename_i n i len hd
    split at q
    · rename_i e' st' es m hn
      split at q
      · rename_i hv b1
        split at q
        · rename_i lv b2
          split at q
          · rename_i hc
            injection q with q; injection q with q q'
            subst q; subst q'
            obtain ⟨hst', hc1, hc2⟩ := hc
            subst hst'
            obtain ⟨v, hm, hnx, hp⟩ := nsl_part H (ev_VR T hx hd) hn hc1
            rcases hp.slice with ⟨hv0, hi1, hl, hu0⟩ | ⟨g, L, cap, ad, hv1, hu1, h1, h2, h2', h3, h4⟩
            · subst hl
              obtain ⟨k1, k2, k3⟩ := bounds 0 0 hv lv (Nat.le_refl _) b1 b2
              have hv2 : hv = 0 := by omega
              have hv3 : lv = 0 := by omega
              subst hv2; subst hv3; subst hi1
              refine Sim.pure H (v := .slice none 0 0) ?_ (.nsl _ _ _ _ hnx ⟨_, _, rfl⟩ (fun v2 e2 st2 L2 min2 hm2 => ?_))
              · simp [execOp, ho, hu0, Instr.sliceAt, Instr.slice, run_underlying hu, k3, hso]
              · rw [hm] at hm2
                injection hm2 with hm2
                injection hm2 with x1 x2 x3 x4 x5
                subst x1
                exact ⟨by omega, fun _ => .inl ⟨hv0, rfl, rfl, rfl⟩⟩
            · obtain ⟨k1, k2, k3⟩ := bounds len (cap - i) hv lv h1 b1 b2
              refine Sim.pure H (v := .slice (if cap - i = lv then ad else ad.map (·.add (lv * st'))) (hv - lv) (cap - i - lv)) ?_ (.nsl _ _ _ _ hnx ⟨_, _, rfl⟩ (fun v2 e2 st2 L2 min2 hm2 => ?_))
              · simp [execOp, ho, hu1, Instr.sliceAt, Instr.slice, run_underlying hu, k3, hso]
              · rw [hm] at hm2
                injection hm2 with hm2
                injection hm2 with x1 x2 x3 x4 x5
                subst x1; subst x3; subst x4; subst x5
                refine ⟨by omega, fun _ => .inr ⟨g, L, cap, _, hv1, by rw [show cap - i - lv = cap - (i + lv) by omega], by omega, h2', ?_, fun hz => ?_⟩⟩
                · by_cases hcl : cap - i = lv
                  · exact .inl (by omega)
                  · right
                    rw [if_neg hcl, h3.resolve_left (by omega)]
                    simp [add_at, Nat.add_mul]
                · have : i = 0 := by omega
                  have : lv = 0 := by omega
                  subst this
                  rw [h4 (by omega)]
                  by_cases hcl : cap - i = 0
                  · rw [if_pos hcl]
                  · rw [if_neg hcl]; simp [add_at]
          · cases q
        · cases q
      · cases q
    · cases q
  · rename_i t' es hd
    split at q
    · rename_i hv b1
      split at q
      · rename_i lv b2
        split at q
        · rename_i hc
          injection q with q; injection q with q q'
          subst q; subst q'
          have V := ev_VR T hx hd
          generalize hax : a.eval x = vx at V
          cases V with
          | roE _ ad cap h2 =>
            obtain ⟨k1, k2, k3⟩ := bounds 0 cap hv lv (Nat.zero_le _) b1 b2
            have hv2 : hv = 0 := by omega
            have hv3 : lv = 0 := by omega
            subst hv2; subst hv3
            refine Sim.pure H (v := .slice (if cap = 0 then ad else ad.map (·.add (0 * st))) 0 cap) ?_ ?_
            · simp [execOp, ho, hax, Instr.sliceAt, Instr.slice, run_underlying hu, k3, hso]
            · have : (List.drop 0 ([] : List (List DV))).take (0 - 0) = [] := rfl
              rw [this]
              exact .roE _ _ _ (fun ht => h2 (by split at ht <;> first | exact ht | cases ht))
          | ro _ st' es bb off cap vals hl h1 hcap h2 hF hh =>
            obtain ⟨k1, k2, k3⟩ := bounds es.length cap hv lv hcap b1 b2
            by_cases hemp : hv - lv = 0
            · have : (es.drop lv).take (hv - lv) = [] := by rw [hemp]; rfl
              rw [this]
              refine Sim.pure H (v := .slice (if cap = lv then some ⟨bb, off, none⟩ else (some ⟨bb, off, none⟩ : Option Addr).map (·.add (lv * st))) (hv - lv) (cap - lv)) ?_ ?_
              · simp [execOp, ho, hax, Instr.sliceAt, Instr.slice, run_underlying hu, k3, hso]
              · rw [hemp]
                refine .roE _ _ _ (fun ht => ?_)
                split at ht
                · cases ht
                · rename_i hn
                  have := h2 ht
                  by_cases hx2 : hv = es.length
                  · omega
                  · exact absurd ⟨ht, hx2⟩ hn
            · have hst' : st' = st := by
                cases es with
                | nil => simp at k2; omega
                | cons e0 es0 => rw [← hl e0 (by simp)]; simpa [headLen] using hc
              subst hst'
              have hlen : ((es.drop lv).take (hv - lv)).length = hv - lv := by simp; omega
              have hget : ∀ (i : Nat) e, ((es.drop lv).take (hv - lv))[i]? = some e → es[lv + i]? = some e := fun i e p => by
                rw [List.getElem?_take] at p
                split at p
                · rwa [List.getElem?_drop] at p
                · cases p
              have hne : cap ≠ lv := by omega
              refine Sim.pure H (v := .slice (some ⟨bb, off + lv * st', none⟩) ((es.drop lv).take (hv - lv)).length (cap - lv)) ?_ ?_
              · simp only [execOp, ho, hax, Instr.sliceAt, Instr.slice, Sem.run_bind, run_underlying hu, Result.andThen_ok, k3, hso, Sem.run_pure, hlen, Option.map_none]
                rw [if_neg hne]
                simp [add_at]
              · refine .ro _ _ _ bb (off + lv * st') (cap - lv) (fun i j => vals (lv + i) j) (fun e p => hl e (List.mem_of_mem_drop (List.mem_of_mem_take p))) (fun e p => h1 e (List.mem_of_mem_drop (List.mem_of_mem_take p))) (by rw [hlen]; omega) (fun ht => ?_) (fun i j e c p p' => ?_) (fun i j e c p p' => hh _ _ _ _ (hget i e p) p')
                · rw [hlen]
                  split at ht
                  · cases ht
                  · rename_i hn
                    have := h2 ht
                    by_cases hx2 : hv = es.length
                    · omega
                    · exact absurd ⟨ht, hx2⟩ hn
                · have := hF _ _ _ _ (hget i e p) p'
                  have htg : tg (if t' = 2 ∧ hv ≠ es.length then 0 else t') = tg t' := by
                    split
                    · rename_i hx2; rw [hx2.1]; rfl
                    · rfl
                  rw [htg, show off + lv * st' + i * st' + j = off + (lv + i) * st' + j by rw [Nat.add_mul]; omega]
                  exact this
        · cases q
      · cases q
    · cases q
  · cases q

theorem sim_sstr {t : TypeId} {x : Operand} {lo hi : Option Operand} {x' : DX} {lo' hi' : Option DX} (ho : o.op = .slice t x lo hi none) (hx : okX x x' = true) (hlo : okO lo lo' = true) (hhi : okO hi hi' = true) (hu : P.underlying t = some .string) (T : TR C s a) (H : WRel C w h)
    (q : opD s h (.sstr x' lo' hi') = some (r, h')) : Sim P o a C w r h' := by
  simp only [opD] at q
  split at q
  · rename_i u hd
    split at q
    · rename_i hv b1
      split at q
      · rename_i lv b2
        injection q with q; injection q with q q'
        subst q; subst q'
        have e1 := (ev_VR T hx hd).str_inv
        obtain ⟨k1, k2, k3⟩ := run_bounds (P := P) (w := w) false hlo hhi T (Nat.le_refl u.size) b1 b2
        exact Sim.pure H (v := .string (u.extract lv hv)) (by simp [execOp, ho, e1, Instr.sliceAt, Instr.slice, run_underlying hu, k3]) (.str _)
      · cases q
    · cases q
  · cases q

end

end Go.Proofs.Ytdlonbcefhimaaa.XD
