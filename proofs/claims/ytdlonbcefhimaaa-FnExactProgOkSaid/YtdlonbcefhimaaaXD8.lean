/- What is proved: the evaluator's operations that build values, rows, and write or append to them. No condition. -/
import Derived.Test.YtdlonbcefhimaaaXD7
namespace Go.Proofs.Ytdlonbcefhimaaa.XD
open Go Go.RowKit
set_option linter.all false

section
variable {P : Program} {C : Ctx} {s : List DV} {a : Act} {w : World} {h : Heap} {o : Oper} {r : DV} {h' : Heap}

theorem run_mapM_sizes (fs : Array Field) (hall : fs.all (fun f => (P.info? f.type).isSome) = true) : (fs.mapM (fun f => (do Pure.pure (f.offset, ← sizeOf f.type) : Sem (Nat × Nat)))).run P w = .ok (fs.map fun f => (f.offset, ((P.info? f.type).map (·.size)).getD 0)) w := by
  have h1 := mapM_sizes (P := P) (w := w) fs.toList (fun f hf => by
    have := Array.all_eq_true_iff_forall_mem.1 hall f (by simpa using hf)
    exact this)
  rw [Array.mapM_eq_mapM_toList]
  simp only [Sem.run_map, h1, Result.andThen_ok]
  congr 1
  apply Array.toList_inj.1
  simp

theorem sim_build {t : TypeId} {ps : Array (Nat × Operand)} {z : List DV} {qs : List (Nat × Nat × DX)} {fs : Array Field} (ho : o.op = .build t ps) (hz : okZs P t z = true) (ht : P.underlying t = some (.struct fs)) (hall : fs.all (fun f => (P.info? f.type).isSome) = true)
    (hps : okPs fs P ps.toList qs = true) (T : TR C s a) (H : WRel C w h) (q : opD s h (.build z qs) = some (r, h')) : Sim P o a C w r h' := by
  obtain ⟨i, zv, h1, h2, h3⟩ := okZs_run hz
  obtain ⟨b1, b2, _, b3⟩ := okCs_VR (C := C) h3
  simp only [opD] at q
  obtain ⟨cs, q1, q2⟩ := map_some q
  injection q2 with q2 q3
  subst q2; subst q3
  obtain ⟨us, k1, k2, k3⟩ := fillD_run (P := P) (fs := fs) T (place := fun i => (fs.map fun f => (f.offset, ((P.info? f.type).map (·.size)).getD 0))[i]?) (fun i f sz hf hs => by
    obtain ⟨ti, hti, hsz⟩ := map_some hs
    simp [Array.getElem?_map, hf, hti, hsz]) (vs := zv.cells) hps q1 ⟨by simpa using b1, fun i c p => by obtain ⟨u, hu, hV⟩ := b3 i c p; exact ⟨u, by simpa using hu, hV⟩⟩ b2
  refine Sim.pure H (v := .agg us) ?_ (.agg _ _ k2.1 k3 (fun i c v p p' => by obtain ⟨u, hu, hV⟩ := k2.2 i c p; rw [hu] at p'; injection p' with p'; subst p'; exact hV))
  have hm := run_mapM_sizes (P := P) (w := w) fs hall
  have hpl : (ps.map fun x => (x.1, a.eval x.2)).toList = ps.toList.map fun x => (x.1, a.eval x.2) := by simp
  simp only [execOp, ho, Instr.build, Sem.run_bind, zeroValue, typeInfo, run_program, Result.andThen_ok, h1, h2, Sem.run_pure, run_underlying ht]
  rw [hm]
  simp only [Result.andThen_ok, hpl]
  rw [k1]
  rfl

/-! ### rows -/

theorem flat_get {st : Nat} : ∀ {es : List (List DV)}, (∀ x ∈ es, x.length = st) → ∀ (i j : Nat) x c, es[i]? = some x → x[j]? = some c → es.flatten[i * st + j]? = some c
  | [], _, i, j, x, c, q, _ => by simp at q
  | e :: es, hl, i, j, x, c, q, q' => by
    have he : e.length = st := hl e (by simp)
    cases i with
    | zero =>
      simp at q
      subst q
      have hj := (List.getElem?_eq_some_iff.1 q').1
      rw [List.flatten_cons, Nat.zero_mul, Nat.zero_add, List.getElem?_append_left hj]
      exact q'
    | succ i =>
      simp at q
      rw [List.flatten_cons, List.getElem?_append_right (by rw [he, Nat.add_mul]; omega), he, show (i + 1) * st + j - st = i * st + j by rw [Nat.add_mul]; omega]
      exact flat_get (fun x hx => hl x (by simp [hx])) i j x c q q'

theorem flat_len {st : Nat} : ∀ {es : List (List DV)}, (∀ x ∈ es, x.length = st) → es.flatten.length = es.length * st
  | [], _ => by simp
  | e :: es, hl => by
    rw [List.flatten_cons, List.length_append, flat_len (fun x hx => hl x (by simp [hx])), hl e (by simp), List.length_cons, Nat.add_mul]
    omega

theorem flat_one {es : List (List DV)} (h1 : ∀ x ∈ es, ∀ c ∈ x, c.one = true) : ∀ c ∈ es.flatten, c.one = true := fun c hc => by
  obtain ⟨x, hx, hc⟩ := List.mem_flatten.1 hc
  exact h1 x hx c hc

theorem CellsVR.rows {st : Nat} {es : List (List DV)} {vs : Array Value} (hv : CellsVR C es.flatten vs) (hl : ∀ x ∈ es, x.length = st) :
    ∀ (i j : Nat) x c, es[i]? = some x → x[j]? = some c → ∃ u, vs.toList[i * st + j]? = some u ∧ VR C c u := fun i j x c q q' => by
  obtain ⟨u, hu, hV⟩ := hv.2 _ c (flat_get hl i j x c q q')
  exact ⟨u, by simpa using hu, hV⟩

/-- A row that is made. -/
theorem sim_row {e : TypeId} {st n : Nat} {es : List (List DV)} {vs : Array Value} (H : WRel C w h) (hr : (execOp a.eval o).run P w = .ok (.value (.slice (some ⟨w.heap.size, 0, none⟩) es.length es.length)) (w.alloc (.cells vs e)))
    (hv : CellsVR C es.flatten vs) (hl : ∀ x ∈ es, x.length = st) (h1 : ∀ x ∈ es, ∀ c ∈ x, c.one = true) (hm : es.length ≤ maxLen) (hn : n = es.length) : Sim P o a C w (.nsl h.length 0 n) (h ++ [.arr e st es 0]) := by
  subst hn
  have hg : w.grownBy (w.alloc (.cells vs e)) none := World.grownBy_alloc w _ none
  have hfl := flat_len hl
  have hs : vs.size = es.length * st := by rw [hv.1, hfl]
  have ho : (w.alloc (.cells vs e)).ownsRow w.heap.size e st (.slice (some ⟨w.heap.size, 0, none⟩) es.length es.length) es.length vs.toList :=
    ⟨by simp [hs], .inr ⟨w.heap.size, es.length, vs, rfl, Nat.le_refl _, heap_alloc_new w _, Nat.le_refl _, hm, hs, by rw [show es.length * st = vs.toList.length by simp [hs]]; exact List.take_length⟩⟩
  obtain ⟨W, S⟩ := H.add hg (m := 0) ho (Nat.zero_le _) hl h1 (hv.rows hl)
  refine ⟨_, _, _, .inl hr, W, S, ?_⟩
  refine .nsl _ _ _ _ (by simp only [Ctx.add, H.nx]; omega) ⟨_, _, rfl⟩ (fun v e' st' L m q => ?_)
  simp only [Ctx.add] at q
  rw [if_pos H.nx.symm] at q
  injection q with q
  injection q with x1 x2 x3 x4 x5
  subst x1; subst x4
  exact ⟨by omega, fun _ => .inr ⟨w.heap.size, es.length, es.length, _, rfl, rfl, by omega, Nat.le_refl _, .inr (by rw [Nat.zero_mul]), fun _ => rfl⟩⟩

/-- A row that is made and never written. -/
theorem sim_ice {e : TypeId} {st : Nat} {es : List (List DV)} {vs : Array Value} (H : WRel C w h) (hr : (execOp a.eval o).run P w = .ok (.value (.slice (some ⟨w.heap.size, 0, none⟩) es.length es.length)) (w.alloc (.cells vs e)))
    (hv : CellsVR C es.flatten vs) (hl : ∀ x ∈ es, x.length = st) (h1 : ∀ x ∈ es, ∀ c ∈ x, c.one = true) : Sim P o a C w (.ro 2 es) h := by
  have hg : w.grownBy (w.alloc (.cells vs e)) none := World.grownBy_alloc w _ none
  obtain ⟨W, S⟩ := H.iced hg (Nat.le_refl _) (heap_alloc_new w (.cells vs e)) vs.toList (fun i u p => by simpa using p)
  refine ⟨_, _, _, .inl hr, W, S, ?_⟩
  have hfl := flat_len hl
  refine .ro 2 st es w.heap.size 0 es.length (fun i j => vs.toList.getD (i * st + j) undef) hl h1 (Nat.le_refl _) (fun _ => rfl) (fun i j x c p p' => ?_) (fun i j x c p p' => ?_)
  · obtain ⟨u, hu, _⟩ := hv.rows hl i j x c p p'
    simp only [Ctx.ice, Nat.zero_add]
    rw [if_pos (by simp [tg])]
    simp [List.getD, hu]
  · obtain ⟨u, hu, hV⟩ := hv.rows hl i j x c p p'
    simp only [List.getD, hu, Option.getD_some]
    exact hV.mono S.le

theorem mod_row {n st : Nat} {zs : List Value} (hz : zs.length = st) (hst : st ≠ 0) {z : List DV} (hzl : z.length = st) (hzz : ∀ (i : Nat) c, z[i]? = some c → ∃ u, zs[i]? = some u ∧ VR C c u) :
    CellsVR C (List.replicate n z).flatten ((Array.range (n * st)).map (zs.toArray[· % zs.toArray.size]!)) := by
  have hl : ∀ x ∈ List.replicate n z, x.length = st := fun x hx => by rw [(List.mem_replicate.1 hx).2]; exact hzl
  refine ⟨by simp [flat_len hl], fun k c q => ?_⟩
  have hk : k < n * st := by have := (List.getElem?_eq_some_iff.1 q).1; rw [flat_len hl] at this; simpa using this
  have hi : k / st < n := Nat.div_lt_of_lt_mul (by rw [Nat.mul_comm]; exact hk)
  have hj : k % st < st := Nat.mod_lt _ (by omega)
  have h0 : (List.replicate n z)[k / st]? = some z := by rw [List.getElem?_replicate]; simp [hi]
  have h1 := flat_get hl (k / st) (k % st) z z[k % st] h0 (List.getElem?_eq_getElem (by omega))
  rw [show k / st * st + k % st = k from by rw [Nat.mul_comm]; exact Nat.div_add_mod k st, q] at h1
  injection h1 with h1
  obtain ⟨u, hu, hV⟩ := hzz (k % st) z[k % st] (List.getElem?_eq_getElem (by omega))
  refine ⟨u, ?_, h1 ▸ hV⟩
  have hlt : k % zs.length < zs.length := by rw [hz]; exact hj
  have hu' : zs[k % zs.length] = u := by
    have := List.getElem?_eq_getElem hlt
    rw [show zs[k % zs.length]? = some u by rw [hz]; exact hu] at this
    injection this with this
    exact this.symm
  simp [hk, hlt, hu']

theorem fillE_run {st : Nat} (hst : 0 < st) (T : TR C s a) : ∀ {ps : List (Nat × Operand)} {qs : List (Nat × DX)} {es r : List (List DV)} {vs : Array Value}, okEs ps qs = true → fillE s st qs es = some r → CellsVR C es.flatten vs → (∀ x ∈ es, x.length = st) → (∀ x ∈ es, ∀ c ∈ x, c.one = true) →
      ∃ us, Instr.fill (fun i => some (i * st, st)) vs (ps.map fun x => (x.1, a.eval x.2)) = some us ∧ CellsVR C r.flatten us ∧ (∀ x ∈ r, x.length = st) ∧ (∀ x ∈ r, ∀ c ∈ x, c.one = true) ∧ r.length = es.length
  | [], [], es, r, vs, _, q, hz, hl, h1 => by simp only [fillE, Option.some.injEq] at q; subst q; exact ⟨vs, rfl, hz, hl, h1, rfl⟩
  | [], _ :: _, _, _, _, h, _, _, _, _ => by simp [okEs] at h
  | _ :: _, [], _, _, _, h, _, _, _, _ => by simp [okEs] at h
  | (i, x) :: ps, (j, y) :: qs, es, r, vs, h, q, hz, hl, h1 => by
    simp only [okEs, Bool.and_eq_true, beq_iff_eq] at h
    obtain ⟨⟨rfl, hx⟩, hrest⟩ := h
    simp only [fillE] at q
    split at q
    · rename_i d hd
      split at q
      · rename_i hc
        obtain ⟨c1, c2, c3⟩ := hc
        obtain ⟨b1, b2, b3⟩ := (ev_VR T hx hd).cells c3
        have hfl := flat_len hl
        have hle : i * st + d.cells.length ≤ es.flatten.length := by
          rw [hfl, c1]
          have : (i + 1) * st ≤ es.length * st := Nat.mul_le_mul_right _ c2
          rw [Nat.add_mul] at this
          omega
        have hset : splice es.flatten (i * st) d.cells = (es.set i d.cells).flatten := by
          have hl' : ∀ x ∈ es.set i d.cells, x.length = st := fun x hx => by
            rcases List.mem_or_eq_of_mem_set hx with hx | hx
            · exact hl x hx
            · rw [hx]; exact c1
          apply List.ext_getElem?
          intro k
          rw [splice_get hle]
          have hlen : (es.set i d.cells).flatten.length = es.length * st := by rw [flat_len hl']; simp
          by_cases hk : k < es.length * st
          · have hi' : k / st < es.length := Nat.div_lt_of_lt_mul (by rw [Nat.mul_comm]; exact hk)
            have hj : k % st < st := Nat.mod_lt _ hst
            have hkk : k / st * st + k % st = k := by rw [Nat.mul_comm]; exact Nat.div_add_mod k st
            by_cases hik : k / st = i
            · have hcond : i * st ≤ k ∧ k < i * st + d.cells.length := by rw [← hik]; omega
              rw [if_pos hcond]
              have := flat_get hl' (k / st) (k % st) d.cells d.cells[k % st] (by rw [hik, List.getElem?_set_self c2]) (List.getElem?_eq_getElem (by omega))
              rw [hkk] at this
              rw [this, show k - i * st = k % st by rw [← hik]; omega]
              exact List.getElem?_eq_getElem (by omega)
            · have hcond : ¬ (i * st ≤ k ∧ k < i * st + d.cells.length) := by
                rintro ⟨h5, h6⟩
                apply hik
                rw [c1] at h6
                exact Nat.div_eq_of_lt_le h5 (by rw [Nat.add_mul]; omega)
              rw [if_neg hcond]
              have e1 := flat_get hl (k / st) (k % st) es[k / st] _ (List.getElem?_eq_getElem hi') (List.getElem?_eq_getElem (by rw [hl _ (List.getElem_mem hi')]; exact hj))
              have e2 := flat_get hl' (k / st) (k % st) es[k / st] _ (by rw [List.getElem?_set_ne (Ne.symm hik)]; exact List.getElem?_eq_getElem hi') (List.getElem?_eq_getElem (by rw [hl _ (List.getElem_mem hi')]; exact hj))
              rw [hkk] at e1 e2
              rw [e1, e2]
          · rw [if_neg (by rw [hfl] at hle; omega), List.getElem?_eq_none (by omega), List.getElem?_eq_none (by omega)]
        have hz' := hz.splice (off := i * st) (cs := d.cells) (us := (a.eval x).cells) ⟨b1, b3⟩ hle
        rw [hset] at hz'
        obtain ⟨us, k1, k2, k3, k4, k5⟩ := fillE_run hst T hrest q hz' (fun x hx => by
          rcases List.mem_or_eq_of_mem_set hx with hx | hx
          · exact hl x hx
          · rw [hx]; exact c1) (fun x hx => by
          rcases List.mem_or_eq_of_mem_set hx with hx | hx
          · exact h1 x hx
          · rw [hx]; exact fun c p => List.all_eq_true.1 c3 c p)
        refine ⟨us, ?_, k2, k3, k4, by simpa using k5⟩
        simp only [List.map_cons, Instr.fill]
        have hcond : ¬ ((decide ((a.eval x).cells.size ≠ st) || decide (i * st + (a.eval x).cells.size > vs.size)) = true) := by
          have h5 := hz.1
          intro hc
          simp only [Bool.or_eq_true, decide_eq_true_eq] at hc
          omega
        rw [if_neg hcond]
        exact k1
      · cases q
    · cases q

end

end Go.Proofs.Ytdlonbcefhimaaa.XD
