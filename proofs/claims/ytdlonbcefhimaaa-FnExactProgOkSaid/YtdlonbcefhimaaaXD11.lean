/- What is proved: every operation of the evaluator that succeeds says what the machine's operation does. No condition. -/
import Derived.Test.YtdlonbcefhimaaaXD10
import Derived.Laws.StructEq
namespace Go.Proofs.Ytdlonbcefhimaaa.XD
open Go Go.RowKit
set_option linter.all false

section
variable {P : Program} {C : Ctx} {s : List DV} {a : Act} {w : World} {h : Heap} {o : Oper} {r : DV} {h' : Heap}

def wideT : TypeDesc → Bool
  | .struct _ | .array _ _ => true
  | _ => false

theorem run_part_plain {t : TypeId} {cs : Array Value} {off : Nat} {v : Value} {e : TypeDesc} (hu : P.underlying t = some e) (he : wideT e = false) (hv : cs[off]? = some v) : (part t cs off).run P w = .ok v w := by
  have hi : (isAgg t).run P w = .ok false w := by
    simp only [isAgg, Sem.run_bind, run_underlying hu, Result.andThen_ok]
    cases e <;> first | rfl | cases he
  simp [part, hi, hv]

theorem run_flat {xs ys : Array Value} (d : Nat) : ∀ (fs : List Field) (i : Nat) (ks : List Nat) (as bs : List DV) (t : Bool), flatF P fs i ks = true → sameCs ks as bs = some t →
    (∀ (j : Nat) c, as[j]? = some c → ∃ u, xs[i + j]? = some u ∧ VR C c u) → (∀ (j : Nat) c, bs[j]? = some c → ∃ u, ys[i + j]? = some u ∧ VR C c u) → (Op.eqFields (d + 1) xs ys fs).run P w = .ok t w
  | [], i, [], as, bs, t, _, hs, _, _ => by
    cases as <;> cases bs <;> simp [sameCs] at hs
    subst hs
    rfl
  | [], i, k :: ks, as, bs, t, hf, _, _, _ => by simp [flatF] at hf
  | f :: fs, i, [], as, bs, t, hf, _, _, _ => by simp [flatF] at hf
  | f :: fs, i, k :: ks, as, bs, t, hf, hs, ha, hb => by
    cases as with
    | nil => cases bs <;> simp [sameCs] at hs
    | cons c as =>
      cases bs with
      | nil => simp [sameCs] at hs
      | cons c' bs =>
        simp only [flatF, Bool.and_eq_true, bne_iff_ne, ne_eq, beq_iff_eq] at hf
        obtain ⟨⟨⟨hn, ho⟩, hk⟩, hrest⟩ := hf
        simp only [sameCs] at hs
        split at hs
        · rename_i x y hx hy
          injection hs with hs
          obtain ⟨u, hu, hV⟩ := ha 0 c rfl
          obtain ⟨u', hu', hV'⟩ := hb 0 c' rfl
          have ih := run_flat d fs (i + 1) ks as bs y hrest hy (fun j c q => by rw [Nat.add_assoc, Nat.add_comm 1]; exact ha (j + 1) c q) (fun j c q => by rw [Nat.add_assoc, Nat.add_comm 1]; exact hb (j + 1) c q)
          have key : ∀ e, P.underlying f.type = some e → wideT e = false → (Op.equalIn (d + 1) f.type u u').run P w = .ok x w → (Op.eqFields (d + 1) xs ys (f :: fs)).run P w = .ok t w := fun e he hne heq => by
            rw [Op.eqFields, if_pos hn]
            have p1 := run_part_plain (P := P) (w := w) (cs := xs) (off := f.offset) (v := u) he hne (by rw [ho]; exact hu)
            have p2 := run_part_plain (P := P) (w := w) (cs := ys) (off := f.offset) (v := u') he hne (by rw [ho]; exact hu')
            simp only [Sem.run_bind, p1, p2, heq, Result.andThen_ok]
            subst hs
            cases x
            · rfl
            · simpa using ih
          unfold sameC at hx
          split at hx
          · rename_i k1 m k2 n
            split at hx
            · rename_i hkk
              subst hkk
              injection hx with hx
              subst hx
              have e1 := hV.int_inv
              have e2 := hV'.int_inv
              subst e1; subst e2
              cases hut : P.underlying f.type with
              | none => rw [hut] at hk; cases hk
              | some e =>
                cases e <;> rw [hut] at hk <;> first | (simp at hk; done) | (exact key _ hut rfl (run_equalIn_int w d f.type k1 _ m n hut))
            · cases hx
          · rename_i m n
            injection hx with hx
            subst hx
            have e1 := hV.bool_inv
            have e2 := hV'.bool_inv
            subst e1; subst e2
            cases hut : P.underlying f.type with
            | none => rw [hut] at hk; cases hk
            | some e =>
              cases e <;> rw [hut] at hk <;> first | (simp at hk; done) | (exact key _ hut rfl (run_equalIn_bool' w d f.type m n hut))
          · rename_i m n
            injection hx with hx
            subst hx
            have e1 := hV.str_inv
            have e2 := hV'.str_inv
            subst e1; subst e2
            cases hut : P.underlying f.type with
            | none => rw [hut] at hk; cases hk
            | some e =>
              cases e <;> rw [hut] at hk <;> first | (simp at hk; done) | (exact key _ hut rfl (run_equalIn_string w d f.type m n hut))
          · cases hx
        · cases hs

theorem sim_eqs {op : BinOp} {neg : Bool} {ks : List Nat} {t t' : TypeId} {x y : Operand} {x' y' : DX} (ho : o.op = .binOp op t x y t') (hn : op = if neg then .neq else .eql) (hx : okX x x' = true) (hy : okX y y' = true) (ht : flatP P t ks = true) (T : TR C s a) (H : WRel C w h)
    (q : opD s h (.eqs neg ks x' y') = some (r, h')) : Sim P o a C w r h' := by
  unfold flatP at ht
  split at ht
  · rename_i fs hu
    simp only [Bool.and_eq_true, Bool.not_eq_true'] at ht
    obtain ⟨⟨hf, hst⟩, hg⟩ := ht
    simp only [opD] at q
    split at q
    · rename_i as bs ha hb
      obtain ⟨tt, q1, q2⟩ := map_some q
      injection q2 with q2 q3
      subst q2; subst q3
      obtain ⟨xs, e1, _, _, hxs⟩ := (ev_VR T hx ha).agg_inv
      obtain ⟨ys, e2, _, _, hys⟩ := (ev_VR T hy hb).agg_inv
      have hfo : P.fieldsOf t = fs := by simp [Program.fieldsOf, hu]
      have hr := run_flat (P := P) (C := C) (w := w) (xs := xs) (ys := ys) 9998 fs.toList 0 ks as bs tt hf q1 (fun j c p => by rw [Nat.zero_add]; exact hxs j c p) (fun j c p => by rw [Nat.zero_add]; exact hys j c p)
      have he : (Op.equalIn 10000 t (.agg xs) (.agg ys)).run P w = .ok tt w := by
        show (Op.equalIn (9999 + 1) t (.agg xs) (.agg ys)).run P w = _
        rw [run_equalIn_struct (P := P) w 9999 t xs ys (by rw [hfo]; exact hu) hst, hfo]
        exact hr
      have G := run_eqGuard_agg (P := P) w op t x y xs ys hg
      refine Sim.pure H (v := .bool (if neg then !tt else tt)) ?_ (.bool _)
      simp only [execOp, ho, e1, e2, Sem.run_bind, G, Result.andThen_ok]
      subst hn
      cases neg
      · simp only [Bool.false_eq_true, if_false, run_eql_struct, he, Result.andThen_ok, Sem.run_pure]
      · simp only [if_true, run_neq_struct, he, Result.andThen_ok, Sem.run_pure]
    · cases q
  · cases ht

theorem op_sim {d : DOp} (hok : okOp P o.op d = true) (T : TR C s a) (H : WRel C w h) (q : opD s h d = some (r, h')) : Sim P o a C w r h' := by
  generalize ho : o.op = op at hok
  unfold okOp at hok
  split at hok
  · exact sim_mv (.inl ho) hok T H q
  · exact sim_mv (.inr ho) hok T H q
  · simp only [Bool.and_eq_true] at hok
    exact sim_pick ho hok.1.1 hok.1.2 hok.2 T H q
  · simp only [Bool.and_eq_true, beq_iff_eq] at hok
    obtain ⟨rfl, h1⟩ := hok
    exact sim_alloc ho h1 H q
  · simp only [Bool.and_eq_true, beq_iff_eq] at hok
    obtain ⟨rfl, h1⟩ := hok
    exact sim_box ho h1 T H q
  · simp only [Bool.and_eq_true] at hok
    obtain ⟨h1, h2⟩ := hok
    split at h2
    · rename_i fs hu
      simp only [Bool.and_eq_true] at h2
      exact sim_build ho h1 hu h2.1 h2.2 T H q
    · cases h2
  · split at hok
    · rename_i e st b he
      simp only [Bool.and_eq_true, beq_iff_eq, decide_eq_true_eq, bne_iff_ne, ne_eq] at hok
      obtain ⟨⟨⟨⟨⟨⟨rfl, h1⟩, rfl⟩, h2⟩, h3⟩, h4⟩, h5⟩ := hok
      exact sim_lits ho he h1 h2 h3 h4 h5 T H q
    · cases hok
  · simp only [Bool.and_eq_true, beq_iff_eq] at hok
    exact sim_load ho hok.2 hok.1.1 hok.1.2 T H q
  · simp only [Bool.and_eq_true, beq_iff_eq] at hok
    exact sim_store ho hok.1.1 hok.1.2 hok.2 T H q
  · exact sim_nilck ho hok T H q
  · simp only [Bool.and_eq_true, beq_iff_eq] at hok
    obtain ⟨⟨⟨⟨h0, h1⟩, h2⟩, h3⟩, _⟩ := hok
    subst h0
    exact sim_bin ho h1 h2 h3 T H q
  · simp only [Bool.and_eq_true] at hok
    obtain ⟨⟨⟨h0, h1⟩, h2⟩, h3⟩ := hok
    split at h3
    · rename_i hu
      exact sim_beq ho (neg_op h0) h1 h2 hu T H q
    · cases h3
  · simp only [Bool.and_eq_true] at hok
    obtain ⟨⟨⟨h0, h1⟩, h2⟩, h3⟩ := hok
    exact sim_eqs ho (neg_op h0) h1 h2 h3 T H q
  · simp only [Bool.and_eq_true] at hok
    obtain ⟨⟨h0, h1⟩, h3⟩ := hok
    split at h3
    · rename_i ms hu
      exact sim_eqn ho (neg_op h0) h1 hu T H q
    · cases h3
  · exact sim_not ho hok T H q
  · exact sim_neg ho hok T H q
  · simp only [Bool.and_eq_true] at hok
    obtain ⟨⟨h0, h1⟩, h3⟩ := hok
    split at h3
    · rename_i k' hu
      have hk := eq_of_beq h3
      subst hk
      exact sim_conv ho h0 h1 hu T H q
    · cases h3
  · simp only [Bool.and_eq_true, beq_iff_eq] at hok
    obtain ⟨⟨rfl, h1⟩, h2⟩ := hok
    exact sim_mkif ho h1 h2 T H q
  · simp only [Bool.and_eq_true, beq_iff_eq] at hok
    obtain ⟨⟨rfl, h1⟩, h2⟩ := hok
    exact sim_mkfn ho h1 h2 T H q
  · simp only [Bool.and_eq_true] at hok
    obtain ⟨⟨h0, h1⟩, h3⟩ := hok
    split at h3
    · rename_i e st b he
      simp only [Bool.and_eq_true, beq_iff_eq, bne_iff_ne, ne_eq] at h3
      obtain ⟨⟨⟨⟨rfl, k1⟩, rfl⟩, k2⟩, k3⟩ := h3
      exact sim_mks ho h0 h1 he k1 k3 k2 T H q
    · cases h3
  · simp only [Bool.and_eq_true] at hok
    obtain ⟨⟨⟨h0, h1⟩, h2⟩, h3⟩ := hok
    split at h3
    · rename_i e st b he
      have hk := eq_of_beq h3
      subst hk
      exact sim_slc ho h0 h1 h2 he T H q
    · cases h3
  · simp only [Bool.and_eq_true] at hok
    obtain ⟨⟨⟨h0, h1⟩, h2⟩, h3⟩ := hok
    split at h3
    · rename_i hu
      exact sim_sstr ho h0 h1 h2 hu T H q
    · cases h3
  · simp only [Bool.and_eq_true] at hok
    obtain ⟨h0, h3⟩ := hok
    split at h3
    · rename_i fs hu
      split at h3
      · rename_i f hf
        simp only [Bool.and_eq_true, beq_iff_eq] at h3
        obtain ⟨rfl, k1⟩ := h3
        cases hs : sizeP P f.type with
        | none => rw [hs] at k1; cases k1
        | some sz =>
          rw [hs] at k1
          exact sim_fad ho h0 hu hf hs (by rintro rfl; cases k1) T H q
      · cases h3
    · cases h3
  · simp only [Bool.and_eq_true] at hok
    obtain ⟨h0, h3⟩ := hok
    split at h3
    · rename_i fs hu
      split at h3
      · rename_i f hf
        simp only [Bool.and_eq_true, beq_iff_eq] at h3
        obtain ⟨⟨rfl, k1⟩, k2⟩ := h3
        exact sim_fld ho h0 hu hf k2 k1 T H q
      · cases h3
    · cases h3
  · simp only [Bool.and_eq_true] at hok
    obtain ⟨⟨h0, h1⟩, h3⟩ := hok
    split at h3
    · rename_i e st b he
      have hk := eq_of_beq h3
      subst hk
      exact sim_iad ho h0 h1 he T H q
    · cases h3
  · simp only [Bool.and_eq_true] at hok
    obtain ⟨⟨h0, h1⟩, h3⟩ := hok
    split at h3
    · rename_i hu
      exact sim_idx ho h0 h1 hu T H q
    · cases h3
  · simp only [Bool.and_eq_true, beq_iff_eq] at hok
    obtain ⟨⟨⟨⟨h0, rfl⟩, rfl⟩, h2⟩, h3⟩ := hok
    exact sim_tas ho h0 h2 h3 T H q
  · simp only [Bool.and_eq_true, beq_iff_eq] at hok
    obtain ⟨h0, rfl⟩ := hok
    exact sim_ext ho h0 T H q
  · split at hok
    · rename_i c y x t hc ha ht
      simp only [Bool.and_eq_true] at hok
      obtain ⟨h0, h1⟩ := hok
      obtain ⟨⟨e, st, b⟩, he⟩ := Option.isSome_iff_exists.1 h1
      exact sim_len ho hc ha ht h0 he T H q
    · cases hok
  · split at hok
    · rename_i c y x t hc ha ht
      simp only [Bool.and_eq_true] at hok
      obtain ⟨h0, h1⟩ := hok
      split at h1
      · rename_i hu
        exact sim_slen ho hc ha ht h0 hu T H q
      · cases h1
    · cases hok
  · split at hok
    · rename_i c e' st bytes x' y' x y t t' hc ha ht
      simp only [Bool.and_eq_true, beq_iff_eq] at hok
      obtain ⟨⟨⟨h0, h1⟩, rfl⟩, h3⟩ := hok
      split at h3
      · rename_i e st' b he
        simp only [Bool.and_eq_true, beq_iff_eq, bne_iff_ne, ne_eq] at h3
        obtain ⟨⟨⟨⟨rfl, rfl⟩, rfl⟩, k1⟩, k2⟩ := h3
        cases hz : zeroP P e with
        | none => rw [hz] at k2; cases k2
        | some vs =>
          rw [hz] at k2
          exact sim_app ho hc ha ht h0 h1 he k1 hz (by simpa using k2) T H q
      · cases h3
    · cases hok
  · cases hok

end

end Go.Proofs.Ytdlonbcefhimaaa.XD
