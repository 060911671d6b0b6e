/- What is proved: literals, make, store, append of the evaluator. No condition. -/
import Derived.Test.YtdlonbcefhimaaaXD8
namespace Go.Proofs.Ytdlonbcefhimaaa.XD
open Go Go.RowKit
set_option linter.all false

section
variable {P : Program} {C : Ctx} {s : List DV} {a : Act} {w : World} {h : Heap} {o : Oper} {r : DV} {h' : Heap}

theorem sim_lits {t e : TypeId} {st b n : Nat} {ps : Array (Nat × Operand)} {named : Bool} {z : List DV} {qs : List (Nat × DX)} (ho : o.op = .buildSlice t n ps) (he : elemP P t = some (e, st, b)) (hst : st = z.length) (hle : n * st ≤ 2 ^ 24) (h0 : st ≠ 0)
    (hz : okZs P e z = true) (hps : okEs ps.toList qs = true) (T : TR C s a) (H : WRel C w h) (q : opD s h (.lits named e z n qs) = some (r, h')) : Sim P o a C w r h' := by
  obtain ⟨i, zv, h1, h2, h3⟩ := okZs_run hz
  obtain ⟨b1, b2, _, b3⟩ := okCs_VR (C := C) h3
  obtain ⟨hu, ti, hti, hs, _⟩ := elemP_run he
  have hii : i = ti := by rw [h1] at hti; injection hti
  subst hii
  simp only [opD] at q
  split at q
  · rename_i es hes
    have hrep : ∀ x ∈ List.replicate n z, x = z := fun x hx => (List.mem_replicate.1 hx).2
    have hmod := mod_row (C := C) (n := n) (st := st) (zs := zv.cells.toList) (by rw [b1]; exact hst.symm) h0 hst.symm b3
    rw [← hst] at hes
    obtain ⟨us, k1, k2, k3, k4, k5⟩ := fillE_run (by omega) T hps hes hmod (fun x hx => by rw [hrep x hx]; exact hst.symm) (fun x hx => by rw [hrep x hx]; exact b2)
    have hlen : es.length = n := by rw [k5]; simp
    have hpl : (ps.map fun x => (x.1, a.eval x.2)).toList = ps.toList.map fun x => (x.1, a.eval x.2) := by simp
    have hr : (execOp a.eval o).run P w = .ok (.value (.slice (some ⟨w.heap.size, 0, none⟩) es.length es.length)) (w.alloc (.cells us e)) := by
      have hnot : ¬ (n * st > 2 ^ 24) := by omega
      simp only [execOp, ho, Instr.buildSlice, Sem.run_bind, run_underlying hu, Result.andThen_ok, sizeOf, typeInfo, run_program, h1, Sem.run_pure, hs]
      rw [if_neg hnot]
      by_cases hn0 : n * st = 0
      · have hn : n = 0 := by rcases Nat.mul_eq_zero.1 hn0 with q | q <;> first | exact q | exact absurd q h0
        subst hn
        rw [if_pos hn0]
        have hr0 : Array.range (0 * st) = #[] := by rw [Nat.zero_mul]; rfl
        simp only [Sem.run_bind, Sem.run_pure, Result.andThen_ok, hpl, hr0, Array.map_empty] at k1 ⊢
        rw [k1]
        simp [newRow, hlen]
      · rw [if_neg hn0]
        simp only [zeroValue, typeInfo, Sem.run_bind, run_program, Result.andThen_ok, h1, h2, Sem.run_pure, hpl, Array.toArray_toList] at k1 ⊢
        rw [k1]
        simp [newRow, hlen]
    cases named with
    | true =>
      simp only [if_true, Option.some.injEq, Prod.mk.injEq] at q
      obtain ⟨q, q'⟩ := q
      subst q; subst q'
      rw [← hst]
      have hb : es.length ≤ maxLen := by
        rw [hlen]
        have : n * 1 ≤ n * st := Nat.mul_le_mul_left n (by omega)
        simp only [maxLen]
        omega
      exact sim_row H hr k2 k3 k4 hb hlen.symm
    | false =>
      simp only [Bool.false_eq_true, if_false, Option.some.injEq, Prod.mk.injEq] at q
      obtain ⟨q, q'⟩ := q
      subst q; subst q'
      exact sim_ice H hr k2 k3 k4
  · cases q

theorem sim_mks {t e : TypeId} {st b : Nat} {l c : Operand} {z : List DV} {y : DX} (ho : o.op = .makeSlice t l c) (hl : okX l y = true) (hc : okX c y = true) (he : elemP P t = some (e, st, b)) (hst : st = z.length) (h0 : st ≠ 0)
    (hz : okZs P e z = true) (T : TR C s a) (H : WRel C w h) (q : opD s h (.mks e z b y) = some (r, h')) : Sim P o a C w r h' := by
  obtain ⟨i, zv, h1, h2, h3⟩ := okZs_run hz
  obtain ⟨b1, b2, _, b3⟩ := okCs_VR (C := C) h3
  obtain ⟨hu, ti, hti, hs, hby⟩ := elemP_run he
  have hii : i = ti := by rw [h1] at hti; injection hti
  subst hii
  simp only [opD] at q
  split at q
  · rename_i k n hd
    split at q
    · rename_i hcnd
      obtain ⟨c1, c2, c3⟩ := hcnd
      injection q with q; injection q with q q'
      subst q; subst q'
      have e1 := (ev_VR T hl hd).int_inv
      have e2 := (ev_VR T hc hd).int_inv
      have hrep : ∀ x ∈ List.replicate n.toNat z, x = z := fun x hx => (List.mem_replicate.1 hx).2
      have hmod := mod_row (C := C) (n := n.toNat) (st := st) (zs := zv.cells.toList) (by rw [b1]; exact hst.symm) h0 hst.symm b3
      have hw : IntKind.i64.wrap n = n := by simp [IntKind.wrap, IntKind.bits, IntKind.signed]; omega
      have hr : (execOp a.eval o).run P w = .ok (.value (.slice (some ⟨w.heap.size, 0, none⟩) (List.replicate n.toNat z).length (List.replicate n.toNat z).length)) (w.alloc (.cells ((Array.range (n.toNat * st)).map (zv.cells.toList.toArray[· % zv.cells.toList.toArray.size]!)) e)) := by
        have ht : ¬ ((decide (n < 0) || decide ((b : Int) * n > 2 ^ 48)) = true) := by
          intro hx
          simp only [Bool.or_eq_true, decide_eq_true_eq] at hx
          omega
        have ht' : ((decide (n < 0) || decide ((b : Int) * n > 2 ^ 48)) || decide (n < 0) || decide (n > n)) = false := by
          simp only [Bool.or_eq_false_iff, decide_eq_false_iff_not]
          omega
        simp only [execOp, ho, Instr.makeSlice, Sem.run_bind, run_underlying hu, Result.andThen_ok, e1, e2, asInt, asIntOf, Sem.run_pure, sizeOf, typeInfo, run_program, h1, hs, hby, hw]
        rw [if_neg (by rw [ht']; simp)]
        simp only [Sem.run_bind, Sem.run_pure, Result.andThen_ok, run_askRoom, run_program, h1, hs]
        by_cases hn0 : n.toNat * st = 0
        · have hn : n.toNat = 0 := by rcases Nat.mul_eq_zero.1 hn0 with q | q <;> first | exact q | exact absurd q h0
          have hr0 : Array.range (n.toNat * st) = #[] := by rw [hn0]; rfl
          rw [if_pos hn0]
          simp [newRow, hr0]
        · rw [if_neg hn0]
          simp [zeroValue, typeInfo, h1, h2, newRow]
      rw [← hst]
      exact sim_row H hr hmod (fun x hx => by rw [hrep x hx]; exact hst.symm) (fun x hx => by rw [hrep x hx]; exact b2) (by simp only [List.length_replicate, maxLen]; omega) (by simp)
    · cases q
  · cases q

end

end Go.Proofs.Ytdlonbcefhimaaa.XD
