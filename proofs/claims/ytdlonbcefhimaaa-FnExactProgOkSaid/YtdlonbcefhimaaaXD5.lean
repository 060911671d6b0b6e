/- What is proved: the evaluator's operations that leave memory as it is, one by one. No condition. -/
import Derived.Test.YtdlonbcefhimaaaXD4
namespace Go.Proofs.Ytdlonbcefhimaaa.XD
open Go Go.RowKit
set_option linter.all false

section
variable {P : Program} {C : Ctx} {s : List DV} {a : Act} {w : World} {h : Heap} {o : Oper} {r : DV} {h' : Heap}

theorem VR.int_inv {k : IntKind} {n : Int} {v : Value} (hv : VR C (.int k n) v) : v = .int k n := by cases hv; rfl
theorem VR.bool_inv {b : Bool} {v : Value} (hv : VR C (.bool b) v) : v = .bool b := by cases hv; rfl
theorem VR.str_inv {t : ByteArray} {v : Value} (hv : VR C (.str t) v) : v = .string t := by cases hv; rfl

theorem map_some {α β : Type} {x : Option α} {f : α → β} {y : β} (q : x.map f = some y) : ∃ z, x = some z ∧ f z = y := by
  cases x with
  | none => cases q
  | some z => exact ⟨z, rfl, by simpa using q⟩

theorem sim_mv {x : Operand} {y : DX} (ho : o.op = .move x ∨ o.op = .assign x) (hx : okX x y = true) (T : TR C s a) (H : WRel C w h) (q : opD s h (.mv y) = some (r, h')) : Sim P o a C w r h' := by
  obtain ⟨d, q1, q2⟩ := map_some q
  injection q2 with q2 q3
  subst q2; subst q3
  exact Sim.pure H (by rcases ho with ho | ho <;> simp [execOp, ho]) (ev_VR T hx q1)

theorem sim_pick {c x y : Operand} {c' x' y' : DX} (ho : o.op = .pick c x y) (hc : okX c c' = true) (hx : okX x x' = true) (hy : okX y y' = true) (T : TR C s a) (H : WRel C w h)
    (q : opD s h (.pick c' x' y') = some (r, h')) : Sim P o a C w r h' := by
  simp only [opD] at q
  split at q
  · rename_i t ht
    obtain ⟨d, q1, q2⟩ := map_some q
    injection q2 with q2 q3
    subst q2; subst q3
    have h1 := (ev_VR T hc ht).bool_inv
    refine Sim.pure H (v := a.eval (if t then x else y)) ?_ ?_
    · cases t <;> simp [execOp, ho, h1, asBool]
    · cases t
      · exact ev_VR T hy q1
      · exact ev_VR T hx q1
  · cases q

theorem sim_nilck {x : Operand} {y : DX} (ho : o.op = .nilCheck x) (hx : okX x y = true) (T : TR C s a) (H : WRel C w h) (q : opD s h (.nilck y) = some (r, h')) : Sim P o a C w r h' := by
  simp only [opD] at q
  have key : ∀ d, y.ev s = some d → r = d → h' = h → (∀ v, VR C d v → (execOp a.eval o).run P w = .ok (.value v) w ∨ a.eval x ≠ v) → Sim P o a C w r h' := fun d q1 q2 q3 hv => by
    subst q2; subst q3
    have hV := ev_VR T hx q1
    exact Sim.pure H ((hv _ hV).resolve_right (fun h => h rfl)) hV
  split at q
  · rename_i n i o' st hq
    injection q with q; injection q with q q'
    refine key _ hq q.symm q'.symm (fun v hv => ?_)
    by_cases he : a.eval x = v
    · left; cases hv; simp [execOp, ho, he]
    · exact .inr he
  · rename_i t cs o' hq
    injection q with q; injection q with q q'
    refine key _ hq q.symm q'.symm (fun v hv => ?_)
    by_cases he : a.eval x = v
    · left; cases hv; simp [execOp, ho, he]
    · exact .inr he
  · rename_i f cs hq
    injection q with q; injection q with q q'
    refine key _ hq q.symm q'.symm (fun v hv => ?_)
    by_cases he : a.eval x = v
    · left; cases hv; simp [execOp, ho, he]
    · exact .inr he
  · rename_i t d hq
    injection q with q; injection q with q q'
    refine key _ hq q.symm q'.symm (fun v hv => ?_)
    by_cases he : a.eval x = v
    · left; cases hv; simp [execOp, ho, he]
    · exact .inr he
  · cases q

theorem run_eqGuard_plain (op : BinOp) (t : TypeId) (x y : Operand) (u v : Value) (h1 : u ≠ .nilIface) (h2 : ∀ c, u ≠ .agg c) : (eqGuard op t x y u v).run P w = .ok () w := by
  unfold eqGuard
  cases u <;> first | (exact absurd rfl h1) | (exact absurd rfl (h2 _)) | (cases op <;> rfl)

theorem run_int {op : BinOp} {t : TypeId} {k : IntKind} {m n : Int} {z : DV} (hs : noShift op = true) (q1 : intD op k m n = some z) :
    ∃ v, (binOp op t (.int k m) (.int k n)).run P w = .ok v w ∧ VR C z v := by
  unfold intD at q1
  cases op <;> simp only [Option.some.injEq, reduceCtorEq, noShift] at q1 hs <;>
    first
      | (subst q1; refine ⟨_, ?_, .int _ _⟩; simp [binOp, Op.intArith]; done)
      | (subst q1; refine ⟨_, ?_, .bool _⟩; simp [binOp, Op.intCmp]; done)
      | (subst q1; refine ⟨_, ?_, .int _ _⟩; simp only [binOp, ne_eq, not_true_eq_false, if_false]; rfl; done)
      | (split at q1
         · cases q1
         · rename_i hn
           injection q1 with q1
           subst q1
           refine ⟨_, ?_, .int _ _⟩
           simp [binOp, Op.intDiv, hn])
      | cases q1
      | cases hs

theorem run_str {op : BinOp} {t : TypeId} {m n : ByteArray} {z : DV} (q1 : binD op (.str m) (.str n) = some z) :
    ∃ v, (binOp op t (.string m) (.string n)).run P w = .ok v w ∧ VR C z v := by
  unfold binD at q1
  cases op <;> simp only [Option.some.injEq, reduceCtorEq] at q1 <;>
    first
      | (subst q1; refine ⟨_, ?_, .bool _⟩; simp [binOp, Op.stringOp]; done)
      | (split at q1
         · rename_i hn
           injection q1 with q1
           subst q1
           refine ⟨_, ?_, .str _⟩
           simp only [binOp, Op.stringOp]
           rw [if_neg (by simp [IntKind.max, IntKind.bits, IntKind.signed]; omega)]
           rfl
         · cases q1)
      | cases q1

theorem sim_bin {op : BinOp} {t t' : TypeId} {x y : Operand} {x' y' : DX} (ho : o.op = .binOp op t x y t') (hs : noShift op = true) (hx : okX x x' = true) (hy : okX y y' = true) (T : TR C s a) (H : WRel C w h)
    (q : opD s h (.bin op x' y') = some (r, h')) : Sim P o a C w r h' := by
  simp only [opD] at q
  split at q
  · rename_i d e hd he
    obtain ⟨z, q1, q2⟩ := map_some q
    injection q2 with q2 q3
    subst q2; subst q3
    have V1 := ev_VR T hx hd
    have V2 := ev_VR T hy he
    have q0 := q1
    unfold binD at q1
    split at q1
    · rename_i k m k' n
      have e1 := V1.int_inv
      have e2 := V2.int_inv
      split at q1
      · rename_i hk
        subst hk
        have G : (eqGuard op t x y (.int k m) (.int k n)).run P w = .ok () w := run_eqGuard_plain op t x y _ _ (by simp) (by simp)
        obtain ⟨v, hv, hV⟩ := run_int (P := P) (C := C) (w := w) (t := t) hs q1
        exact Sim.pure H (v := v) (by simp only [execOp, ho, e1, e2, Sem.run_bind, G, Result.andThen_ok, hv, Sem.run_pure]) hV
      · cases q1
    · rename_i m n
      have e1 := V1.str_inv
      have e2 := V2.str_inv
      have G : (eqGuard op t x y (.string m) (.string n)).run P w = .ok () w := run_eqGuard_plain op t x y _ _ (by simp) (by simp)
      obtain ⟨v, hv, hV⟩ := run_str (P := P) (C := C) (w := w) (t := t) q0
      exact Sim.pure H (v := v) (by simp only [execOp, ho, e1, e2, Sem.run_bind, G, Result.andThen_ok, hv, Sem.run_pure]) hV
    · cases q1
  · cases q

theorem neg_op {op : BinOp} {neg : Bool} (h : (op == if neg then BinOp.neq else BinOp.eql) = true) : op = if neg then .neq else .eql := by
  cases neg <;> cases op <;> first | rfl | cases h

theorem run_equal_bool {t : TypeId} (ht : P.underlying t = some .bool) (b c : Bool) : (Op.equal t (.bool b) (.bool c)).run P w = .ok (b == c) w := by
  show Sem.run P (Op.equalIn (9999 + 1) t (.bool b) (.bool c)) w = _
  rw [Op.equalIn]
  simp [run_underlying ht]

theorem run_equal_nil {t : TypeId} {ms : Array (String × TypeId)} (ht : P.underlying t = some (.interface ms)) : (Op.equal t .nilIface .nilIface).run P w = .ok true w := by
  show Sem.run P (Op.equalIn (9999 + 1) t .nilIface .nilIface) w = _
  rw [Op.equalIn]
  simp [run_underlying ht]

theorem run_equal_iface {t t1 : TypeId} {v1 : Value} {ms : Array (String × TypeId)} (ht : P.underlying t = some (.interface ms)) : (Op.equal t (.iface t1 v1) .nilIface).run P w = .ok false w := by
  show Sem.run P (Op.equalIn (9999 + 1) t (.iface t1 v1) .nilIface) w = _
  rw [Op.equalIn]
  simp [run_underlying ht]

theorem sim_beq {op : BinOp} {neg : Bool} {t t' : TypeId} {x y : Operand} {x' y' : DX} (ho : o.op = .binOp op t x y t') (hn : op = if neg then .neq else .eql) (hx : okX x x' = true) (hy : okX y y' = true) (ht : P.underlying t = some .bool) (T : TR C s a) (H : WRel C w h)
    (q : opD s h (.beq neg x' y') = some (r, h')) : Sim P o a C w r h' := by
  simp only [opD] at q
  split at q
  · rename_i b c hb hc
    injection q with q; injection q with q q'
    subst q; subst q'
    have e1 := (ev_VR T hx hb).bool_inv
    have e2 := (ev_VR T hy hc).bool_inv
    have G : (eqGuard op t x y (.bool b) (.bool c)).run P w = .ok () w := run_eqGuard_plain op t x y _ _ (by simp) (by simp)
    refine Sim.pure H (v := .bool (if neg then !(b == c) else (b == c))) ?_ (.bool _)
    simp only [execOp, ho, e1, e2, Sem.run_bind, G, Result.andThen_ok, Sem.run_pure]
    subst hn
    cases neg <;> simp [binOp, run_equal_bool ht]
  · cases q

theorem sim_eqn {op : BinOp} {neg : Bool} {t t' : TypeId} {x : Operand} {x' : DX} {ms : Array (String × TypeId)} (ho : o.op = .binOp op t x (.const .nilIface) t') (hn : op = if neg then .neq else .eql) (hx : okX x x' = true) (ht : P.underlying t = some (.interface ms)) (T : TR C s a) (H : WRel C w h)
    (q : opD s h (.eqn neg x') = some (r, h')) : Sim P o a C w r h' := by
  simp only [opD] at q
  split at q
  · rename_i hd
    injection q with q; injection q with q q'
    subst q; subst q'
    have e1 : a.eval x = .nilIface := by have V := ev_VR T hx hd; generalize a.eval x = vx at V; cases V; rfl
    have e2 : a.eval (.const .nilIface) = .nilIface := rfl
    have G : (eqGuard op t x (.const .nilIface) .nilIface .nilIface).run P w = .ok () w := by
      unfold eqGuard
      cases op <;> simp
    refine Sim.pure H (v := .bool (!neg)) ?_ (.bool _)
    simp only [execOp, ho, e1, e2, Sem.run_bind, G, Result.andThen_ok, Sem.run_pure]
    subst hn
    cases neg <;> simp [binOp, run_equal_nil ht, run_equal_iface ht]
  · rename_i t1 d1 hd
    injection q with q; injection q with q q'
    subst q; subst q'
    obtain ⟨v1, e1⟩ : ∃ v1, a.eval x = .iface t1 v1 := by have V := ev_VR T hx hd; generalize a.eval x = vx at V; cases V; exact ⟨_, rfl⟩
    have e2 : a.eval (.const .nilIface) = .nilIface := rfl
    have G : (eqGuard op t x (.const .nilIface) (.iface t1 v1) .nilIface).run P w = .ok () w := run_eqGuard_plain op t x _ _ _ (by simp) (by simp)
    refine Sim.pure H (v := .bool neg) ?_ (.bool _)
    simp only [execOp, ho, e1, e2, Sem.run_bind, G, Result.andThen_ok, Sem.run_pure]
    subst hn
    cases neg <;> simp [binOp, run_equal_nil ht, run_equal_iface ht]
  · cases q

theorem sim_not {t : TypeId} {x : Operand} {x' : DX} (ho : o.op = .unOp .not t x) (hx : okX x x' = true) (T : TR C s a) (H : WRel C w h) (q : opD s h (.not x') = some (r, h')) : Sim P o a C w r h' := by
  simp only [opD] at q
  split at q
  · rename_i b hb
    injection q with q; injection q with q q'
    subst q; subst q'
    have e1 := (ev_VR T hx hb).bool_inv
    exact Sim.pure H (v := .bool (!b)) (by simp [execOp, ho, e1, Op.unary]) (.bool _)
  · cases q

theorem sim_neg {t : TypeId} {x : Operand} {x' : DX} (ho : o.op = .unOp .neg t x) (hx : okX x x' = true) (T : TR C s a) (H : WRel C w h) (q : opD s h (.neg x') = some (r, h')) : Sim P o a C w r h' := by
  simp only [opD] at q
  split at q
  · rename_i k n hb
    injection q with q; injection q with q q'
    subst q; subst q'
    have e1 := (ev_VR T hx hb).int_inv
    exact Sim.pure H (v := .int k (k.wrap (0 - n))) (by simp [execOp, ho, e1, Op.unary, Op.intArith]) (.int _ _)
  · cases q

theorem sim_conv {src dst : TypeId} {k : IntKind} {x : Operand} {x' : DX} (ho : o.op = .convert src dst x) (hx : okX x x' = true) (hs : (P.underlying src).isSome = true) (hd : P.underlying dst = some (.int k)) (T : TR C s a) (H : WRel C w h)
    (q : opD s h (.conv k x') = some (r, h')) : Sim P o a C w r h' := by
  simp only [opD] at q
  split at q
  · rename_i k' n hb
    injection q with q; injection q with q q'
    subst q; subst q'
    have e1 := (ev_VR T hx hb).int_inv
    obtain ⟨ds, hds⟩ := Option.isSome_iff_exists.1 hs
    exact Sim.pure H (v := .int k (k.wrap n)) (by simp [execOp, ho, e1, convert, run_underlying hds, run_underlying hd, Conv.intToInt]) (.int _ _)
  · cases q

theorem sim_mkif {t : TypeId} {x : Operand} {x' : DX} (ho : o.op = .makeInterface t x) (hx : okX x x' = true) (ht : (match P.underlying t with | some (.interface _) | none => false | _ => true) = true) (T : TR C s a) (H : WRel C w h)
    (q : opD s h (.mkif t x') = some (r, h')) : Sim P o a C w r h' := by
  simp only [opD] at q
  obtain ⟨d, q1, q2⟩ := map_some q
  injection q2 with q2 q3
  subst q2; subst q3
  refine Sim.pure H (v := .iface t (a.eval x)) ?_ (.iface _ _ _ (ev_VR T hx q1))
  cases hu : P.underlying t with
  | none => rw [hu] at ht; cases ht
  | some e => cases e <;> first | (rw [hu] at ht; cases ht; done) | simp [execOp, ho, Instr.makeInterface, run_underlying hu]

theorem evs_VR (T : TR C s a) : ∀ {xs : List Operand} {ys : List DX} {ds : List DV}, okXs xs ys = true → evs s ys = some ds → (xs.map a.eval).length = ds.length ∧ ∀ (i : Nat) c v, ds[i]? = some c → (xs.map a.eval)[i]? = some v → VR C c v
  | [], [], ds, _, q => by simp [evs] at q; subst q; exact ⟨rfl, fun i c v q => by simp at q⟩
  | [], _ :: _, _, h, _ => by simp [okXs] at h
  | _ :: _, [], _, h, _ => by simp [okXs] at h
  | x :: xs, y :: ys, ds, h, q => by
    simp only [okXs, Bool.and_eq_true] at h
    simp only [evs] at q
    split at q
    · rename_i d ds' hd hds
      injection q with q
      subst q
      obtain ⟨h1, h2⟩ := evs_VR T h.2 hds
      refine ⟨by simpa using h1, fun i c v q q' => ?_⟩
      cases i with
      | zero => simp at q q'; subst q; subst q'; exact ev_VR T h.1 hd
      | succ i => simp at q; simp only [List.map_cons, List.getElem?_cons_succ] at q'; exact h2 i c v q q'
    · cases q

theorem sim_mkfn {f : FuncId} {first caps : Array Operand} {ys : List DX} (ho : o.op = .makeFunc (.func f) first caps) (hf : first.isEmpty = true) (hx : okXs caps.toList ys = true) (T : TR C s a) (H : WRel C w h)
    (q : opD s h (.mkfn f ys) = some (r, h')) : Sim P o a C w r h' := by
  simp only [opD] at q
  obtain ⟨ds, q1, q2⟩ := map_some q
  injection q2 with q2 q3
  subst q2; subst q3
  obtain ⟨h1, h2⟩ := evs_VR T hx q1
  have hf' : first = #[] := by simpa using hf
  refine Sim.pure H (v := .func (.func f) #[] (caps.map a.eval)) (by simp [execOp, ho, Instr.makeFunc, hf']) (.func f ds _ (by simpa using h1) (fun i c v p p' => h2 i c v p (by simpa using p')))

theorem sim_ext {x : Operand} {x' : DX} {i : Nat} (ho : o.op = .extract x i) (hx : okX x x' = true) (T : TR C s a) (H : WRel C w h) (q : opD s h (.ext x' i) = some (r, h')) : Sim P o a C w r h' := by
  simp only [opD] at q
  split at q
  · rename_i vs hb
    obtain ⟨d, q1, q2⟩ := map_some q
    injection q2 with q2 q3
    subst q2; subst q3
    have V := ev_VR T hx hb
    obtain ⟨us, hl, hus, e1⟩ : ∃ us : Array Value, us.size = vs.length ∧ (∀ (i : Nat) c v, vs[i]? = some c → us[i]? = some v → VR C c v) ∧ a.eval x = .tuple us := by
      generalize a.eval x = vx at V
      cases V
      exact ⟨_, by assumption, by assumption, rfl⟩
    have hi := (List.getElem?_eq_some_iff.1 q1).1
    have hu : us[i]? = some us[i] := Array.getElem?_eq_getElem (by omega)
    exact Sim.pure H (v := us[i]) (by simp [execOp, ho, e1, Instr.extract, hu]) (hus i _ _ q1 hu)
  · cases q

theorem sim_tas {xt t : TypeId} {ok : Bool} {z : DV} {x : Operand} {x' : DX} (ho : o.op = .typeAssert x xt t ok) (hx : okX x x' = true) (hz : okZ P t z = true) (ht : (match P.underlying t with | some (.interface _) | none => false | _ => true) = true) (T : TR C s a) (H : WRel C w h)
    (q : opD s h (.tas t z ok x') = some (r, h')) : Sim P o a C w r h' := by
  obtain ⟨ti, zv, hinfo, hzero, hzv⟩ : ∃ ti zv, P.info? t = some ti ∧ ti.zero = some zv ∧ VR C z zv := by
    unfold okZ at hz
    cases hi : P.info? t with
    | none => rw [hi] at hz; simp at hz
    | some ti =>
      rw [hi] at hz
      cases hzz : ti.zero with
      | none => simp [hzz] at hz
      | some zv =>
        refine ⟨ti, zv, rfl, hzz, ?_⟩
        simp only [Option.bind_some, hzz] at hz
        split at hz
        · rename_i vs ds h1
          simp at h1
          subst h1
          obtain ⟨e1, e2⟩ := okCs_get hz
          refine .agg _ _ (by simpa using e1) (fun c hc => ?_) (fun i c v p p' => okC_VR (e2 i v c (by simpa using p') p))
          obtain ⟨i, hi, rfl⟩ := List.getElem_of_mem hc
          exact (okC_one (e2 i _ _ (List.getElem?_eq_getElem (by omega)) (List.getElem?_eq_getElem hi))).1
        · rename_i v d h1 h2
          simp at h1
          subst h1
          exact okC_VR hz
        · cases hz
  have hzr : (zeroValue t).run P w = .ok zv w := by simp [zeroValue, typeInfo, hinfo, hzero]
  obtain ⟨dsc, hu, hni⟩ : ∃ dsc, P.underlying t = some dsc ∧ ∀ m, dsc ≠ .interface m := by
    cases hu : P.underlying t with
    | none => rw [hu] at ht; cases ht
    | some e => exact ⟨e, rfl, fun m hm => by rw [hu, hm] at ht; cases ht⟩
  simp only [opD] at q
  split at q
  · rename_i t' d hd
    have V := ev_VR T hx hd
    obtain ⟨v, hv, e1⟩ : ∃ v, VR C d v ∧ a.eval x = .iface t' v := by
      generalize a.eval x = vx at V
      cases V
      exact ⟨_, by assumption, rfl⟩
    split at q
    · rename_i htt
      subst htt
      injection q with q; injection q with q q'
      subst q; subst q'
      refine Sim.pure H (v := if ok then .tuple #[v, .bool true] else v) ?_ ?_
      · simp only [execOp, ho, e1, Instr.typeAssert, Sem.run_bind, run_underlying hu, Result.andThen_ok]
        cases dsc <;> first | exact absurd rfl (hni _) | simp
      · cases ok
        · exact hv
        · exact .tup _ _ rfl (fun i c u p p' => by
            match i with
            | 0 => simp at p p'; subst p; subst p'; exact hv
            | 1 => simp at p p'; subst p; subst p'; exact .bool _
            | i + 2 => simp at p)
    · rename_i htt
      split at q
      · rename_i hok
        subst hok
        injection q with q; injection q with q q'
        subst q; subst q'
        refine Sim.pure H (v := .tuple #[zv, .bool false]) ?_ ?_
        · simp only [execOp, ho, e1, Instr.typeAssert, Sem.run_bind, run_underlying hu, Result.andThen_ok]
          cases dsc <;> first | exact absurd rfl (hni _) | simp [Ne.symm htt, hzr]
        · exact .tup _ _ rfl (fun i c u p p' => by
            match i with
            | 0 => simp at p p'; subst p; subst p'; exact hzv
            | 1 => simp at p p'; subst p; subst p'; exact .bool _
            | i + 2 => simp at p)
      · cases q
  · rename_i hd
    have e1 : a.eval x = .nilIface := by have V := ev_VR T hx hd; generalize a.eval x = vx at V; cases V; rfl
    split at q
    · rename_i hok
      subst hok
      injection q with q; injection q with q q'
      subst q; subst q'
      refine Sim.pure H (v := .tuple #[zv, .bool false]) ?_ ?_
      · simp only [execOp, ho, e1, Instr.typeAssert, Sem.run_bind, run_underlying hu, Result.andThen_ok]
        cases dsc <;> first | exact absurd rfl (hni _) | simp [hzr]
      · exact .tup _ _ rfl (fun i c u p p' => by
          match i with
          | 0 => simp at p p'; subst p; subst p'; exact hzv
          | 1 => simp at p p'; subst p; subst p'; exact .bool _
          | i + 2 => simp at p)
    · cases q
  · cases q

end

end Go.Proofs.Ytdlonbcefhimaaa.XD
