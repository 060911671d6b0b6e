/- What is proved: an operation of the plain evaluator that succeeds says what the machine's operation does. No condition. -/
import Derived.Test.YtdlonbcefhimaaaXD3
namespace Go.Proofs.Ytdlonbcefhimaaa.XD
open Go Go.RowKit
set_option linter.all false

/-- The slots of a frame. -/
def TR (C : Ctx) (s : List DV) (a : Act) : Prop := ∀ (i : Nat) d, s[i]? = some d → ∃ v, a.tmps[i]? = some v ∧ (d.isJ = false → VR C d v)

theorem TR.get {C : Ctx} {s : List DV} {a : Act} (t : TR C s a) {i : Nat} {d : DV} (h : getS s i = some d) : ∃ v, a.tmps[i]? = some v ∧ VR C d v := by
  obtain ⟨h1, h2⟩ := getS_some h
  obtain ⟨v, hv, hV⟩ := t i d h1
  exact ⟨v, hv, hV h2⟩

theorem TR.mono {C C' : Ctx} {s : List DV} {a : Act} (h : C.le C') (t : TR C s a) : TR C' s a := fun i d q => by
  obtain ⟨v, h1, h2⟩ := t i d q
  exact ⟨v, h1, fun hj => (h2 hj).mono h⟩

theorem TR.put {C : Ctx} {s : List DV} {a : Act} (t : TR C s a) {d : DV} {v : Value} (hv : VR C d v) (i : Nat) : TR C (s.set i d) (a.put (some i) v) := fun j e q => by
  by_cases hij : i = j
  · subst hij
    have hl : i < s.length := by
      rcases Nat.lt_or_ge i s.length with h | h
      · exact h
      · rw [List.getElem?_eq_none (by simpa using h)] at q; cases q
    rw [List.getElem?_set_self hl] at q
    injection q with q
    subst q
    obtain ⟨v0, h1, _⟩ := t i _ (List.getElem?_eq_getElem hl)
    have hl2 : i < a.tmps.size := (Array.getElem?_eq_some_iff.1 h1).1
    exact ⟨v, by simp [Act.put, hl2], fun _ => hv⟩
  · rw [List.getElem?_set_ne hij] at q
    obtain ⟨v0, h1, h2⟩ := t j e q
    exact ⟨v0, by simp only [Act.put]; rw [Array.getElem?_setIfInBounds_ne hij]; exact h1, h2⟩

theorem okC_VR {C : Ctx} {v : Value} {d : DV} (h : okC v d = true) : VR C d v := by
  unfold okC at h
  split at h <;> first | (simp at h; obtain ⟨rfl, rfl⟩ := h; exact .int _ _) | (simp at h; subst h; first | exact .bool _ | exact .str _) | exact .roE 2 none 0 (fun _ => rfl) | exact .niface | exact .nilp | cases h

theorem okC_one {v : Value} {d : DV} (h : okC v d = true) : d.one = true ∧ v.oneCell' = true := by
  unfold okC at h
  split at h <;> first | exact ⟨rfl, rfl⟩ | cases h

theorem okCs_get : ∀ {vs : List Value} {ds : List DV}, okCs vs ds = true → vs.length = ds.length ∧ ∀ (i : Nat) v d, vs[i]? = some v → ds[i]? = some d → okC v d = true
  | [], [], _ => ⟨rfl, fun i v d h => by simp at h⟩
  | [], _ :: _, h => by simp [okCs] at h
  | _ :: _, [], h => by simp [okCs] at h
  | v :: vs, d :: ds, h => by
    simp only [okCs, Bool.and_eq_true] at h
    obtain ⟨h1, h2⟩ := okCs_get h.2
    refine ⟨by simp [h1], fun i v' d' q q' => ?_⟩
    cases i with
    | zero => simp at q q'; subst q; subst q'; exact h.1
    | succ i => simp at q q'; exact h2 i v' d' q q'

theorem ev_VR {C : Ctx} {s : List DV} {a : Act} (t : TR C s a) {x : Operand} {y : DX} (h : okX x y = true) {d : DV} (q : y.ev s = some d) : VR C d (a.eval x) := by
  cases x <;> cases y <;> simp only [okX] at h
  case tmp.t i j =>
    simp at h
    subst h
    obtain ⟨v, h1, h2⟩ := t.get q
    simp only [Act.eval, Array.getD_eq_getD_getElem?, h1, Option.getD_some]
    exact h2
  case const.c v d' =>
    simp only [DX.ev, Option.some.injEq] at q
    subst q
    exact okC_VR h
  case func.c f d' =>
    simp only [DX.ev, Option.some.injEq] at q
    subst q
    split at h <;> first | (rename_i h1 h2; cases h1; done) | skip
    · rename_i h1 h2
      simp at h
      cases h1
      cases h2
      subst h
      exact .func _ [] #[] rfl (fun i c v q => by simp at q)
    · cases h
  all_goals (first | cases h | skip)

/-- What an operation does. -/
def Sim (P : Program) (o : Oper) (a : Act) (C : Ctx) (w : World) (d : DV) (h' : Heap) : Prop :=
  ∃ v w' C', ((execOp a.eval o).run P w = .ok (.value v) w' ∨ (v = undef ∧ (execOp a.eval o).run P w = .ok .skip w')) ∧ WRel C' w' h' ∧ Step C w C' w' ∧ VR C' d v

/-- A result that memory has no part in. -/
theorem Sim.pure {P : Program} {o : Oper} {a : Act} {C : Ctx} {w : World} {h : Heap} {d : DV} {v : Value} (H : WRel C w h) (hr : (execOp a.eval o).run P w = .ok (.value v) w) (hv : VR C d v) : Sim P o a C w d h :=
  ⟨v, w, C, .inl hr, H, .refl C w, hv⟩

section
variable {P : Program} {C : Ctx} {s : List DV} {a : Act} {w : World} {h : Heap}

theorem VR.cells {d : DV} {v : Value} (hv : VR C d v) (h1 : d.cells.all DV.one = true) : v.cells.size = d.cells.length ∧ (∀ u ∈ v.cells.toList, u.oneCell' = true) ∧
    ∀ (i : Nat) c, d.cells[i]? = some c → ∃ u, v.cells[i]? = some u ∧ VR C c u := by
  have key : ∀ (d : DV) (v : Value), VR C d v → d.cells = [d] → v.cells = #[v] → d.one = true → v.cells.size = d.cells.length ∧ (∀ u ∈ v.cells.toList, u.oneCell' = true) ∧
      ∀ (i : Nat) c, d.cells[i]? = some c → ∃ u, v.cells[i]? = some u ∧ VR C c u := fun d v hv hd hv' ho => by
    rw [hd, hv']
    refine ⟨rfl, fun u hu => ?_, fun i c q => ?_⟩
    · simp at hu; subst hu; exact hv.one ho
    · cases i with
      | zero => simp at q; subst q; exact ⟨v, rfl, hv⟩
      | succ i => simp at q
  cases hv with
  | agg cs vs hl ho hh =>
    refine ⟨hl, fun u hu => ?_, fun i c q => ?_⟩
    · obtain ⟨i, hi, rfl⟩ := List.getElem_of_mem hu
      simp only [Value.cells] at hi ⊢
      have hi' : i < vs.size := by simpa using hi
      have hc : i < cs.length := by omega
      have hx := hh i cs[i] vs[i] (List.getElem?_eq_getElem hc) (Array.getElem?_eq_getElem hi')
      have := hx.one (ho _ (List.getElem_mem hc))
      simpa [Value.cells] using this
    · have hi := (List.getElem?_eq_some_iff.1 q).1
      simp only [DV.cells] at hi q
      exact ⟨vs[i], by simp only [Value.cells]; exact Array.getElem?_eq_getElem (by omega), hh i c _ q (Array.getElem?_eq_getElem (by omega))⟩
  | tup cs vs hl hh => simp [DV.cells, DV.one] at h1
  | bool b => exact key _ _ (.bool b) rfl rfl rfl
  | int k n => exact key _ _ (.int k n) rfl rfl rfl
  | str t => exact key _ _ (.str t) rfl rfl rfl
  | roE t a cap h2 => exact key _ _ (.roE t a cap h2) rfl rfl rfl
  | ro t st es b off cap vals q1 q2 q3 q4 q5 q6 => exact key _ _ (.ro t st es b off cap vals q1 q2 q3 q4 q5 q6) rfl rfl rfl
  | nsl n i len u hn hu hh =>
    have hu' := hu
    obtain ⟨a, cap, rfl⟩ := hu'
    exact key _ _ (.nsl n i len _ hn hu hh) rfl rfl rfl
  | ptr n i off stamp a hn hh => exact key _ _ (.ptr n i off stamp a hn hh) rfl rfl rfl
  | rp t cs off b o vals q1 q2 q3 => exact key _ _ (.rp t cs off b o vals q1 q2 q3) rfl rfl rfl
  | func f caps vs hl hh => exact key _ _ (.func f caps vs hl hh) rfl rfl rfl
  | niface => exact key _ _ .niface rfl rfl rfl
  | iface t d v hh => exact key _ _ (.iface t d v hh) rfl rfl rfl
  | map n r hn hh => exact key _ _ (.map n r hn hh) rfl rfl rfl
  | nilp => exact key _ _ .nilp rfl rfl rfl

/-- A variable in memory. -/
theorem sim_new {o : Oper} {e : TypeId} {cs : List DV} {vs : Array Value} (H : WRel C w h)
    (hr : (execOp a.eval o).run P w = .ok (.value (.pointer (some ⟨w.heap.size, 0, none⟩))) (w.alloc (.cells vs e)))
    (hl : vs.size = cs.length) (h1 : ∀ c ∈ cs, c.one = true) (hv : ∀ (i : Nat) c, cs[i]? = some c → ∃ u, vs[i]? = some u ∧ VR C c u) :
    Sim P o a C w (.ptr h.length 0 0 1) (h ++ [.arr e cs.length [cs] 0]) := by
  have hg : w.grownBy (w.alloc (.cells vs e)) none := World.grownBy_alloc w _ none
  have ho : (w.alloc (.cells vs e)).ownsRow w.heap.size e cs.length (.slice (some ⟨w.heap.size, 0, none⟩) 1 1) [cs].length vs.toList :=
    ⟨by simp [hl], .inr ⟨w.heap.size, 1, vs, rfl, Nat.le_refl _, heap_alloc_new w _, by simp, by simp [maxLen], by simp [hl], by rw [show [cs].length * cs.length = vs.toList.length by simp [hl]]; exact List.take_length⟩⟩
  obtain ⟨W, S⟩ := H.add hg (m := 0) ho (Nat.zero_le _) (fun x hx => by simp at hx; subst hx; rfl) (fun x hx c hc => by simp at hx; subst hx; exact h1 c hc)
    (fun i j x c p q => by
      cases i with
      | zero => simp at p; subst p; obtain ⟨u, hu, hv'⟩ := hv j c q; exact ⟨u, by simpa using hu, hv'⟩
      | succ i => simp at p)
  refine ⟨_, _, _, .inl hr, W, S, ?_⟩
  refine .ptr _ _ _ _ _ (by simp only [Ctx.add, H.nx]; omega) (fun v e' st L m q => ?_)
  simp only [Ctx.add] at q
  rw [if_pos H.nx.symm] at q
  injection q with q
  injection q with x1 x2 x3 x4 x5
  subst x1; subst x4
  exact ⟨by simp, fun _ => ⟨by omega, w.heap.size, 1, rfl, by simp⟩⟩

end

end Go.Proofs.Ytdlonbcefhimaaa.XD
