/- What is proved: the evaluator without a bound on its rounds: it is what the bounded ones come to. No condition. -/
import Derived.Test.YtdlonbcefhimaaaXD17
namespace Go.Proofs.Ytdlonbcefhimaaa.XD
open Go Go.RowKit
set_option linter.all false

/-- Less told, or the same. -/
def LeO {α : Type} (x y : Option α) : Prop := ∀ a, x = some a → y = some a

theorem LeO.refl {α : Type} (x : Option α) : LeO x x := fun _ h => h
theorem LeO.trans {α : Type} {x y z : Option α} (h : LeO x y) (k : LeO y z) : LeO x z := fun a q => k a (h a q)

open Classical in
/-- What answers come to, with more and more rounds. -/
noncomputable def lim {α : Type} (g : Nat → Option α) : Option α := if h : ∃ n a, g n = some a then g h.choose else none

theorem mono_le {α : Type} {g : Nat → Option α} (hg : ∀ n, LeO (g n) (g (n + 1))) {n m : Nat} (h : n ≤ m) : LeO (g n) (g m) := by
  induction h with
  | refl => exact .refl _
  | step _ ih => exact ih.trans (hg _)

theorem lim_some {α : Type} {g : Nat → Option α} (hg : ∀ n, LeO (g n) (g (n + 1))) {n : Nat} {a : α} (h : g n = some a) : lim g = some a := by
  have hx : ∃ n a, g n = some a := ⟨n, a, h⟩
  unfold lim
  rw [dif_pos hx]
  obtain ⟨b, hb⟩ := hx.choose_spec
  rcases Nat.le_total n hx.choose with hl | hl
  · exact mono_le hg hl a h
  · have := mono_le hg hl b hb
    rw [h] at this
    rw [hb, this]

theorem lim_spec {α : Type} {g : Nat → Option α} {a : α} (h : lim g = some a) : ∃ n, g n = some a := by
  unfold lim at h
  split at h
  · rename_i hx
    exact ⟨_, h⟩
  · cases h

abbrev Res := Option (DExit × List DV × Heap)
abbrev StepF := List DV → Heap → Res

noncomputable def iterL (f : StepF) : StepF := fun s h => lim fun k => iter f k s h

theorem iter_mono {f g : StepF} (hfg : ∀ s h, LeO (f s h) (g s h)) : ∀ k s h, LeO (iter f k s h) (iter g k s h) := by
  intro k
  induction k with
  | zero => intro s h a q; simp [iter] at q
  | succ k ih =>
    intro s h a q
    simp only [iter] at q ⊢
    cases hf : f s h with
    | none => rw [hf] at q; cases q
    | some x =>
      rw [hf] at q
      rw [hfg s h x hf]
      obtain ⟨e, s', h'⟩ := x
      cases e with
      | normal => exact ih s' h' a q
      | exit id => exact q
      | ret => exact q

theorem iter_step {f : StepF} : ∀ k s h, LeO (iter f k s h) (iter f (k + 1) s h) := by
  intro k
  induction k with
  | zero => intro s h a q; simp [iter] at q
  | succ k ih =>
    intro s h a q
    rw [iter] at q ⊢
    cases hf : f s h with
    | none => rw [hf] at q; cases q
    | some x =>
      rw [hf] at q
      obtain ⟨e, s', h'⟩ := x
      cases e with
      | normal => exact ih s' h' a q
      | exit id => exact q
      | ret => exact q

/-- A loop's first round. -/
theorem iterL_eq (f : StepF) (s : List DV) (h : Heap) : iterL f s h = match f s h with
    | some (.normal, s', h') => iterL f s' h'
    | r => r := by
  have key : ∀ x, iterL f s h = some x ↔ (match f s h with
      | some (.normal, s', h') => iterL f s' h'
      | r => r) = some x := by
    intro x
    constructor
    · intro hx
      obtain ⟨k, hk⟩ := lim_spec hx
      cases k with
      | zero => simp [iter] at hk
      | succ k =>
        simp only [iter] at hk
        cases hf : f s h with
        | none => rw [hf] at hk; cases hk
        | some y =>
          rw [hf] at hk
          obtain ⟨e, s', h'⟩ := y
          cases e with
          | normal => exact lim_some (fun n => iter_step n s' h') hk
          | exit id => exact hk
          | ret => exact hk
    · intro hx
      cases hf : f s h with
      | none => rw [hf] at hx; cases hx
      | some y =>
        rw [hf] at hx
        obtain ⟨e, s', h'⟩ := y
        cases e with
        | normal =>
          obtain ⟨k, hk⟩ := lim_spec hx
          exact lim_some (n := k + 1) (fun n => iter_step n s h) (by simp only [iter, hf]; exact hk)
        | exit id => exact lim_some (n := 1) (fun n => iter_step n s h) (by simp only [iter, hf]; exact hx)
        | ret => exact lim_some (n := 1) (fun n => iter_step n s h) (by simp only [iter, hf]; exact hx)
  apply Option.ext
  exact key

noncomputable def execL (F : CallF) : DCode → List DV → Heap → Res
  | .skip kp, s, h => some (.normal, keepS kp s, h)
  | .reg _ ops kp, s, h => match runOps F ops s h with
    | some (s', h') => some (.normal, keepS kp s', h')
    | none => none
  | .seq a b, s, h => match execL F a s h with
    | some (.normal, s', h') => execL F b s' h'
    | r => r
  | .cond x a b, s, h => match x.ev s with
    | some (.bool t) => if t then execL F a s h else execL F b s h
    | _ => none
  | .block id c, s, h => match execL F c s h with
    | some (.exit i, s', h') => if i = id then some (.normal, s', h') else some (.exit i, s', h')
    | r => r
  | .loop c, s, h => iterL (execL F c) s h
  | .exit id kp, s, h => some (.exit id, keepS kp s, h)
  | .ret, s, h => some (.ret, s, h)

def LeF (F G : CallF) : Prop := ∀ f args h, LeO (F f args h) (G f args h)

section
variable {F G : CallF}

theorem callD_mono (hFG : LeF F G) {f : FuncId} {args : List DV} {m : CM} {h : Heap} : LeO (callD F f args m h) (callD G f args m h) := by
  intro a q
  cases m with
  | pure =>
    simp only [callD] at q ⊢
    cases hs : args.mapM (snap h 1 0 6) with
    | none => rw [hs] at q; cases q
    | some as =>
      rw [hs] at q
      simp only at q ⊢
      cases hf : F f as [] with
      | none => rw [hf] at q; cases q
      | some x => rw [hf] at q; rw [hFG f as [] x hf]; exact q
  | shared =>
    simp only [callD] at q ⊢
    cases hf : F f args h with
    | none => rw [hf] at q; cases q
    | some x => rw [hf] at q; rw [hFG f args h x hf]; exact q

theorem opB_mono (hFG : LeF F G) {s : List DV} {h : Heap} {b : DBody} : LeO (opB F s h b) (opB G s h b) := by
  intro a q
  cases b with
  | op d => exact q
  | call c args m =>
    simp only [opB] at q ⊢
    cases he : evs s args with
    | none => rw [he] at q; cases q
    | some as =>
      rw [he] at q
      cases c with
      | fn f => exact callD_mono hFG a q
      | val x =>
        simp only at q ⊢
        split at q
        · exact callD_mono hFG a q
        · cases q
      | inv x tbl =>
        simp only at q ⊢
        split at q
        · split at q
          · exact callD_mono hFG a q
          · cases q
        · cases q

theorem stepO_mono (hFG : LeF F G) {o : DOper} {s : List DV} {h : Heap} : LeO (stepO F o s h) (stepO G o s h) := by
  intro a q
  unfold stepO at q ⊢
  cases hw : wantedD s o.guard with
  | none => rw [hw] at q; cases q
  | some t =>
    rw [hw] at q
    cases t with
    | false => exact q
    | true =>
      simp only at q ⊢
      cases hb : opB F s h o.body with
      | none => rw [hb] at q; cases q
      | some x => rw [hb] at q; rw [opB_mono hFG x hb]; exact q

theorem runOps_mono (hFG : LeF F G) : ∀ {ops : List DOper} {s : List DV} {h : Heap}, LeO (runOps F ops s h) (runOps G ops s h)
  | [], s, h => .refl _
  | o :: l, s, h => by
    intro a q
    simp only [runOps] at q ⊢
    cases hs : stepO F o s h with
    | none => rw [hs] at q; cases q
    | some x =>
      rw [hs] at q
      rw [stepO_mono hFG x hs]
      exact runOps_mono hFG a q

theorem execW_mono (hFG : LeF F G) {n m : Nat} (hnm : n ≤ m) : ∀ (c : DCode) (s : List DV) (h : Heap), LeO (execW F n c s h) (execW G m c s h) := by
  intro c
  induction c with
  | skip kp => intro s h; exact .refl _
  | exit id kp => intro s h; exact .refl _
  | ret => intro s h; exact .refl _
  | reg d ops =>
    intro s h a q
    simp only [execW] at q ⊢
    cases hr : runOps F ops s h with
    | none => rw [hr] at q; cases q
    | some x => rw [hr] at q; rw [runOps_mono hFG x hr]; exact q
  | seq x y ihx ihy =>
    intro s h a q
    simp only [execW] at q ⊢
    cases hx : execW F n x s h with
    | none => rw [hx] at q; cases q
    | some z =>
      rw [hx] at q
      rw [ihx s h z hx]
      obtain ⟨e, s', h'⟩ := z
      cases e with
      | normal => exact ihy s' h' a q
      | exit id => exact q
      | ret => exact q
  | cond x y z ihy ihz =>
    intro s h a q
    simp only [execW] at q ⊢
    split at q
    · rename_i t _
      cases t with
      | true => exact ihy s h a q
      | false => exact ihz s h a q
    · cases q
  | block id x ih =>
    intro s h a q
    simp only [execW] at q ⊢
    cases hx : execW F n x s h with
    | none => rw [hx] at q; cases q
    | some z => rw [hx] at q; rw [ih s h z hx]; exact q
  | loop x ih =>
    intro s h a q
    simp only [execW] at q ⊢
    have := iter_mono (f := execW F n x) (g := execW G m x) ih n s h a q
    exact mono_le (g := fun k => iter (execW G m x) k s h) (fun k => iter_step k s h) hnm a this

theorem execW_L (hFG : LeF F G) {n : Nat} : ∀ (c : DCode) (s : List DV) (h : Heap), LeO (execW F n c s h) (execL G c s h) := by
  intro c
  induction c with
  | skip kp => intro s h; exact .refl _
  | exit id kp => intro s h; exact .refl _
  | ret => intro s h; exact .refl _
  | reg d ops =>
    intro s h a q
    simp only [execW, execL] at q ⊢
    cases hr : runOps F ops s h with
    | none => rw [hr] at q; cases q
    | some x => rw [hr] at q; rw [runOps_mono hFG x hr]; exact q
  | seq x y ihx ihy =>
    intro s h a q
    simp only [execW, execL] at q ⊢
    cases hx : execW F n x s h with
    | none => rw [hx] at q; cases q
    | some z =>
      rw [hx] at q
      rw [ihx s h z hx]
      obtain ⟨e, s', h'⟩ := z
      cases e with
      | normal => exact ihy s' h' a q
      | exit id => exact q
      | ret => exact q
  | cond x y z ihy ihz =>
    intro s h a q
    simp only [execW, execL] at q ⊢
    split at q
    · rename_i t hx
      rw [hx]
      cases t with
      | true => exact ihy s h a q
      | false => exact ihz s h a q
    · cases q
  | block id x ih =>
    intro s h a q
    simp only [execW, execL] at q ⊢
    cases hx : execW F n x s h with
    | none => rw [hx] at q; cases q
    | some z => rw [hx] at q; rw [ih s h z hx]; exact q
  | loop x ih =>
    intro s h a q
    simp only [execW, execL] at q ⊢
    exact lim_some (fun k => iter_step k s h) (iter_mono (f := execW F n x) (g := execL G x) ih n s h a q)

/-- A finite answer needs finitely many rounds. -/
theorem execL_W {H : Nat → CallF} (hH : ∀ n, LeF (H n) (H (n + 1))) {G : CallF} (hG : ∀ f args h a, G f args h = some a → ∃ n, H n f args h = some a) :
    ∀ (c : DCode) (s : List DV) (h : Heap) (a : DExit × List DV × Heap), execL G c s h = some a → ∃ n, execW (H n) n c s h = some a := by
  have hle : ∀ {n m : Nat}, n ≤ m → LeF (H n) (H m) := fun hnm f args h => mono_le (g := fun n => H n f args h) (fun n => hH n f args h) hnm
  have call : ∀ {f : FuncId} {args : List DV} {m : CM} {h : Heap} {a : DV × Heap}, callD G f args m h = some a → ∃ n, callD (H n) f args m h = some a := by
    intro f args m h a q
    cases m with
    | pure =>
      simp only [callD] at q
      cases hs : args.mapM (snap h 1 0 6) with
      | none => rw [hs] at q; cases q
      | some as =>
        rw [hs] at q
        simp only at q
        cases hf : G f as [] with
        | none => rw [hf] at q; cases q
        | some x =>
          rw [hf] at q
          obtain ⟨n, hn⟩ := hG f as [] x hf
          exact ⟨n, by simp only [callD, hs, hn]; exact q⟩
    | shared =>
      simp only [callD] at q
      cases hf : G f args h with
      | none => rw [hf] at q; cases q
      | some x =>
        rw [hf] at q
        obtain ⟨n, hn⟩ := hG f args h x hf
        exact ⟨n, by simp only [callD, hn]; exact q⟩
  have body : ∀ {s : List DV} {h : Heap} {b : DBody} {a : DV × Heap}, opB G s h b = some a → ∃ n, opB (H n) s h b = some a := by
    intro s h b a q
    cases b with
    | op d => exact ⟨0, q⟩
    | call c args m =>
      simp only [opB] at q
      cases he : evs s args with
      | none => rw [he] at q; cases q
      | some as =>
        rw [he] at q
        cases c with
        | fn f => obtain ⟨n, hn⟩ := call q; exact ⟨n, by simp only [opB, he]; exact hn⟩
        | val x =>
          simp only at q
          split at q
          · rename_i f caps hx
            obtain ⟨n, hn⟩ := call q
            exact ⟨n, by simp only [opB, he, hx]; exact hn⟩
          · cases q
        | inv x tbl =>
          simp only at q
          split at q
          · rename_i t d hx
            split at q
            · rename_i f hf
              obtain ⟨n, hn⟩ := call q
              exact ⟨n, by simp only [opB, he, hx, hf]; exact hn⟩
            · cases q
          · cases q
  have step : ∀ {o : DOper} {s : List DV} {h : Heap} {a : List DV × Heap}, stepO G o s h = some a → ∃ n, stepO (H n) o s h = some a := by
    intro o s h a q
    unfold stepO at q
    cases hw : wantedD s o.guard with
    | none => rw [hw] at q; cases q
    | some t =>
      rw [hw] at q
      cases t with
      | false => exact ⟨0, by unfold stepO; rw [hw]; exact q⟩
      | true =>
        simp only at q
        cases hb : opB G s h o.body with
        | none => rw [hb] at q; cases q
        | some x =>
          rw [hb] at q
          obtain ⟨n, hn⟩ := body hb
          exact ⟨n, by unfold stepO; rw [hw]; simp only [hn]; exact q⟩
  have ops : ∀ {l : List DOper} {s : List DV} {h : Heap} {a : List DV × Heap}, runOps G l s h = some a → ∃ n, runOps (H n) l s h = some a := by
    intro l
    induction l with
    | nil => intro s h a q; exact ⟨0, q⟩
    | cons o l ih =>
      intro s h a q
      simp only [runOps] at q
      cases hs : stepO G o s h with
      | none => rw [hs] at q; cases q
      | some x =>
        rw [hs] at q
        obtain ⟨n, hn⟩ := step hs
        obtain ⟨m, hm⟩ := ih q
        refine ⟨max n m, ?_⟩
        simp only [runOps, stepO_mono (hle (Nat.le_max_left n m)) x hn]
        exact runOps_mono (hle (Nat.le_max_right n m)) a hm
  intro c
  induction c with
  | skip kp => intro s h a q; exact ⟨0, q⟩
  | exit id kp => intro s h a q; exact ⟨0, q⟩
  | ret => intro s h a q; exact ⟨0, q⟩
  | reg d l =>
    intro s h a q
    simp only [execL] at q
    cases hr : runOps G l s h with
    | none => rw [hr] at q; cases q
    | some x =>
      rw [hr] at q
      obtain ⟨n, hn⟩ := ops hr
      exact ⟨n, by simp only [execW, hn]; exact q⟩
  | seq x y ihx ihy =>
    intro s h a q
    simp only [execL] at q
    cases hx : execL G x s h with
    | none => rw [hx] at q; cases q
    | some z =>
      rw [hx] at q
      obtain ⟨n, hn⟩ := ihx s h z hx
      obtain ⟨e, s', h'⟩ := z
      cases e with
      | normal =>
        obtain ⟨m, hm⟩ := ihy s' h' a q
        refine ⟨max n m, ?_⟩
        simp only [execW, execW_mono (hle (Nat.le_max_left n m)) (Nat.le_max_left n m) x s h _ hn]
        exact execW_mono (hle (Nat.le_max_right n m)) (Nat.le_max_right n m) y s' h' a hm
      | exit id => exact ⟨n, by simp only [execW, hn]; exact q⟩
      | ret => exact ⟨n, by simp only [execW, hn]; exact q⟩
  | cond x y z ihy ihz =>
    intro s h a q
    simp only [execL] at q
    split at q
    · rename_i t hx
      cases t with
      | true => obtain ⟨n, hn⟩ := ihy s h a q; exact ⟨n, by simp only [execW, hx]; exact hn⟩
      | false => obtain ⟨n, hn⟩ := ihz s h a q; exact ⟨n, by simp only [execW, hx]; exact hn⟩
    · cases q
  | block id x ih =>
    intro s h a q
    simp only [execL] at q
    cases hx : execL G x s h with
    | none => rw [hx] at q; cases q
    | some z =>
      rw [hx] at q
      obtain ⟨n, hn⟩ := ih s h z hx
      exact ⟨n, by simp only [execW, hn]; exact q⟩
  | loop x ih =>
    intro s h a q
    simp only [execL] at q
    obtain ⟨k, hk⟩ := lim_spec q
    clear q
    have key : ∀ (k : Nat) (s : List DV) (h : Heap), iter (execL G x) k s h = some a → ∃ n, iter (execW (H n) n x) k s h = some a := by
      intro k
      induction k with
      | zero => intro s h q; simp [iter] at q
      | succ k ihk =>
        intro s h q
        simp only [iter] at q
        cases hx : execL G x s h with
        | none => rw [hx] at q; cases q
        | some z =>
          rw [hx] at q
          obtain ⟨n, hn⟩ := ih s h z hx
          obtain ⟨e, s', h'⟩ := z
          cases e with
          | normal =>
            obtain ⟨m, hm⟩ := ihk s' h' q
            refine ⟨max n m, ?_⟩
            simp only [iter, execW_mono (hle (Nat.le_max_left n m)) (Nat.le_max_left n m) x s h _ hn]
            exact iter_mono (execW_mono (hle (Nat.le_max_right n m)) (Nat.le_max_right n m) x) k s' h' a hm
          | exit id => exact ⟨n, by simp only [iter, hn]; exact q⟩
          | ret => exact ⟨n, by simp only [iter, hn]; exact q⟩
    obtain ⟨n, hn⟩ := key k s h hk
    refine ⟨max n k, ?_⟩
    simp only [execW]
    have := iter_mono (execW_mono (hle (Nat.le_max_left n k)) (Nat.le_max_left n k) x) k s h a hn
    exact mono_le (g := fun j => iter (execW (H (max n k)) (max n k) x) j s h) (fun j => iter_step j s h) (Nat.le_max_right n k) a this

end

theorem run_mono {E : Env} : ∀ n, LeF (run E n) (run E (n + 1)) := by
  intro n
  induction n with
  | zero => intro f args h a q; simp [run] at q
  | succ n ih =>
    intro f args h a q
    rw [run] at q ⊢
    cases hp : E.prim f with
    | some p => rw [hp] at q; exact q
    | none =>
      rw [hp] at q
      cases hf : E.fn f with
      | none => rw [hf] at q; cases q
      | some df =>
        rw [hf] at q
        simp only at q ⊢
        cases hx : execW (run E n) n df.body (args ++ List.replicate (df.nt - args.length) .junk) h with
        | none => rw [hx] at q; cases q
        | some x => rw [hx] at q; rw [execW_mono ih (Nat.le_succ n) _ _ _ x hx]; exact q

/-- The evaluator, with as many rounds as it takes. -/
noncomputable def R (E : Env) : CallF := fun f args h => lim fun n => run E n f args h

theorem R_run {E : Env} {f : FuncId} {args : List DV} {h : Heap} {a : DV × Heap} (q : R E f args h = some a) : ∃ n, run E n f args h = some a := lim_spec q

/-- A function's body. -/
noncomputable def bodyL (E : Env) (df : DFun) (args : List DV) (h : Heap) : Option (DV × Heap) :=
  match execL (R E) df.body (args ++ List.replicate (df.nt - args.length) .junk) h with
  | some (.normal, s', h') => (resD df.res s' h').map (·, h')
  | some (.ret, s', h') => (resD df.res s' h').map (·, h')
  | _ => none

theorem R_fn {E : Env} {f : FuncId} {df : DFun} (hp : E.prim f = none) (hf : E.fn f = some df) (args : List DV) (h : Heap) : R E f args h = bodyL E df args h := by
  have up : ∀ n, LeF (run E n) (R E) := fun n f args h a q => lim_some (fun n => run_mono n f args h) q
  apply Option.ext
  intro a
  constructor
  · intro q
    obtain ⟨n, hn⟩ := R_run q
    cases n with
    | zero => simp [run] at hn
    | succ n =>
      simp only [run, hp, hf] at hn
      unfold bodyL
      cases hx : execW (run E n) n df.body (args ++ List.replicate (df.nt - args.length) .junk) h with
      | none => rw [hx] at hn; cases hn
      | some x => rw [hx] at hn; rw [execW_L (up n) _ _ _ x hx]; exact hn
  · intro q
    unfold bodyL at q
    cases hx : execL (R E) df.body (args ++ List.replicate (df.nt - args.length) .junk) h with
    | none => rw [hx] at q; cases q
    | some x =>
      rw [hx] at q
      obtain ⟨n, hn⟩ := execL_W (H := run E) (fun n => run_mono n) (fun f args h a q => R_run q) _ _ _ x hx
      exact up (n + 1) f args h a (by simp only [run, hp, hf, hn]; exact q)

theorem R_prim {E : Env} {f : FuncId} {p : List DV → Heap → Option (DV × Heap)} (hp : E.prim f = some p) (args : List DV) (h : Heap) : R E f args h = p args h := by
  apply Option.ext
  intro a
  constructor
  · intro q
    obtain ⟨n, hn⟩ := R_run q
    cases n with
    | zero => simp [run] at hn
    | succ n => simpa only [run, hp] using hn
  · intro q
    exact lim_some (n := 1) (fun n => run_mono n f args h) (by simp only [run, hp]; exact q)

theorem R_OK {P : Program} {E : Env} (hE : EnvOK P E) : CallOK P (R E) := fun f args h r h' C w vs q H A => by
  obtain ⟨n, hn⟩ := R_run q
  exact run_OK hE n f args h r h' C w vs hn H A

#print axioms R_OK

end Go.Proofs.Ytdlonbcefhimaaa.XD
