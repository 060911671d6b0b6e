/- What is proved: calls of the evaluator, on the same memory or on what the arguments hold. No condition. -/
import Derived.Test.YtdlonbcefhimaaaXD13
namespace Go.Proofs.Ytdlonbcefhimaaa.XD
open Go Go.RowKit
set_option linter.all false

/-- Arguments that stand for the machine's. -/
def ArgsVR (C : Ctx) (args : List DV) (vs : Array Value) : Prop := vs.size = args.length ∧ ∀ (i : Nat) d, args[i]? = some d → ∃ v, vs[i]? = some v ∧ VR C d v

/-- What a call comes to. -/
def Out (P : Program) (f : FuncId) (vs : Array Value) (C : Ctx) (w : World) (r : DV) (h' : Heap) : Prop :=
  (callFunc f vs).run P w = .ok (.enter f vs) w ∧ Calls P f vs w fun e w' => ∃ v C', e = .returned v ∧ WRel C' w' h' ∧ Step C w C' w' ∧ VR C' r v

def CallOK (P : Program) (F : CallF) : Prop := ∀ f args h r h' C w vs, F f args h = some (r, h') → WRel C w h → ArgsVR C args vs → Out P f vs C w r h'

theorem oks_mem {p q : Nat → Bool} {ds : List DV} (h : DV.oks p q ds = true) : ∀ d ∈ ds, DV.ok p q d = true := fun d hd => by
  obtain ⟨i, hi, rfl⟩ := List.getElem_of_mem hd
  exact oks_get h i _ (List.getElem?_eq_getElem hi)

/-- What has no names is what it holds, wherever its frozen cells are. -/
theorem snap_free {C C' : Ctx} (hF : ∀ t b o v, C.F t b o = some v → C'.F t b o = some v) {h : Heap} {t N : Nat} : ∀ (k : Nat) (d d' : DV) (v : Value), DV.ok (fun _ => true) (fun _ => false) d = true → snap h t N k d = some d' → VR C d v → VR C' d' v := by
  have mv : ∀ (d : DV) (v : Value), DV.ok (fun _ => true) (fun _ => false) d = true → VR C d v → VR C' d.loose v := fun d v hk hv =>
    (hv.move (C' := C') (p := fun _ => true) (q := fun _ => false) (fun t b o v _ q => hF _ b o v q) (fun n _ hq => by cases hq) hk).loose
  intro k
  induction k with
  | zero =>
    intro d d' v hk q hv
    simp only [snap] at q
    split at q
    · injection q with q; subst q; exact mv d v hk hv
    · cases q
  | succ k ih =>
    intro d d' v hk q hv
    have low : ∀ (d d' : DV), DV.ok (fun _ => true) (fun _ => false) d = true → VR C d v → (if lowN N d = true then some d.loose else none) = some d' → VR C' d' v := fun d d' hk hv q => by
      split at q
      · injection q with q; subst q; exact mv d v hk hv
      · cases q
    have list : ∀ (cs ds : List DV) (vs : Array Value), DV.oks (fun _ => true) (fun _ => false) cs = true → vs.size = cs.length → (∀ (i : Nat) c v, cs[i]? = some c → vs[i]? = some v → VR C c v) → cs.mapM (snap h t N k) = some ds → vs.size = ds.length ∧ ∀ (i : Nat) d v, ds[i]? = some d → vs[i]? = some v → VR C' d v := fun cs ds vs hk hl hc q => by
      obtain ⟨h1, h2⟩ := mapM_opt q
      refine ⟨by rw [h1]; exact hl, fun i d v hd hv => ?_⟩
      obtain ⟨x, hx, hs⟩ := h2 i d hd
      exact ih x d v (oks_get hk i x hx) hs (hc i x v hx hv)
    cases d with
    | nsl n i len => simp [DV.ok] at hk
    | ptr n i off stamp => simp [DV.ok] at hk
    | agg cs =>
      simp only [snap] at q
      obtain ⟨ds, q1, q2⟩ := map_some q
      subst q2
      simp only [DV.ok] at hk
      cases hv with
      | agg _ vs hl h1 hh =>
        obtain ⟨l1, l2⟩ := list cs ds vs hk hl hh q1
        refine .agg ds vs l1 (fun c hc => ?_) l2
        obtain ⟨i, hi, rfl⟩ := List.getElem_of_mem hc
        have hiv : i < vs.size := by omega
        have hic : i < cs.length := by omega
        exact (l2 i _ _ (List.getElem?_eq_getElem hi) (Array.getElem?_eq_getElem hiv)).oneD ((hh i _ _ (List.getElem?_eq_getElem hic) (Array.getElem?_eq_getElem hiv)).one (h1 _ (List.getElem_mem hic)))
    | tup cs =>
      simp only [snap] at q
      obtain ⟨ds, q1, q2⟩ := map_some q
      subst q2
      simp only [DV.ok] at hk
      cases hv with
      | tup _ vs hl hh =>
        obtain ⟨l1, l2⟩ := list cs ds vs hk hl hh q1
        exact .tup ds vs l1 l2
    | func f cs =>
      simp only [snap] at q
      obtain ⟨ds, q1, q2⟩ := map_some q
      subst q2
      simp only [DV.ok] at hk
      cases hv with
      | func _ _ vs hl hh =>
        obtain ⟨l1, l2⟩ := list cs ds vs hk hl hh q1
        exact .func f ds vs l1 l2
    | iface ty d0 =>
      simp only [snap] at q
      obtain ⟨d1, q1, q2⟩ := map_some q
      subst q2
      simp only [DV.ok] at hk
      cases hv with
      | iface _ _ v0 hh => exact .iface _ _ _ (ih _ _ _ hk q1 hh)
    | junk => cases hv
    | bool b => exact low _ _ hk hv q
    | int kk n => exact low _ _ hk hv q
    | str s => exact low _ _ hk hv q
    | ro t' es => exact low _ _ hk hv q
    | rp t' cs off => exact low _ _ hk hv q
    | niface => exact low _ _ hk hv q
    | map n => exact low _ _ hk hv q
    | nilp => exact low _ _ hk hv q

theorem Step.grows {C C' : Ctx} {w w' : World} (S : Step C w C' w') (h : ∀ k, ¬ C.owns k) : w.grownBy w' none := ⟨S.os, S.tape, S.output, S.size, fun k hk _ => S.block k hk (h k)⟩

section
variable {P : Program} {C : Ctx} {w : World} {h : Heap}

/-- A context in which more stands still. -/
def Ctx.withF (C : Ctx) (F : Bool → Nat → Nat → Option Value) : Ctx := { C with F := F }

theorem WRel.after (H : WRel C w h) {w1 : World} (hg : w.grownBy w1 none) {F : Bool → Nat → Nat → Option Value} (hF : ∀ t b o v, C.F t b o = some v → F t b o = some v) (hc : ∀ t b o v, F t b o = some v → w1.cell? ⟨b, o, none⟩ = some v)
    (hn : ∀ t b o v, F t b o = some v → C.F t b o = some v ∨ w.heap.size ≤ b) : WRel (C.withF F) w1 h ∧ C.le (C.withF F) := by
  have hle : C.le (C.withF F) := ⟨hF, Nat.le_refl _, fun _ _ => .inl rfl⟩
  have W := H.grown hg
  refine ⟨?_, hle⟩
  constructor
  · exact hc
  · exact H.nx
  · intro n v e st L m q
    obtain ⟨es, xs, a1, a2, a3, a4, a5, a6, a7⟩ := W.arr n v e st L m q
    refine ⟨es, xs, a1, a2, a3, a4, a5, a6, fun i j x c p q => ?_⟩
    obtain ⟨u, hu, hv⟩ := a7 i j x c p q
    exact ⟨u, hu, hv.mono hle⟩
  · exact W.mp
  · exact H.named
  · exact H.namedM
  · exact H.apart
  · exact H.apartM
  · intro n v e st L m g q b t o
    show F t g o = none
    cases hF' : F t g o with
    | none => rfl
    | some u =>
      rcases hn t g o u hF' with r | r
      · rw [H.unf n v e st L m g q b t o] at r; cases r
      · obtain ⟨_, _, _, _, _, a4, _⟩ := H.arr n v e st L m q
        have := (a4.lt g b).2
        omega

/-- Behind a call that began without names: the caller's memory is as it was. -/
theorem back_pure (H : WRel C w h) {C0 C1 : Ctx} {w1 : World} {h1 : Heap} {r r' : DV} {v : Value} (h00 : ∀ n, C0.μ n = none) (hF0 : ∀ t b o v, C.F t b o = some v → C0.F t b o = some v) (hF0' : C0.F false = C.F false)
    (W1 : WRel C1 w1 h1) (S : Step C0 w C1 w1) (hv : VR C1 r v) (q : snap h1 0 0 6 r = some r') (hB : C0.F true = C.F true ∨ noB r' = true) : ∃ Cf, WRel Cf w1 h ∧ Step C w Cf w1 ∧ VR Cf r' v := by
  have hno : ∀ k, ¬ C0.owns k := fun k hk => by
    rcases hk with ⟨n, v, e, st, L, m, q, _⟩ | ⟨n, q⟩
    · rw [h00 n] at q; cases q
    · rw [h00 n] at q; cases q
  have hg := S.grows hno
  have V2 := snap_VR W1 (t := 0) (N := 0) (by decide) 6 r r' v hv q
  have W2 := W1.drop (N := 0) false (fun n e st es m hn => by omega)
  let F : Bool → Nat → Nat → Option Value := fun t b o => if t = true then C.F true b o else (C1.drop w1 0 false).F false b o
  have hFle : ∀ t b o v, C.F t b o = some v → F t b o = some v := fun t b o v q => by
    cases t with
    | true => exact q
    | false => exact Ctx.drop_F W1 false false b o v (S.le.F false b o v (hF0 false b o v q))
  have hFc : ∀ t b o v, F t b o = some v → w1.cell? ⟨b, o, none⟩ = some v := fun t b o v q => by
    cases t with
    | true => exact W1.F true b o v (by rw [S.F1]; exact hF0 true b o v q)
    | false => exact W2.F false b o v q
  have hFn : ∀ t b o v, F t b o = some v → C.F t b o = some v ∨ w.heap.size ≤ b := fun t b o v q => by
    cases t with
    | true => exact .inl q
    | false =>
      have q' : (C1.drop w1 0 false).F false b o = some v := q
      simp only [Ctx.drop] at q'
      split at q'
      · rename_i hc
        obtain ⟨_, n, v', e, st, L, m, _, k1, k2⟩ := hc
        rcases S.own b (.inl ⟨n, v', e, st, L, m, k1, k2⟩) with z | z
        · exact absurd z (hno b)
        · exact .inr z
      · rcases S.Fnew false b o v q' with z | z | z
        · rw [hF0'] at z; exact .inl z
        · exact .inr z
        · exact absurd z (hno b)
  obtain ⟨Wf, hle⟩ := H.after hg hFle hFc hFn
  refine ⟨C.withF F, Wf, ⟨hle, rfl, S.os, S.tape, S.output, S.size, fun k hk _ => S.block k hk (hno k), fun k hk => .inl hk, fun t b o v q => (hFn t b o v q).imp id .inl⟩, ?_⟩
  have hnx : (C1.drop w1 0 false).nx = 0 := by simp [Ctx.drop]
  rcases hB with hB | hB
  · refine V2.move (p := fun _ => true) (q := fun _ => true) (fun t b o v _ q => ?_) (fun n hn _ => by rw [show tg 0 = false from rfl, hnx] at hn; omega) ?_
    · show F (tg t) b o = some v
      cases ht : tg t with
      | true =>
        rw [ht] at q
        show C.F true b o = some v
        have : (C1.drop w1 0 (tg 0)).F true b o = C1.F true b o := by simp [Ctx.drop, tg]
        rw [this, S.F1, hB] at q
        exact q
      | false => rw [ht] at q; exact q
    · exact ok_true r'
  · refine V2.move (p := fun t => t != 1) (q := fun _ => true) (fun t b o v hp q => ?_) (fun n hn _ => by rw [show tg 0 = false from rfl, hnx] at hn; omega) hB
    have ht : tg t = false := by simpa [tg] using hp
    rw [ht] at q ⊢
    exact q

end

end Go.Proofs.Ytdlonbcefhimaaa.XD
