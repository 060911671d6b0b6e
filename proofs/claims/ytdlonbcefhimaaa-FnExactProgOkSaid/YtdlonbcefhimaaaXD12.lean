/- What is proved: values handed to a call, or back from it, as what they hold. No condition. -/
import Derived.Test.YtdlonbcefhimaaaXD11
namespace Go.Proofs.Ytdlonbcefhimaaa.XD
open Go Go.RowKit
set_option linter.all false

mutual
/-- Are all tags and all names inside as they should be? -/
def DV.ok (p q : Nat → Bool) : DV → Bool
  | .agg cs => DV.oks p q cs
  | .tup cs => DV.oks p q cs
  | .ro t es => p t && DV.okss p q es
  | .nsl n _ _ => q n
  | .ptr n _ _ _ => q n
  | .rp t cs _ => p t && DV.oks p q cs
  | .func _ cs => DV.oks p q cs
  | .iface _ d => DV.ok p q d
  | .map n => q n
  | _ => true
def DV.oks (p q : Nat → Bool) : List DV → Bool
  | [] => true
  | d :: ds => DV.ok p q d && DV.oks p q ds
def DV.okss (p q : Nat → Bool) : List (List DV) → Bool
  | [] => true
  | d :: ds => DV.oks p q d && DV.okss p q ds
end

theorem oks_get {p q : Nat → Bool} : ∀ {ds : List DV}, DV.oks p q ds = true → ∀ (i : Nat) d, ds[i]? = some d → DV.ok p q d = true
  | [], _, i, d, h => by simp at h
  | e :: ds, hk, i, d, h => by
    simp only [DV.oks, Bool.and_eq_true] at hk
    cases i with
    | zero => simp at h; subst h; exact hk.1
    | succ i => simp at h; exact oks_get hk.2 i d h

theorem okss_get {p q : Nat → Bool} : ∀ {ds : List (List DV)}, DV.okss p q ds = true → ∀ (i : Nat) d, ds[i]? = some d → DV.oks p q d = true
  | [], _, i, d, h => by simp at h
  | e :: ds, hk, i, d, h => by
    simp only [DV.okss, Bool.and_eq_true] at hk
    cases i with
    | zero => simp at h; subst h; exact hk.1
    | succ i => simp at h; exact okss_get hk.2 i d h

mutual
theorem ok_true : ∀ d : DV, DV.ok (fun _ => true) (fun _ => true) d = true
  | .agg cs => by simp only [DV.ok]; exact oks_true cs
  | .tup cs => by simp only [DV.ok]; exact oks_true cs
  | .ro _ es => by simp only [DV.ok, Bool.true_and]; exact okss_true es
  | .rp _ cs _ => by simp only [DV.ok, Bool.true_and]; exact oks_true cs
  | .func _ cs => by simp only [DV.ok]; exact oks_true cs
  | .iface _ d => by simp only [DV.ok]; exact ok_true d
  | .nsl .. | .ptr .. | .map _ | .bool _ | .int .. | .str _ | .niface | .nilp | .junk => rfl
theorem oks_true : ∀ ds : List DV, DV.oks (fun _ => true) (fun _ => true) ds = true
  | [] => rfl
  | d :: ds => by simp only [DV.oks, ok_true d, oks_true ds, Bool.and_self]
theorem okss_true : ∀ ds : List (List DV), DV.okss (fun _ => true) (fun _ => true) ds = true
  | [] => rfl
  | d :: ds => by simp only [DV.okss, oks_true d, okss_true ds, Bool.and_self]
end

/-- Names below N alone. -/
def lowN (N : Nat) : DV → Bool := DV.ok (fun _ => true) (fun n => decide (n < N))
/-- Nothing lent. -/
def noB : DV → Bool := DV.ok (fun t => t != 1) (fun _ => true)

/-- A value stands in another context, too, if its frozen cells do, and its names lie as they did. -/
theorem VR.move {C C' : Ctx} {p q : Nat → Bool} (hF : ∀ t b o v, p t = true → C.F (tg t) b o = some v → C'.F (tg t) b o = some v) (hn : ∀ n, n < C.nx → q n = true → n < C'.nx ∧ C'.μ n = C.μ n)
    {d : DV} {v : Value} (hv : VR C d v) (hk : DV.ok p q d = true) : VR C' d v := by
  induction hv with
  | bool b => exact .bool b
  | int k n => exact .int k n
  | str s => exact .str s
  | agg cs vs hl h1 _ ih => simp only [DV.ok] at hk; exact .agg cs vs hl h1 (fun i c v r r' => ih i c v r r' (oks_get hk i c r))
  | tup cs vs hl _ ih => simp only [DV.ok] at hk; exact .tup cs vs hl (fun i c v r r' => ih i c v r r' (oks_get hk i c r))
  | roE t a cap h2 => exact .roE t a cap h2
  | ro t st es b off cap vals hl h1 hc h2 hF' _ ih =>
    simp only [DV.ok, Bool.and_eq_true] at hk
    exact .ro t st es b off cap vals hl h1 hc h2 (fun i j e c r r' => hF t _ _ _ hk.1 (hF' i j e c r r')) (fun i j e c r r' => ih i j e c r r' (oks_get (okss_get hk.2 i e r) j c r'))
  | nsl n i len u hnx hu hh =>
    simp only [DV.ok] at hk
    obtain ⟨h1, h2⟩ := hn n hnx hk
    exact .nsl n i len u h1 hu (fun v e st L min hm => hh v e st L min (h2 ▸ hm))
  | ptr n i off stamp a hnx hh =>
    simp only [DV.ok] at hk
    obtain ⟨h1, h2⟩ := hn n hnx hk
    exact .ptr n i off stamp a h1 (fun v e st L min hm => hh v e st L min (h2 ▸ hm))
  | rp t cs off b o vals h1 hF' _ ih =>
    simp only [DV.ok, Bool.and_eq_true] at hk
    exact .rp t cs off b o vals h1 (fun j c r => hF t _ _ _ hk.1 (hF' j c r)) (fun j c r => ih j c r (oks_get hk.2 j c r))
  | func f caps vs hl _ ih => simp only [DV.ok] at hk; exact .func f caps vs hl (fun i c v r r' => ih i c v r r' (oks_get hk i c r))
  | niface => exact .niface
  | iface t d v _ ih => simp only [DV.ok] at hk; exact .iface t d v (ih hk)
  | map n r hnx hh =>
    simp only [DV.ok] at hk
    obtain ⟨h1, h2⟩ := hn n hnx hk
    exact .map n r h1 (fun r' hm => hh r' (h2 ▸ hm))
  | nilp => exact .nilp

theorem loose_ne {t : Nat} : (if t = 2 then 0 else t) = 2 → False := fun h => by
  by_cases ht : t = 2
  · rw [if_pos ht] at h; cases h
  · rw [if_neg ht] at h; exact ht h

/-- A frozen slice, its capacity no longer told. -/
def DV.loose : DV → DV
  | .ro t es => .ro (if t = 2 then 0 else t) es
  | d => d

theorem VR.loose {C : Ctx} {d : DV} {v : Value} (hv : VR C d v) : VR C d.loose v := by
  cases hv with
  | roE t a cap h2 => exact .roE _ a cap (fun h => (loose_ne h).elim)
  | ro t st es b off cap vals hl h1 hc h2 hF hh =>
    refine .ro _ st es b off cap vals hl h1 hc (fun h => (loose_ne h).elim) (fun i j e c p p' => ?_) hh
    have : tg (if t = 2 then 0 else t) = tg t := by
      split
      · rename_i h; rw [h]; rfl
      · rfl
    rw [this]
    exact hF i j e c p p'
  | bool b => exact .bool b
  | int k n => exact .int k n
  | str s => exact .str s
  | agg cs vs a b c => exact .agg cs vs a b c
  | tup cs vs a b => exact .tup cs vs a b
  | nsl n i len _ a b c => exact .nsl n i len _ a b c
  | ptr n i off stamp a b c => exact .ptr n i off stamp _ b c
  | rp t cs off b o vals h1 h2 h3 => exact .rp t cs off b o vals h1 h2 h3
  | func f caps vs a b => exact .func f caps vs a b
  | niface => exact .niface
  | iface t d v a => exact .iface t d v a
  | map n r a b => exact .map n r a b
  | nilp => exact .nilp

/-- Names from N on turned into what they hold. -/
def snap (h : Heap) (t N : Nat) : Nat → DV → Option DV
  | 0, d => if lowN N d then some d.loose else none
  | k + 1, .nsl n i len => if n < N then some (.nsl n i len) else match h[n]? with
    | some (.arr _ st es m) => if m ≤ i + len ∧ i + len ≤ es.length then (((es.drop i).take len).mapM (fun (e : List DV) => e.mapM (snap h t N k))).map (.ro t) else none
    | _ => none
  | k + 1, .ptr n i off stamp => if n < N then some (.ptr n i off stamp) else match elemAt h n i stamp with
    | some (_, cs) => (cs.mapM (snap h t N k)).map (fun cs => .rp t cs off)
    | none => none
  | k + 1, .agg cs => (cs.mapM (snap h t N k)).map .agg
  | k + 1, .tup cs => (cs.mapM (snap h t N k)).map .tup
  | k + 1, .func f cs => (cs.mapM (snap h t N k)).map (.func f)
  | k + 1, .iface ty d => (snap h t N k d).map (.iface ty)
  | _ + 1, d => if lowN N d then some d.loose else none

theorem mapM_opt {α β : Type} {f : α → Option β} : ∀ {l : List α} {r : List β}, l.mapM f = some r → r.length = l.length ∧ ∀ (i : Nat) y, r[i]? = some y → ∃ x, l[i]? = some x ∧ f x = some y
  | [], r, h => by simp at h; subst h; exact ⟨rfl, fun i y q => by simp at q⟩
  | a :: l, r, h => by
    rw [List.mapM_cons] at h
    simp only [bind, pure] at h
    cases hfa : f a with
    | none => rw [hfa] at h; cases h
    | some b =>
      rw [hfa] at h
      simp only [Option.bind_some] at h
      cases hl : l.mapM f with
      | none => rw [hl] at h; cases h
      | some bs =>
        rw [hl] at h
        simp only [Option.bind_some, Option.some.injEq] at h
        subst h
        obtain ⟨h1, h2⟩ := mapM_opt hl
        refine ⟨by simp [h1], fun i y q => ?_⟩
        cases i with
        | zero => simp at q; subst q; exact ⟨a, rfl, hfa⟩
        | succ i => simp at q; exact h2 i y q

/-- Is this block one of a name from N on? -/
def Ctx.ownsGe (C : Ctx) (N g : Nat) : Prop := ∃ n v e st L m, N ≤ n ∧ C.μ n = some (.row v e st L m) ∧ v.ownBlock = some g

open Classical in
/-- The names from N on are gone, their cells stand still. -/
noncomputable def Ctx.drop (C : Ctx) (w : World) (N : Nat) (t : Bool) : Ctx :=
  { F := fun t' b o => if t' = t ∧ C.ownsGe N b then w.cell? ⟨b, o, none⟩ else C.F t' b o, μ := fun n => if n < N then C.μ n else none, nx := min N C.nx }

section
variable {C : Ctx} {w : World} {h : Heap} {N t : Nat}

theorem WRel.noF (H : WRel C w h) {g : Nat} (hg : C.ownsGe N g) (t : Bool) (o : Nat) : C.F t g o = none := by
  obtain ⟨n, v, e, st, L, m, _, h1, h2⟩ := hg
  exact H.unf n v e st L m g h1 h2 t o

theorem Ctx.drop_F (H : WRel C w h) (t : Bool) : ∀ t' b o v, C.F t' b o = some v → (C.drop w N t).F t' b o = some v := fun t' b o v q => by
  simp only [Ctx.drop]
  split
  · rename_i hc
    rw [H.noF hc.2] at q
    cases q
  · exact q

theorem low_move (H : WRel C w h) (tb : Bool) {d : DV} {v : Value} (hv : VR C d v) (hk : lowN N d = true) : VR (C.drop w N tb) d v :=
  hv.move (p := fun _ => true) (q := fun n => decide (n < N)) (fun t b o v _ q => Ctx.drop_F H tb _ b o v q) (fun n hn hq => by
    simp at hq
    exact ⟨by simp only [Ctx.drop]; omega, by simp only [Ctx.drop]; rw [if_pos hq]⟩) hk

theorem VR.oneD {C : Ctx} {d : DV} {v : Value} (h : VR C d v) : v.oneCell' = true → d.one = true := by
  cases h <;> simp [DV.one, Value.oneCell']

theorem snap_VR (H : WRel C w h) (ht : t ≠ 2) : ∀ (k : Nat) (d d' : DV) (v : Value), VR C d v → snap h t N k d = some d' → VR (C.drop w N (tg t)) d' v := by
  intro k
  induction k with
  | zero =>
    intro d d' v hv q
    simp only [snap] at q
    split at q
    · injection q with q; subst q; exact (low_move H _ hv (by assumption)).loose
    · cases q
  | succ k ih =>
    have list : ∀ (cs ds : List DV) (vs : Nat → Option Value), (∀ (i : Nat) c, cs[i]? = some c → ∃ v, vs i = some v ∧ VR C c v) → cs.mapM (snap h t N k) = some ds → ds.length = cs.length ∧ ∀ (i : Nat) d, ds[i]? = some d → ∃ v, vs i = some v ∧ VR (C.drop w N (tg t)) d v := fun cs ds vs hc q => by
      obtain ⟨h1, h2⟩ := mapM_opt q
      refine ⟨h1, fun i d hd => ?_⟩
      obtain ⟨x, hx, hs⟩ := h2 i d hd
      obtain ⟨v, hv, hV⟩ := hc i x hx
      exact ⟨v, hv, ih x d v hV hs⟩
    intro d d' v hv q
    have low : ∀ (d d' : DV), VR C d v → (if lowN N d = true then some d.loose else none) = some d' → VR (C.drop w N (tg t)) d' v := fun d d' hv q => by
      split at q
      · injection q with q; subst q; exact (low_move H _ hv (by assumption)).loose
      · cases q
    cases d with
    | bool b => exact low _ _ hv q
    | junk => cases hv
    | int kk n => exact low _ _ hv q
    | str s => exact low _ _ hv q
    | ro t' es => exact low _ _ hv q
    | rp t' cs off => exact low _ _ hv q
    | niface => exact low _ _ hv q
    | map n => exact low _ _ hv q
    | nilp => exact low _ _ hv q
    | agg cs =>
      simp only [snap] at q
      obtain ⟨ds, q1, q2⟩ := map_some q
      subst q2
      obtain ⟨vs, rfl, hl, h1, hvs⟩ := hv.agg_inv
      obtain ⟨l1, l2⟩ := list cs ds (fun i => vs[i]?) hvs q1
      refine .agg ds vs (by rw [l1]; exact hl) (fun c hc => ?_) (fun i c v p p' => ?_)
      · obtain ⟨i, hi, rfl⟩ := List.getElem_of_mem hc
        obtain ⟨u, hu, hV⟩ := l2 i _ (List.getElem?_eq_getElem hi)
        have hi' : i < cs.length := by omega
        obtain ⟨u', hu', hV'⟩ := hvs i _ (List.getElem?_eq_getElem hi')
        rw [hu] at hu'
        injection hu' with hu'
        subst hu'
        exact hV.oneD (hV'.one (h1 _ (List.getElem_mem hi')))
      · obtain ⟨u, hu, hV⟩ := l2 i c p
        rw [hu] at p'
        injection p' with p'
        subst p'
        exact hV
    | tup cs =>
      simp only [snap] at q
      obtain ⟨ds, q1, q2⟩ := map_some q
      subst q2
      cases hv with
      | tup _ vs hl hh =>
        obtain ⟨l1, l2⟩ := list cs ds (fun i => vs[i]?) (fun i c p => ⟨vs[i]'(by have := (List.getElem?_eq_some_iff.1 p).1; omega), Array.getElem?_eq_getElem _, hh i c _ p (Array.getElem?_eq_getElem _)⟩) q1
        refine .tup ds vs (by rw [l1]; exact hl) (fun i c v p p' => ?_)
        obtain ⟨u, hu, hV⟩ := l2 i c p
        rw [hu] at p'
        injection p' with p'
        subst p'
        exact hV
    | func f cs =>
      simp only [snap] at q
      obtain ⟨ds, q1, q2⟩ := map_some q
      subst q2
      cases hv with
      | func _ _ vs hl hh =>
        obtain ⟨l1, l2⟩ := list cs ds (fun i => vs[i]?) (fun i c p => ⟨vs[i]'(by have := (List.getElem?_eq_some_iff.1 p).1; omega), Array.getElem?_eq_getElem _, hh i c _ p (Array.getElem?_eq_getElem _)⟩) q1
        refine .func f ds vs (by rw [l1]; exact hl) (fun i c v p p' => ?_)
        obtain ⟨u, hu, hV⟩ := l2 i c p
        rw [hu] at p'
        injection p' with p'
        subst p'
        exact hV
    | iface ty d0 =>
      simp only [snap] at q
      obtain ⟨d1, q1, q2⟩ := map_some q
      subst q2
      cases hv with
      | iface _ _ v0 hh => exact .iface _ _ _ (ih _ _ _ hh q1)
    | ptr n i off stamp =>
      simp only [snap] at q
      split at q
      · rename_i hn
        injection q with q
        subst q
        exact low_move H _ hv (by simp [lowN, DV.ok, hn])
      · rename_i hn
        split at q
        · rename_i st cs he
          obtain ⟨ds, q1, q2⟩ := map_some q
          subst q2
          unfold elemAt at he
          split at he
          · rename_i e' st' es m hh
            split at he
            · rename_i hms
              obtain ⟨cs', hi, hc⟩ := map_some he
              injection hc with z1 z2
              subst z1; subst z2
              obtain ⟨vv, hm⟩ := H.named n e' st' es m hh
              cases hv with
              | ptr _ _ _ _ ad hnx hp =>
                obtain ⟨_, h2⟩ := hp _ _ _ _ _ hm
                obtain ⟨_, g, cap, hvv, had⟩ := h2 hms
                obtain ⟨b1, b2, b3⟩ := H.elem hh hi hm hvv
                have hown : C.ownsGe N g := ⟨n, vv, e', st', _, m, by omega, hm, by rw [hvv]; rfl⟩
                obtain ⟨l1, l2⟩ := list cs' ds (fun j => w.cell? ⟨g, i * st' + j, none⟩) b3 q1
                have cell : ∀ (j : Nat) c, ds[j]? = some c → ∃ u, w.cell? ⟨g, i * st' + j, none⟩ = some u ∧ VR (C.drop w N (tg t)) c u := l2
                rw [had]
                refine .rp t ds off g (i * st') (fun j => (w.cell? ⟨g, i * st' + j, none⟩).getD undef) (fun c hc => ?_) (fun j c p => ?_) (fun j c p => ?_)
                · obtain ⟨j, hj, rfl⟩ := List.getElem_of_mem hc
                  obtain ⟨u, hu, hV⟩ := cell j _ (List.getElem?_eq_getElem hj)
                  have hj' : j < cs'.length := by omega
                  obtain ⟨u', hu', hV'⟩ := b3 j _ (List.getElem?_eq_getElem hj')
                  rw [hu] at hu'
                  injection hu' with hu'
                  subst hu'
                  exact hV.oneD (hV'.one (b2 _ (List.getElem_mem hj')))
                · obtain ⟨u, hu, _⟩ := cell j c p
                  simp only [Ctx.drop]
                  rw [if_pos ⟨rfl, hown⟩, hu]
                  rfl
                · obtain ⟨u, hu, hV⟩ := cell j c p
                  rw [hu]
                  exact hV
            · cases he
          · cases he
        · cases q
    | nsl n i len =>
      simp only [snap] at q
      split at q
      · rename_i hn
        injection q with q
        subst q
        exact low_move H _ hv (by simp [lowN, DV.ok, hn])
      · rename_i hn
        split at q
        · rename_i e' st es m hh
          split at q
          · rename_i hc
            obtain ⟨ds, q1, q2⟩ := map_some q
            subst q2
            obtain ⟨vv, hm, hnx, hp⟩ := nsl_part H hv hh hc.1
            obtain ⟨m1, m2⟩ := mapM_opt q1
            have hlen : ((es.drop i).take len).length = len := by simp; omega
            have hdl : ds.length = len := by omega
            rcases hp.slice with ⟨_, _, hl0, hu0⟩ | ⟨g, L, cap, ad, hvv, hu, z1, z2, z3, z4, z5⟩
            · have : ds = [] := List.eq_nil_of_length_eq_zero (by omega)
              subst this
              rw [hu0]
              exact .roE _ _ _ (fun h => absurd h ht)
            · by_cases hz : len = 0
              · have : ds = [] := List.eq_nil_of_length_eq_zero (by omega)
                subst this
                rw [hu, hz]
                exact .roE _ _ _ (fun h => absurd h ht)
              · have had := z4.resolve_left (by omega)
                subst had
                have hown : C.ownsGe N g := ⟨n, vv, e', st, _, m, by omega, hm, by rw [hvv]; rfl⟩
                have row : ∀ (a : Nat) y, ds[a]? = some y → y.length = st ∧ (∀ c ∈ y, c.one = true) ∧ ∀ (j : Nat) c, y[j]? = some c → ∃ u, w.cell? ⟨g, (i + a) * st + j, none⟩ = some u ∧ VR (C.drop w N (tg t)) c u := fun a y hy => by
                  obtain ⟨x, hx, hs⟩ := m2 a y hy
                  rw [List.getElem?_take] at hx
                  split at hx
                  · rw [List.getElem?_drop] at hx
                    obtain ⟨_, _, a1, a2, _, a4, _⟩ := H.arr _ _ _ _ _ _ hm
                    have hvv' : vv = .slice (some ⟨g, 0, none⟩) es.length cap := by rw [hvv]; rw [hvv] at a4; rw [own_len a4]; rw [hh] at a1; injection a1 with a1; injection a1 with _ _ a1 _; rw [a1]
                    obtain ⟨b1, b2, b3⟩ := H.elem hh hx hm hvv'
                    obtain ⟨l1, l2⟩ := list x y (fun j => w.cell? ⟨g, (i + a) * st + j, none⟩) b3 hs
                    refine ⟨by rw [l1, b1], fun c hc => ?_, l2⟩
                    obtain ⟨j, hj, rfl⟩ := List.getElem_of_mem hc
                    obtain ⟨u, hu, hV⟩ := l2 j _ (List.getElem?_eq_getElem hj)
                    have hj' : j < x.length := by omega
                    obtain ⟨u', hu', hV'⟩ := b3 j _ (List.getElem?_eq_getElem hj')
                    rw [hu] at hu'
                    injection hu' with hu'
                    subst hu'
                    exact hV.oneD (hV'.one (b2 _ (List.getElem_mem hj')))
                  · cases hx
                rw [hu, ← hdl]
                refine .ro t st ds g (i * st) (cap - i) (fun a j => (w.cell? ⟨g, (i + a) * st + j, none⟩).getD undef) (fun y hy => ?_) (fun y hy => ?_) (by omega) (fun h => absurd h ht) (fun a j y c p p' => ?_) (fun a j y c p p' => ?_)
                · obtain ⟨a, ha, rfl⟩ := List.getElem_of_mem hy
                  exact (row a _ (List.getElem?_eq_getElem ha)).1
                · obtain ⟨a, ha, rfl⟩ := List.getElem_of_mem hy
                  exact (row a _ (List.getElem?_eq_getElem ha)).2.1
                · obtain ⟨u, hu', _⟩ := (row a y p).2.2 j c p'
                  simp only [Ctx.drop]
                  rw [if_pos ⟨rfl, hown⟩, show i * st + a * st + j = (i + a) * st + j by rw [Nat.add_mul], hu']
                  rfl
                · obtain ⟨u, hu', hV⟩ := (row a y p).2.2 j c p'
                  rw [hu']
                  exact hV
          · cases q
        · cases q

/-- What is left of memory when the names from N on are gone. -/
theorem WRel.drop (H : WRel C w h) (t : Bool) (hlow : ∀ n e st es m, n < N → h[n]? = some (.arr e st es m) → ∀ x ∈ es, ∀ c ∈ x, lowN N c = true) : WRel (C.drop w N t) w (h.take N) where
  F := fun t' b o v q => by
    simp only [Ctx.drop] at q
    split at q
    · exact q
    · exact H.F t' b o v q
  nx := by simp only [Ctx.drop, List.length_take, H.nx]
  arr := fun n v e st L m q => by
    simp only [Ctx.drop] at q
    split at q
    · rename_i hn
      obtain ⟨es, xs, a1, a2, a3, a4, a5, a6, a7⟩ := H.arr n v e st L m q
      refine ⟨es, xs, by rw [List.getElem?_take, if_pos hn]; exact a1, a2, a3, a4, a5, a6, fun i j x c p p' => ?_⟩
      obtain ⟨u, hu, hV⟩ := a7 i j x c p p'
      exact ⟨u, hu, low_move H t hV (hlow n e st es m hn a1 x (List.mem_of_getElem? p) c (List.mem_of_getElem? p'))⟩
    · cases q
  mp := fun n r q => by
    simp only [Ctx.drop] at q
    split at q
    · rename_i hn
      obtain ⟨kvs, es, cl, a1, a2, a3⟩ := H.mp n r q
      exact ⟨kvs, es, cl, by rw [List.getElem?_take, if_pos hn]; exact a1, a2, a3⟩
    · cases q
  named := fun n e st es m q => by
    rw [List.getElem?_take] at q
    split at q
    · rename_i hn
      obtain ⟨v, hv⟩ := H.named n e st es m q
      exact ⟨v, by simp only [Ctx.drop]; rw [if_pos hn]; exact hv⟩
    · cases q
  namedM := fun n kvs q => by
    rw [List.getElem?_take] at q
    split at q
    · rename_i hn
      obtain ⟨v, hv⟩ := H.namedM n kvs q
      exact ⟨v, by simp only [Ctx.drop]; rw [if_pos hn]; exact hv⟩
    · cases q
  apart := fun n v e st L m n' v' e' st' L' m' g q q' b b' => by
    simp only [Ctx.drop] at q q'
    split at q
    · split at q'
      · exact H.apart n v e st L m n' v' e' st' L' m' g q q' b b'
      · cases q'
    · cases q
  apartM := fun n n' r q q' => by
    simp only [Ctx.drop] at q q'
    split at q
    · split at q'
      · exact H.apartM n n' r q q'
      · cases q'
    · cases q
  unf := fun n v e st L m g q b t' o => by
    simp only [Ctx.drop] at q ⊢
    split at q
    · rename_i hn
      rw [if_neg]
      · exact H.unf n v e st L m g q b t' o
      · rintro ⟨_, n', v', e', st', L', m', hge, q', b'⟩
        have := H.apart n v e st L m n' v' e' st' L' m' g q q' b b'
        omega
    · cases q

end

end Go.Proofs.Ytdlonbcefhimaaa.XD
