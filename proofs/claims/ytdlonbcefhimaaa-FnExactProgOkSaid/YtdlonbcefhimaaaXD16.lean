/- What is proved: operations that do not touch each other may be done in any order. No condition. -/
import Derived.Test.YtdlonbcefhimaaaXD15
namespace Go.Proofs.Ytdlonbcefhimaaa.XD
open Go Go.RowKit
set_option linter.all false

section
variable {P : Program} {s s' : List DV} {h h' : Heap} {F : CallF}

theorem ev_agree {x : DX} (hs : ∀ i ∈ x.slot, s[i]? = s'[i]?) : x.ev s = x.ev s' := by
  cases x with
  | t i => simp only [DX.ev, getS, hs i (by simp [DX.slot])]
  | c d => rfl

theorem evs_agree : ∀ {xs : List DX}, (∀ i ∈ xs.flatMap DX.slot, s[i]? = s'[i]?) → evs s xs = evs s' xs
  | [], _ => rfl
  | x :: xs, hs => by
    have h1 : x.ev s = x.ev s' := ev_agree (fun i hi => hs i (by simp only [List.flatMap_cons, List.mem_append]; exact .inl hi))
    have h2 := evs_agree (xs := xs) (fun i hi => hs i (by simp only [List.flatMap_cons, List.mem_append]; exact .inr hi))
    simp only [evs, h1, h2]

theorem fillD_agree : ∀ {ps : List (Nat × Nat × DX)} {z : List DV}, (∀ i ∈ ps.flatMap (fun p => p.2.2.slot), s[i]? = s'[i]?) → fillD s ps z = fillD s' ps z
  | [], _, _ => rfl
  | (off, sz, x) :: ps, z, hs => by
    have hx : x.ev s = x.ev s' := ev_agree (fun i hi => hs i (by simp [hi]))
    have ih : ∀ z, fillD s ps z = fillD s' ps z := fun z => fillD_agree (fun i hi => hs i (by simp only [List.flatMap_cons, List.mem_append]; exact .inr hi))
    simp only [fillD, hx, ih]

theorem fillE_agree {st : Nat} : ∀ {ps : List (Nat × DX)} {z : List (List DV)}, (∀ i ∈ ps.flatMap (fun p => p.2.slot), s[i]? = s'[i]?) → fillE s st ps z = fillE s' st ps z
  | [], _, _ => rfl
  | (j, x) :: ps, z, hs => by
    have hx : x.ev s = x.ev s' := ev_agree (fun i hi => hs i (by simp [hi]))
    have ih : ∀ z, fillE s st ps z = fillE s' st ps z := fun z => fillE_agree (fun i hi => hs i (by simp only [List.flatMap_cons, List.mem_append]; exact .inr hi))
    simp only [fillE, hx, ih]

theorem bound_agree {x : Option DX} {d t : Nat} (hs : ∀ i ∈ oslot x, s[i]? = s'[i]?) : bound s x d t = bound s' x d t := by
  cases x with
  | none => rfl
  | some x => simp only [bound, ev_agree (x := x) hs]

theorem opD_agree {d : DOp} (hs : ∀ i ∈ d.reads, s[i]? = s'[i]?) : opD s h d = opD s' h d := by
  cases d with
  | mv x => simp only [DOp.reads] at hs; simp only [opD, ev_agree (x := x) hs]
  | box e z x => simp only [DOp.reads] at hs; simp only [opD, ev_agree (x := x) hs]
  | load g z x => simp only [DOp.reads] at hs; simp only [opD, ev_agree (x := x) hs]
  | nilck x => simp only [DOp.reads] at hs; simp only [opD, ev_agree (x := x) hs]
  | eqn g x => simp only [DOp.reads] at hs; simp only [opD, ev_agree (x := x) hs]
  | not x => simp only [DOp.reads] at hs; simp only [opD, ev_agree (x := x) hs]
  | neg x => simp only [DOp.reads] at hs; simp only [opD, ev_agree (x := x) hs]
  | conv k x => simp only [DOp.reads] at hs; simp only [opD, ev_agree (x := x) hs]
  | mkif k x => simp only [DOp.reads] at hs; simp only [opD, ev_agree (x := x) hs]
  | mks e z k x => simp only [DOp.reads] at hs; simp only [opD, ev_agree (x := x) hs]
  | fad k x => simp only [DOp.reads] at hs; simp only [opD, ev_agree (x := x) hs]
  | fld g k z x => simp only [DOp.reads] at hs; simp only [opD, ev_agree (x := x) hs]
  | tas k z g x => simp only [DOp.reads] at hs; simp only [opD, ev_agree (x := x) hs]
  | ext x k => simp only [DOp.reads] at hs; simp only [opD, ev_agree (x := x) hs]
  | len x => simp only [DOp.reads] at hs; simp only [opD, ev_agree (x := x) hs]
  | slen x => simp only [DOp.reads] at hs; simp only [opD, ev_agree (x := x) hs]
  | store z x y => simp only [DOp.reads, List.mem_append] at hs; simp only [opD, ev_agree (x := x) (fun i hi => hs i (.inl hi)), ev_agree (x := y) (fun i hi => hs i (.inr hi))]
  | bin p x y => simp only [DOp.reads, List.mem_append] at hs; simp only [opD, ev_agree (x := x) (fun i hi => hs i (.inl hi)), ev_agree (x := y) (fun i hi => hs i (.inr hi))]
  | beq g x y => simp only [DOp.reads, List.mem_append] at hs; simp only [opD, ev_agree (x := x) (fun i hi => hs i (.inl hi)), ev_agree (x := y) (fun i hi => hs i (.inr hi))]
  | eqs g k x y => simp only [DOp.reads, List.mem_append] at hs; simp only [opD, ev_agree (x := x) (fun i hi => hs i (.inl hi)), ev_agree (x := y) (fun i hi => hs i (.inr hi))]
  | iad k x y => simp only [DOp.reads, List.mem_append] at hs; simp only [opD, ev_agree (x := x) (fun i hi => hs i (.inl hi)), ev_agree (x := y) (fun i hi => hs i (.inr hi))]
  | idx x y => simp only [DOp.reads, List.mem_append] at hs; simp only [opD, ev_agree (x := x) (fun i hi => hs i (.inl hi)), ev_agree (x := y) (fun i hi => hs i (.inr hi))]
  | app e k z x y => simp only [DOp.reads, List.mem_append] at hs; simp only [opD, ev_agree (x := x) (fun i hi => hs i (.inl hi)), ev_agree (x := y) (fun i hi => hs i (.inr hi))]
  | new e z => rfl
  | pick a b c =>
    simp only [DOp.reads, List.mem_append] at hs
    have h1 := ev_agree (x := a) (fun i hi => hs i (.inl hi))
    have h2 : ∀ t : Bool, (if t = true then b else c).ev s = (if t = true then b else c).ev s' := fun t => by
      cases t
      · exact ev_agree (x := c) (fun i hi => hs i (.inr (.inr hi)))
      · exact ev_agree (x := b) (fun i hi => hs i (.inr (.inl hi)))
    simp only [opD, h1, h2]
  | build z ps => simp only [opD, fillD_agree (ps := ps) hs]
  | lits n e z k ps => simp only [opD, fillE_agree (ps := ps) hs]
  | mkfn f xs => simp only [opD, evs_agree (xs := xs) hs]
  | slc st x lo hi => simp only [DOp.reads, List.mem_append] at hs; simp only [opD, ev_agree (x := x) (fun i hi => hs i (.inl hi)), bound_agree (x := lo) (fun i hi => hs i (.inr (.inl hi))), bound_agree (x := hi) (fun i hi => hs i (.inr (.inr hi)))]
  | sstr x lo hi => simp only [DOp.reads, List.mem_append] at hs; simp only [opD, ev_agree (x := x) (fun i hi => hs i (.inl hi)), bound_agree (x := lo) (fun i hi => hs i (.inr (.inl hi))), bound_agree (x := hi) (fun i hi => hs i (.inr (.inr hi)))]

theorem opB_agree {b : DBody} (hs : ∀ i ∈ b.reads, s[i]? = s'[i]?) : opB F s h b = opB F s' h b := by
  cases b with
  | op d => exact opD_agree hs
  | call c args m =>
    simp only [DBody.reads, List.mem_append] at hs
    simp only [opB, evs_agree (xs := args) (fun i hi => hs i (.inr hi))]
    cases c with
    | fn f => rfl
    | val x => simp only [ev_agree (x := x) (fun i hi => hs i (.inl hi))]
    | inv x tbl => simp only [ev_agree (x := x) (fun i hi => hs i (.inl hi))]

/-- What an operation gives, and what it does to memory. -/
def eff (F : CallF) (o : DOper) (s : List DV) (h : Heap) : Option (DV × Heap) :=
  match wantedD s o.guard with
  | none => none
  | some false => some (.tup [], h)
  | some true => opB F s h o.body

theorem stepO_eff {o : DOper} : stepO F o s h = (eff F o s h).map (fun x => (putD s o.dst x.1, x.2)) := by
  unfold stepO eff
  cases hw : wantedD s o.guard with
  | none => rfl
  | some t =>
    cases t with
    | false => rfl
    | true =>
      simp only
      cases hb : opB F s h o.body with
      | none => rfl
      | some x => rfl

theorem eff_agree {o : DOper} (hs : ∀ i ∈ o.reads, s[i]? = s'[i]?) : eff F o s h = eff F o s' h := by
  have hw : wantedD s o.guard = wantedD s' o.guard := by
    cases hg : o.guard with
    | none => rfl
    | some g => simp only [wantedD, getS, hs g.1 (by simp [DOper.reads, hg])]
  have hb : opB F s h o.body = opB F s' h o.body := opB_agree (fun i hi => hs i (by simp only [DOper.reads, List.mem_append]; exact .inr hi))
  simp only [eff, hw, hb]

theorem opD_free {d : DOp} (hf : d.free = true) : ∃ r : Option DV, ∀ h, opD s h d = r.map (fun x => (x, h)) := by
  refine ⟨(opD s [] d).map Prod.fst, fun h => ?_⟩
  cases d <;> simp only [DOp.free] at hf <;> simp only [opD] <;> try cases hf
  all_goals (try simp only [Option.map_map])
  all_goals (try rfl)
  all_goals ((repeat' split) <;> first | rfl | (simp_all; done) | (simp_all; rfl))

theorem eff_free {o : DOper} (hf : o.body.free = true) {r : DV} (q : eff F o s h = some (r, h')) : h' = h ∧ ∀ h2, eff F o s h2 = some (r, h2) := by
  unfold eff at q ⊢
  cases hw : wantedD s o.guard with
  | none => rw [hw] at q; cases q
  | some t =>
    rw [hw] at q
    cases t with
    | false => simp only at q ⊢; injection q with q; injection q with q1 q2; subst q1; exact ⟨q2.symm, fun h2 => rfl⟩
    | true =>
      simp only at q ⊢
      cases hb : o.body with
      | op d =>
        rw [hb] at hf q
        obtain ⟨x, hx⟩ := opD_free (s := s) (d := d) hf
        simp only [opB, hx] at q ⊢
        obtain ⟨z, q1, q2⟩ := map_some q
        injection q2 with q2 q3
        subst q2
        exact ⟨q3.symm, fun h2 => by rw [q1]; rfl⟩
      | call c args m => rw [hb] at hf; cases hf

theorem opD_still {d : DOp} (hf : d.still = true) {r : DV} (q : opD s h d = some (r, h')) : h' = h := by
  have free : d.free = true → h' = h := fun hf => by
    obtain ⟨x, hx⟩ := opD_free (s := s) (d := d) hf
    rw [hx] at q
    obtain ⟨z, q1, q2⟩ := map_some q
    injection q2 with q2 q3
    exact q3.symm
  cases d <;> simp only [DOp.still] at hf
  case load g z p =>
    simp only [opD] at q
    repeat' (split at q)
    all_goals (first | (obtain ⟨z, q1, q2⟩ := map_some q; injection q2 with q2 q3; exact q3.symm) | cases q)
  case slc st x lo hi =>
    simp only [opD] at q
    repeat' (split at q)
    all_goals (first | (injection q with q; injection q with q q'; exact q'.symm) | cases q)
  case iad st x i =>
    simp only [opD] at q
    repeat' (split at q)
    all_goals (first | (obtain ⟨z, q1, q2⟩ := map_some q; injection q2 with q2 q3; exact q3.symm) | (injection q with q; injection q with q q'; exact q'.symm) | cases q)
  all_goals exact free hf

theorem eff_still {o : DOper} (hf : o.body.still = true) {r : DV} (q : eff F o s h = some (r, h')) : h' = h := by
  unfold eff at q
  cases hw : wantedD s o.guard with
  | none => rw [hw] at q; cases q
  | some t =>
    rw [hw] at q
    cases t with
    | false => simp only at q; injection q with q; injection q with q1 q2; exact q2.symm
    | true =>
      simp only at q
      cases hb : o.body with
      | op d => rw [hb] at hf q; exact opD_still hf q
      | call c args m =>
        rw [hb] at hf q
        have hm : m = .pure := by simpa [DBody.still] using hf
        subst hm
        have pure : ∀ (f : FuncId) (as : List DV), callD F f as .pure h = some (r, h') → h' = h := fun f as q => by
          unfold callD at q
          simp only at q
          repeat' (split at q)
          all_goals (first | (injection q with q; injection q with q q'; exact q'.symm) | cases q)
        simp only [opB] at q
        repeat' (split at q)
        all_goals (first | exact pure _ _ q | cases q)

theorem putD_ne {dst : Option Nat} {i : Nat} (h : ∀ j, dst = some j → j ≠ i) (d : DV) : (putD s dst d)[i]? = s[i]? := by
  cases dst with
  | none => rfl
  | some j => simp only [putD]; rw [List.getElem?_set_ne (h j rfl)]

theorem putD_comm {x y : Option Nat} (h : ∀ i, x = some i → y ≠ some i) (d e : DV) : putD (putD s x d) y e = putD (putD s y e) x d := by
  cases x with
  | none => rfl
  | some i =>
    cases y with
    | none => rfl
    | some j =>
      have hij : i ≠ j := fun he => h i rfl (by rw [he])
      simp only [putD]
      rw [List.set_comm _ _ hij]

theorem swapO_spec {a b : DOper} (h : swapO a b = true) : (∀ i, a.dst = some i → i ∉ b.reads) ∧ (∀ i, a.dst = some i → b.dst ≠ some i) ∧ (∀ i, b.dst = some i → i ∉ a.reads) ∧ (a.body.free = true ∨ b.body.free = true ∨ (a.body.still = true ∧ b.body.still = true)) := by
  simp only [swapO, Bool.and_eq_true, Bool.or_eq_true] at h
  obtain ⟨⟨h1, h2⟩, h3⟩ := h
  refine ⟨fun i hi => ?_, fun i hi => ?_, fun i hi => ?_, or_assoc.1 h3⟩
  · rw [hi] at h1; simp at h1; exact h1.1
  · rw [hi] at h1; simp at h1; exact h1.2
  · rw [hi] at h2; simp at h2; exact h2

/-- Two operations, the other way round. -/
theorem step_swap {x y : DOper} (hs : swapO x y = true) {s1 s2 : List DV} {h1 h2 : Heap} (q1 : stepO F x s h = some (s1, h1)) (q2 : stepO F y s1 h1 = some (s2, h2)) :
    ∃ s3 h3, stepO F y s h = some (s3, h3) ∧ stepO F x s3 h3 = some (s2, h2) := by
  obtain ⟨a1, a2, a3, a4⟩ := swapO_spec hs
  rw [stepO_eff] at q1 q2
  obtain ⟨⟨dx, hx⟩, e1, e2⟩ := map_some q1
  injection e2 with e2 e3
  subst e2; subst e3
  obtain ⟨⟨dy, hy⟩, e4, e5⟩ := map_some q2
  injection e5 with e5 e6
  subst e5; subst e6
  have ey : ∀ hh, eff F y (putD s x.dst dx) hh = eff F y s hh := fun hh => eff_agree (fun i hi => putD_ne (fun j hj he => a1 j hj (he ▸ hi)) dx)
  have ex : ∀ hh, eff F x (putD s y.dst dy) hh = eff F x s hh := fun hh => eff_agree (fun i hi => putD_ne (fun j hj he => a3 j hj (he ▸ hi)) dy)
  rw [ey] at e4
  have fin : ∀ h3, eff F y s h = some (dy, h3) → eff F x s h3 = some (dx, hy) → ∃ s3 h3, stepO F y s h = some (s3, h3) ∧ stepO F x s3 h3 = some (putD (putD s x.dst dx) y.dst dy, hy) := fun h3 k1 k2 => by
    refine ⟨putD s y.dst dy, h3, by rw [stepO_eff, k1]; rfl, ?_⟩
    rw [stepO_eff, ex, k2]
    show some (putD (putD s y.dst dy) x.dst dx, hy) = _
    rw [putD_comm a2]
  rcases a4 with a4 | a4 | ⟨a4, a5⟩
  · obtain ⟨k1, k2⟩ := eff_free a4 e1
    subst k1
    exact fin hy e4 (k2 hy)
  · obtain ⟨k1, k2⟩ := eff_free a4 e4
    subst k1
    exact fin h (k2 h) e1
  · have k1 := eff_still a4 e1
    subst k1
    have k2 := eff_still a5 e4
    subst k2
    exact fin _ e4 e1

theorem runOps_append : ∀ {l k : List DOper} {s : List DV} {h : Heap}, runOps F (l ++ k) s h = (runOps F l s h).bind (fun x => runOps F k x.1 x.2)
  | [], k, s, h => rfl
  | o :: l, k, s, h => by
    simp only [List.cons_append, runOps]
    cases stepO F o s h with
    | none => rfl
    | some x => exact runOps_append

/-- An operation that none ahead of it holds back, first. -/
theorem bubble {x : DOper} : ∀ {l k : List DOper} {s : List DV} {h : Heap} {r : List DV × Heap}, (∀ y ∈ l, swapO y x = true) → runOps F (l ++ x :: k) s h = some r → runOps F (x :: (l ++ k)) s h = some r
  | [], k, s, h, r, _, q => q
  | y :: l, k, s, h, r, hs, q => by
    simp only [List.cons_append, runOps] at q
    cases hy : stepO F y s h with
    | none => rw [hy] at q; cases q
    | some z =>
      rw [hy] at q
      obtain ⟨s1, h1⟩ := z
      simp only at q
      have ih := bubble (fun y hy => hs y (by simp [hy])) q
      simp only [runOps] at ih
      cases hx : stepO F x s1 h1 with
      | none => rw [hx] at ih; cases ih
      | some z2 =>
        rw [hx] at ih
        obtain ⟨s2, h2⟩ := z2
        simp only at ih
        obtain ⟨s3, h3, k1, k2⟩ := step_swap (hs y (by simp)) hy hx
        simp only [List.cons_append, runOps, k1, k2]
        exact ih

/-! ### which come ahead -/

theorem fold_bits {l : List Edge} {c : Edge → Bool} {m : Nat → Nat} {k : Nat} : ∀ {s0 : Nat}, (l.foldl (fun s e => if c e = true then s ||| 2 ^ e.on ||| m e.on else s) s0).testBit k = true → s0.testBit k = true ∨ ∃ e ∈ l, c e = true ∧ (e.on = k ∨ (m e.on).testBit k = true) := by
  induction l with
  | nil => intro s0 h; exact .inl h
  | cons e l ih =>
    intro s0 h
    simp only [List.foldl_cons] at h
    rcases ih h with h | ⟨e', he, h⟩
    · split at h
      · rename_i hc
        rw [Nat.testBit_or, Nat.testBit_or] at h
        simp only [Bool.or_eq_true] at h
        rcases h with (h | h) | h
        · exact .inl h
        · rw [Nat.testBit_two_pow] at h
          exact .inr ⟨e, by simp, hc, .inl (by simpa using h)⟩
        · exact .inr ⟨e, by simp, hc, .inr h⟩
      · exact .inl h
    · exact .inr ⟨e', by simp [he], h⟩

theorem masks_spec : ∀ (os : List Oper) (acc : List Nat), (masks os acc).length = acc.length + os.length ∧ (∀ i, i < acc.length → (masks os acc).getD i 0 = acc.getD i 0) ∧
    ∀ (j : Nat) o, os[j]? = some o → ∀ k, ((masks os acc).getD (acc.length + j) 0).testBit k = true → ∃ e ∈ o.after.toList, Region.binds .any e = true ∧ e.on < acc.length + j ∧ (e.on = k ∨ ((masks os acc).getD e.on 0).testBit k = true) := by
  intro os
  induction os with
  | nil => intro acc; exact ⟨by simp [masks], fun i _ => rfl, fun j o h => by simp at h⟩
  | cons o os ih =>
    intro acc
    simp only [masks]
    let m := o.after.toList.foldl (fun s e => if (Region.binds .any e && decide (e.on < acc.length)) = true then s ||| 2 ^ e.on ||| acc.getD e.on 0 else s) 0
    obtain ⟨h1, h2, h3⟩ := ih (acc ++ [m])
    have hlen : (acc ++ [m]).length = acc.length + 1 := by simp
    refine ⟨by rw [h1]; simp; omega, fun i hi => ?_, fun j o' hj k hk => ?_⟩
    · rw [h2 i (by simp; omega)]
      simp [List.getD, List.getElem?_append_left hi]
    · cases j with
      | zero =>
        simp at hj
        subst hj
        have hm : (masks os (acc ++ [m])).getD (acc.length + 0) 0 = m := by
          rw [h2 _ (by simp)]
          simp [List.getD]
        rw [hm] at hk
        rcases fold_bits (l := o.after.toList) (c := fun e => Region.binds .any e && decide (e.on < acc.length)) (m := fun i => acc.getD i 0) hk with h | ⟨e, he, hc, h⟩
        · simp at h
        · simp only [Bool.and_eq_true, decide_eq_true_eq] at hc
          refine ⟨e, he, hc.1, by omega, h.imp id fun h => ?_⟩
          rw [h2 e.on (by simp; omega)]
          simpa [List.getD, List.getElem?_append_left hc.2] using h
      | succ j =>
        simp at hj
        have := h3 j o' hj k (by rw [hlen, show acc.length + 1 + j = acc.length + (j + 1) by omega]; exact hk)
        rw [hlen, show acc.length + 1 + j = acc.length + (j + 1) by omega] at this
        exact this

end

end Go.Proofs.Ytdlonbcefhimaaa.XD
