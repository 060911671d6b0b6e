/- What is proved: a run of the evaluator that succeeds says what the machine's call does. No condition. -/
import Derived.Test.YtdlonbcefhimaaaXD16
namespace Go.Proofs.Ytdlonbcefhimaaa.XD
open Go Go.RowKit
set_option linter.all false

section
variable {P : Program} {C : Ctx} {s s' : List DV} {a : Act} {w : World} {h h' : Heap} {F : CallF} {ops : Array Oper}

theorem put_defers (a : Act) (d : Option Tmp) (v : Value) : (a.put d v).defers = a.defers := by cases d <;> rfl

theorem VR.is_bool {d : DV} {b : Bool} (hv : VR C d (.bool b)) : d = .bool b := by
  cases hv with
  | bool => rfl
  | nsl n i len _ _ hu _ => obtain ⟨_, _, hu⟩ := hu; cases hu

theorem wanted_sim {o : Oper} {g : Option (Nat × Bool)} (hok : okGuard ops o.guard g = true) (T : TR C s a) {t : Bool} (q : wantedD s g = some t) : Region.wanted o (yielded ops a.tmps) = t := by
  unfold Region.wanted
  cases hg : o.guard with
  | none =>
    rw [hg] at hok
    cases g with
    | none => simp [wantedD] at q; subst q; rfl
    | some x => simp [okGuard] at hok
  | some jb =>
    obtain ⟨j, b⟩ := jb
    rw [hg] at hok
    cases g with
    | none => simp [okGuard] at hok
    | some tb =>
      obtain ⟨t', b'⟩ := tb
      simp only [okGuard, Bool.and_eq_true, beq_iff_eq] at hok
      obtain ⟨rfl, hd⟩ := hok
      simp only [wantedD] at q
      have hy : yielded ops a.tmps j = match a.tmps[t']? with | some (.bool b) => some b | _ => none := by
        unfold yielded
        rw [hd]
        rfl
      show (yielded ops a.tmps j == some b) = t
      rw [hy]
      split at q
      · rename_i c hc
        obtain ⟨v, hv, hV⟩ := T.get hc
        have := hV.bool_inv
        subst this
        rw [hv]
        injection q with q
      · rename_i d hne hc
        obtain ⟨v, hv, hV⟩ := T.get hc
        rw [hv]
        injection q with q
        subst q
        cases v with
        | bool b0 => exact absurd hV.is_bool (hne _)
        | _ => rfl
      · cases q

theorem TR.putD {d : DV} {v : Value} (T : TR C s a) (hv : VR C d v) (dst : Option Nat) : TR C (putD s dst d) (a.put dst v) := by
  cases dst with
  | none => exact T
  | some i => exact T.put hv i

theorem TR.keepS (T : TR C s a) (kp : Option (List Nat)) : TR C (keepS kp s) a := by
  cases kp with
  | none => exact T
  | some ks =>
    intro i d q
    simp only [XD.keepS, List.getElem?_mapIdx] at q
    cases hs : s[i]? with
    | none => rw [hs] at q; cases q
    | some d0 =>
      rw [hs] at q
      obtain ⟨v, hv, hV⟩ := T i d0 hs
      simp only [Option.map_some, Option.some.injEq] at q
      refine ⟨v, hv, fun hj => ?_⟩
      split at q
      · subst q; exact hV hj
      · subst q; cases hj

theorem step_sim (hF : CallOK P F) {i : Nat} {o : Oper} {d : DOper} (hi : ops[i]? = some o) (hok : okOper P ops o d = true) (q : stepO F d s h = some (s', h')) (T : TR C s a) (H : WRel C w h) (hd : a.defers = [])
    {K : Act → World → Prop} {Q : Exit → Act → World → Prop} (hK : ∀ a' w' C', TR C' s' a' → WRel C' w' h' → Step C w C' w' → a'.defers = [] → K a' w') : wpOp P ops Q i K a w := by
  simp only [okOper, Bool.and_eq_true, beq_iff_eq] at hok
  obtain ⟨⟨hdst, hg⟩, hb⟩ := hok
  unfold stepO at q
  unfold wpOp
  simp only [hi]
  cases hw : wantedD s d.guard with
  | none => rw [hw] at q; cases q
  | some t =>
    rw [hw] at q
    have hwant := wanted_sim (ops := ops) hg T hw
    cases t with
    | false =>
      simp only at q
      injection q with q; injection q with q q'
      subst q; subst q'
      rw [hwant]
      simp only [Bool.false_eq_true, if_false]
      refine hK _ w C ?_ H (.refl C w) (by rw [put_defers]; exact hd)
      rw [hdst]
      exact T.putD (.tup [] #[] rfl (fun i c v p => by simp at p)) _
    | true =>
      simp only at q
      rw [hwant]
      simp only [if_true]
      left
      split at q
      · rename_i r h1 hr
        injection q with q; injection q with q q'
        subst q; subst q'
        refine body_sim hF hb T H hr (fun v w' C' W S hV => hK _ w' C' ?_ W S (by rw [put_defers]; exact hd))
        rw [hdst]
        exact (T.mono S.le).putD hV _
      · cases q

/-- What a code comes to. -/
def conv : DExit → Exit
  | .normal => .normal
  | .exit id => .exit id
  | .ret => .ret

def Ends (C : Ctx) (w : World) (e : DExit) (s' : List DV) (h' : Heap) : Exit → Act → World → Prop := fun e' a' w' => e' = conv e ∧ a'.defers = [] ∧ ∃ C', TR C' s' a' ∧ WRel C' w' h' ∧ Step C w C' w'

theorem seq_sim (hF : CallOK P F) {Q : Exit → Act → World → Prop} : ∀ (os : List Oper) (ds : List DOper) (i : Nat) (C : Ctx) (s : List DV) (a : Act) (w : World) (h : Heap), (∀ (j : Nat) o, os[j]? = some o → ops[i + j]? = some o) → okOpers P ops os ds = true → runOps F ds s h = some (s', h') →
    TR C s a → WRel C w h → a.defers = [] → (∀ a' w' C', TR C' s' a' → WRel C' w' h' → Step C w C' w' → a'.defers = [] → Q .normal a' w') → wpOps P ops Q (List.range' i os.length) a w
  | [], [], i, C, s, a, w, h, _, _, q, T, H, hd, hQ => by
    simp only [runOps, Option.some.injEq, Prod.mk.injEq] at q
    obtain ⟨rfl, rfl⟩ := q
    exact hQ a w C T H (.refl C w) hd
  | [], _ :: _, _, _, _, _, _, _, _, h, _, _, _, _, _ => by simp [okOpers] at h
  | _ :: _, [], _, _, _, _, _, _, _, h, _, _, _, _, _ => by simp [okOpers] at h
  | o :: os, d :: ds, i, C, s, a, w, h, hi, hok, q, T, H, hd, hQ => by
    simp only [okOpers, Bool.and_eq_true] at hok
    simp only [runOps] at q
    split at q
    · rename_i s1 h1 hq
      rw [List.length_cons, List.range'_succ, wpOps_cons]
      refine step_sim hF (hi 0 o rfl) hok.1 hq T H hd (fun a1 w1 C1 T1 H1 S1 hd1 => ?_)
      exact seq_sim hF os ds (i + 1) C1 s1 a1 w1 h1 (fun j o hj => by rw [Nat.add_assoc, Nat.add_comm 1]; exact hi (j + 1) o (by simpa using hj)) hok.2 q T1 H1 hd1 (fun a' w' C' T' H' S' hd' => hQ a' w' C' T' H' (S1.trans S') hd')
    · cases q

theorem okOpers_get : ∀ {os : List Oper} {ds : List DOper}, okOpers P ops os ds = true → os.length = ds.length ∧ ∀ (i : Nat) o d, os[i]? = some o → ds[i]? = some d → okOper P ops o d = true
  | [], [], _ => ⟨rfl, fun i o d h => by simp at h⟩
  | [], _ :: _, h => by simp [okOpers] at h
  | _ :: _, [], h => by simp [okOpers] at h
  | o :: os, d :: ds, h => by
    simp only [okOpers, Bool.and_eq_true] at h
    obtain ⟨h1, h2⟩ := okOpers_get h.2
    refine ⟨by simp [h1], fun i o' d' q q' => ?_⟩
    cases i with
    | zero => simp at q q'; subst q; subst q'; exact h.1
    | succ i => simp at q q'; exact h2 i o' d' q q'

theorem okBack_get : ∀ {os : List Oper} {k : Nat}, okBack os k = true → ∀ (i : Nat) o, os[i]? = some o → ∀ e ∈ o.after.toList, Region.binds .any e = true → e.on < k + i
  | [], _, _, i, o, h => by simp at h
  | o :: os, k, hk, i, o', h => by
    simp only [okBack, Bool.and_eq_true] at hk
    cases i with
    | zero =>
      simp at h
      subst h
      intro e he hb
      have := List.all_eq_true.1 hk.1 e he
      simp only [hb, Bool.not_true, Bool.false_or, decide_eq_true_eq] at this
      omega
    | succ i =>
      simp at h
      intro e he hb
      have := okBack_get hk.2 i o' h e he hb
      omega

theorem any_sim (hF : CallOK P F) {ds : List DOper} (hok : okOpers P ops ops.toList ds = true) (hdr : okDraw ops ds = true) {Q : Exit → Act → World → Prop} :
    ∀ (fuel : Nat) (listed : Array Bool) (R : List Nat) (C : Ctx) (s : List DV) (a : Act) (w : World) (h : Heap), R.length ≤ fuel → listed.size = ops.size → R.Pairwise (· < ·) → (∀ i, i ∈ R ↔ i < ops.size ∧ listed.getD i true = false) →
      (∀ i o, listed.getD i false = true → ops[i]? = some o → ∀ e ∈ o.after.toList, Region.binds .any e = true → listed.getD e.on false = true) →
      runOps F (R.map fun i => ds.getD i default) s h = some (s', h') → TR C s a → WRel C w h → a.defers = [] →
      (∀ a' w' C', TR C' s' a' → WRel C' w' h' → Step C w C' w' → a'.defers = [] → Q .normal a' w') → wpAny P .any ops Q fuel listed a w := by
  obtain ⟨hlen, hget⟩ := okOpers_get hok
  simp only [okDraw, Bool.and_eq_true] at hdr
  obtain ⟨hback, hpairs⟩ := hdr
  have hsz : ops.toList.length = ops.size := by simp
  obtain ⟨_, _, hmask⟩ := masks_spec ops.toList []
  have get : ∀ {i : Nat} {o : Oper}, ops[i]? = some o → ops.toList[i]? = some o := fun h => by simpa using h
  -- what holds an operation back is not listed
  have up : ∀ (listed : Array Bool), (∀ i o, listed.getD i false = true → ops[i]? = some o → ∀ e ∈ o.after.toList, Region.binds .any e = true → listed.getD e.on false = true) →
      ∀ (n i : Nat) (o : Oper), i ≤ n → ops[i]? = some o → (∀ e ∈ o.after.toList, Region.binds .any e = true → listed.getD e.on false = true) → ∀ k, ((masks ops.toList []).getD i 0).testBit k = true → listed.getD k false = true := by
    intro listed hdown n
    induction n with
    | zero =>
      intro i o hi ho hall k hk
      obtain ⟨e, he, hb, hlt, hx⟩ := hmask i o (get ho) k (by simpa using hk)
      simp at hlt
      omega
    | succ n ih =>
      intro i o hi ho hall k hk
      obtain ⟨e, he, hb, hlt, hx⟩ := hmask i o (get ho) k (by simpa using hk)
      rcases hx with rfl | hx
      · exact hall e he hb
      · have hlist := hall e he hb
        simp at hlt
        have hei : e.on < ops.size := by have := (Array.getElem?_eq_some_iff.1 ho).1; omega
        exact ih e.on _ (by omega) (Array.getElem?_eq_getElem hei) (hdown e.on _ hlist (Array.getElem?_eq_getElem hei)) k hx
  intro fuel
  induction fuel with
  | zero =>
    intro listed R C s a w h hf hls hp hR hdown q T H hd hQ
    have hR0 : R = [] := List.eq_nil_of_length_eq_zero (by omega)
    subst hR0
    simp only [List.map_nil, runOps, Option.some.injEq, Prod.mk.injEq] at q
    obtain ⟨rfl, rfl⟩ := q
    refine ⟨?_, hQ a w C T H (.refl C w) hd⟩
    apply List.eq_nil_iff_forall_not_mem.2
    intro i hi
    obtain ⟨h1, o, ho, _⟩ := mem_ready.1 hi
    exact absurd ((hR i).2 ⟨(Array.getElem?_eq_some_iff.1 ho).1, h1⟩) (by simp)
  | succ fuel ih =>
    intro listed R C s a w h hf hls hp hR hdown q T H hd hQ
    refine ⟨fun hnil => ?_, fun i hi => ?_⟩
    · cases hRR : R with
      | nil =>
        subst hRR
        simp only [List.map_nil, runOps, Option.some.injEq, Prod.mk.injEq] at q
        obtain ⟨rfl, rfl⟩ := q
        exact hQ a w C T H (.refl C w) hd
      | cons i0 R' =>
        exfalso
        subst hRR
        obtain ⟨hi0, hl0⟩ := (hR i0).1 (by simp)
        have : i0 ∈ Region.ready .any ops listed := by
          refine mem_ready.2 ⟨hl0, _, Array.getElem?_eq_getElem hi0, fun e he hb => ?_⟩
          have hlt := okBack_get hback i0 _ (get (Array.getElem?_eq_getElem hi0)) e (by simpa using he) hb
          rw [Nat.zero_add] at hlt
          cases hle : listed.getD e.on false with
          | true => rfl
          | false =>
            exfalso
            have hmem : e.on ∈ i0 :: R' := (hR e.on).2 ⟨by omega, by
              have hlt' : e.on < listed.size := by omega
              rw [Array.getD_eq_getD_getElem?, Array.getElem?_eq_getElem hlt'] at hle ⊢
              simpa using hle⟩
            rcases List.mem_cons.1 hmem with hm | hm
            · omega
            · have := (List.pairwise_cons.1 hp).1 e.on hm
              omega
        rw [hnil] at this
        cases this
    · obtain ⟨hun, o, ho, hall⟩ := mem_ready.1 hi
      have hin := (Array.getElem?_eq_some_iff.1 ho).1
      have hiR : i ∈ R := (hR i).2 ⟨hin, hun⟩
      obtain ⟨A, B, rfl⟩ := List.append_of_mem hiR
      have hall' : ∀ e ∈ o.after.toList, Region.binds .any e = true → listed.getD e.on false = true := fun e he hb => hall e (by simpa using he) hb
      have hsw : ∀ y ∈ A.map (fun i => ds.getD i default), swapO y (ds.getD i default) = true := fun y hy => by
        obtain ⟨k, hk, rfl⟩ := List.mem_map.1 hy
        have hki : k < i := (List.pairwise_append.1 hp).2.2 k hk i (by simp)
        have hkR := (hR k).1 (by simp [hk])
        have := List.all_eq_true.1 hpairs i (by simp; omega)
        have := List.all_eq_true.1 this k (by simpa using hki)
        simp only [Bool.or_eq_true] at this
        rcases this with hb | hb
        · have := up listed hdown i i o (Nat.le_refl _) ho hall' k hb
          have hlt' : k < listed.size := by omega
          have h2 := hkR.2
          rw [Array.getD_eq_getD_getElem?, Array.getElem?_eq_getElem hlt'] at this h2
          simp at this h2
          rw [this] at h2
          cases h2
        · exact hb
      rw [List.map_append, List.map_cons] at q
      have q' := bubble hsw q
      simp only [runOps] at q'
      split at q'
      · rename_i s1 h1 hq
        have hdsi : ds[i]? = some (ds.getD i default) := by
          have : i < ds.length := by omega
          simp [List.getD, List.getElem?_eq_getElem this]
        refine step_sim hF ho (hget i o _ (get ho) hdsi) hq T H hd (fun a1 w1 C1 T1 H1 S1 hd1 => ?_)
        have hil : i < listed.size := by omega
        refine ih (listed.setIfInBounds i true) (A ++ B) C1 s1 a1 w1 h1 (by simp at hf ⊢; omega) (by simpa using hls) ?_ (fun j => ?_) (fun j oj hj hoj e he hb => ?_) (by rw [List.map_append]; exact q') T1 H1 hd1 (fun a' w' C' T' H' S' hd' => hQ a' w' C' T' H' (S1.trans S') hd')
        · exact hp.sublist ((List.Sublist.refl A).append (List.sublist_cons_self i B))
        · by_cases hji : j = i
          · subst hji
            constructor
            · intro hm
              exfalso
              rcases List.mem_append.1 hm with hm | hm
              · have := (List.pairwise_append.1 hp).2.2 j hm j (by simp); omega
              · have := (List.pairwise_cons.1 (List.pairwise_append.1 hp).2.1).1 j hm; omega
            · rintro ⟨_, hm⟩
              simp [hil] at hm
          · rw [getD_set_ne true (Ne.symm hji), ← hR j]
            simp [hji]
        · by_cases hji : j = i
          · subst hji
            rw [hoj] at ho
            injection ho with ho
            subst ho
            exact getD_set_true (hall' e he hb)
          · rw [getD_set_ne false (Ne.symm hji)] at hj
            exact getD_set_true (hdown j oj hj hoj e he hb)
      · cases q'

/-- A loop, by how many rounds are left. -/
theorem wp_rounds {c : Code} {Q : Exit → Act → World → Prop} (J : Nat → Act → World → Prop) (h0 : ∀ a w, ¬ J 0 a w) (round : ∀ k a w, J (k + 1) a w → c.wp P (Exit.then (J k) Q) a w) {k : Nat} {a : Act} {w : World} (hJ : J k a w) : (Code.loop c).wp P Q a w := by
  intro b items cs
  have key : ∀ k a w, J k a w → ∃ e a' w', Q e a' w' ∧ Arrives P (lone (b.at a (.code c :: .inLoop c :: items)) cs w) b items cs e a' w' := by
    intro k
    induction k with
    | zero => intro a w hJ; exact absurd hJ (h0 a w)
    | succ k ih =>
      intro a w hJ
      obtain ⟨e, a1, w1, hq, harr⟩ := round k a w hJ b (.inLoop c :: items) cs
      cases e with
      | normal =>
        obtain ⟨e2, a2, w2, hq2, harr2⟩ := ih a1 w1 hq
        exact ⟨e2, a2, w2, hq2, .of_steps (Steps.trans harr (.one step_inLoop)) harr2⟩
      | exit id => exact ⟨_, a1, w1, hq, .pass (x := .inLoop c) rfl (fun _ _ => .inl (by simp)) harr⟩
      | goto l => exact ⟨_, a1, w1, hq, .pass (x := .inLoop c) rfl (fun _ _ => .inl (by simp)) harr⟩
      | ret => exact ⟨_, a1, w1, hq, .pass (x := .inLoop c) rfl (fun _ _ => .inl (by simp)) harr⟩
      | panic ch => exact ⟨_, a1, w1, hq, .pass (x := .inLoop c) rfl (fun _ _ => .inl (by simp)) harr⟩
      | outgrown => exact ⟨_, a1, w1, hq, .pass (x := .inLoop c) rfl (fun _ _ => .inl (by simp)) harr⟩
  obtain ⟨e, a', w', hq, harr⟩ := key k a w hJ
  exact ⟨e, a', w', hq, .of_steps (.one step_loop) harr⟩

theorem exec_sim (hF : CallOK P F) (hmix : P.follows .mixedOrders = true) (n : Nat) : ∀ (dc : DCode) (c : Code) (e : DExit) (C : Ctx) (s s' : List DV) (a : Act) (w : World) (h h' : Heap), okCode P c dc = true → execW F n dc s h = some (e, s', h') → TR C s a → WRel C w h → a.defers = [] →
    c.wp P (Ends C w e s' h') a w := by
  intro dc
  induction dc with
  | skip kp =>
    intro c e C s s' a w h h' hok q T H hd
    cases c <;> simp [okCode] at hok
    simp only [execW, Option.some.injEq, Prod.mk.injEq] at q
    obtain ⟨rfl, rfl, rfl⟩ := q
    exact wp_skip ⟨rfl, hd, C, T.keepS kp, H, .refl C w⟩
  | reg draw ds kp =>
    intro c e C s s' a w h h' hok q T H hd
    cases c with
    | region id ops draw' =>
      simp only [okCode, Bool.and_eq_true, beq_iff_eq] at hok
      obtain ⟨⟨rfl, hops⟩, hdr⟩ := hok
      simp only [execW] at q
      split at q
      · rename_i s1 h1 hq
        simp only [Option.some.injEq, Prod.mk.injEq] at q
        obtain ⟨rfl, rfl, rfl⟩ := q
        have hlen : ops.toList.length = ops.size := by simp
        cases draw' with
        | false =>
          refine wp_region ?_
          have := seq_sim (ops := ops) hF (Q := Ends C w .normal (keepS kp s1) h1) ops.toList ds 0 C s a w h (fun j o hj => by simpa using hj) hops hq T H hd (fun a' w' C' T' H' S' hd' => ⟨rfl, hd', C', T'.keepS kp, H', S'⟩)
          rw [hlen, ← List.range_eq_range'] at this
          exact this
        | true =>
          simp only [Bool.not_true, Bool.false_or] at hdr
          refine wp_region_any hmix ?_
          have hds : ds.length = ops.size := by rw [← (okOpers_get hops).1]; exact hlen
          have hmap : (List.range ops.size).map (fun i => ds.getD i default) = ds := by
            apply List.ext_getElem?
            intro i
            rcases Nat.lt_or_ge i ops.size with hi | hi
            · simp [hi, List.getD, List.getElem?_eq_getElem (show i < ds.length by omega)]
            · rw [List.getElem?_eq_none (by simp; omega), List.getElem?_eq_none (by omega)]
          have W := H.grown (drew_grown w)
          have S0 : Step C w C w.drew := Step.grown (drew_grown w)
          exact any_sim (ops := ops) (s' := s1) hF hops hdr ops.size (Array.replicate ops.size false) (List.range ops.size) C s a w.drew h (by simp) (by simp) List.pairwise_lt_range (fun i => by
              simp only [List.mem_range]
              constructor
              · intro hi; exact ⟨hi, by simp [hi]⟩
              · intro hi; exact hi.1) (fun i o hl => by
              rw [show (Array.replicate ops.size false).getD i false = false by by_cases hi : i < ops.size <;> simp [hi]] at hl
              cases hl) (by rw [hmap]; exact hq) T W hd (fun a' w' C' T' H' S' hd' => ⟨rfl, hd', C', T'.keepS kp, H', S0.trans S'⟩)
      · cases q
    | _ => simp [okCode] at hok
  | seq x y ihx ihy =>
    intro c e C s s' a w h h' hok q T H hd
    cases c with
    | seq c1 c2 =>
      simp only [okCode, Bool.and_eq_true] at hok
      simp only [execW] at q
      refine wp_seq ?_
      split at q
      · rename_i s1 h1 hq
        refine wp_mono (ihx c1 _ C s s1 a w h h1 hok.1 hq T H hd) ?_
        rintro e1 a1 w1 ⟨rfl, hd1, C1, T1, H1, S1⟩
        refine wp_mono (ihy c2 e C1 s1 s' a1 w1 h1 h' hok.2 q T1 H1 hd1) ?_
        rintro e2 a2 w2 ⟨rfl, hd2, C2, T2, H2, S2⟩
        exact ⟨rfl, hd2, C2, T2, H2, S1.trans S2⟩
      · rename_i hne
        have hen : e ≠ .normal := fun he => hne s' h' (he ▸ q)
        refine wp_mono (ihx c1 e C s s' a w h h' hok.1 q T H hd) ?_
        rintro e1 a1 w1 ⟨rfl, hd1, C1, T1, H1, S1⟩
        cases e with
        | normal => exact absurd rfl hen
        | exit id => exact ⟨rfl, hd1, C1, T1, H1, S1⟩
        | ret => exact ⟨rfl, hd1, C1, T1, H1, S1⟩
    | _ => simp [okCode] at hok
  | cond x y z ihy ihz =>
    intro c e C s s' a w h h' hok q T H hd
    cases c with
    | cond c0 c1 c2 =>
      simp only [okCode, Bool.and_eq_true] at hok
      simp only [execW] at q
      split at q
      · rename_i t hx
        have := (ev_VR T hok.1.1 hx).bool_inv
        refine wp_cond this ?_
        cases t with
        | true => exact ihy c1 e C s s' a w h h' hok.1.2 q T H hd
        | false => exact ihz c2 e C s s' a w h h' hok.2 q T H hd
      · cases q
    | _ => simp [okCode] at hok
  | block id x ih =>
    intro c e C s s' a w h h' hok q T H hd
    cases c with
    | block id' c1 =>
      simp only [okCode, Bool.and_eq_true, beq_iff_eq] at hok
      obtain ⟨rfl, hok⟩ := hok
      simp only [execW] at q
      refine wp_block ?_
      split at q
      · rename_i i s1 h1 hq
        refine wp_mono (ih c1 _ C s s1 a w h h1 hok hq T H hd) ?_
        rintro e1 a1 w1 ⟨rfl, hd1, C1, T1, H1, S1⟩
        simp only [conv, Exit.inBlock]
        split at q
        · rename_i hi
          simp only [Option.some.injEq, Prod.mk.injEq] at q
          obtain ⟨rfl, rfl, rfl⟩ := q
          rw [if_pos hi]
          exact ⟨rfl, hd1, C1, T1, H1, S1⟩
        · rename_i hi
          simp only [Option.some.injEq, Prod.mk.injEq] at q
          obtain ⟨rfl, rfl, rfl⟩ := q
          rw [if_neg hi]
          exact ⟨rfl, hd1, C1, T1, H1, S1⟩
      · rename_i hne
        refine wp_mono (ih c1 e C s s' a w h h' hok q T H hd) ?_
        rintro e1 a1 w1 ⟨rfl, hd1, C1, T1, H1, S1⟩
        cases e with
        | normal => exact ⟨rfl, hd1, C1, T1, H1, S1⟩
        | exit id => exact absurd q (hne id s' h')
        | ret => exact ⟨rfl, hd1, C1, T1, H1, S1⟩
    | _ => simp [okCode] at hok
  | loop x ih =>
    intro c e C s s' a w h h' hok q T H hd
    cases c with
    | loop c1 =>
      simp only [okCode] at hok
      simp only [execW] at q
      refine wp_rounds (J := fun k a1 w1 => ∃ C1 s1 h1, iter (execW F n x) k s1 h1 = some (e, s', h') ∧ TR C1 s1 a1 ∧ WRel C1 w1 h1 ∧ a1.defers = [] ∧ Step C w C1 w1) ?_ ?_ (k := n) ⟨C, s, h, q, T, H, hd, .refl C w⟩
      · rintro a1 w1 ⟨C1, s1, h1, q1, _⟩
        simp [iter] at q1
      · rintro k a1 w1 ⟨C1, s1, h1, q1, T1, H1, hd1, S1⟩
        simp only [iter] at q1
        split at q1
        · rename_i s2 h2 hq
          refine wp_mono (ih c1 _ C1 s1 s2 a1 w1 h1 h2 hok hq T1 H1 hd1) ?_
          rintro e2 a2 w2 ⟨rfl, hd2, C2, T2, H2, S2⟩
          exact ⟨C2, s2, h2, q1, T2, H2, hd2, S1.trans S2⟩
        · rename_i hne
          refine wp_mono (ih c1 e C1 s1 s' a1 w1 h1 h' hok q1 T1 H1 hd1) ?_
          rintro e2 a2 w2 ⟨rfl, hd2, C2, T2, H2, S2⟩
          cases e with
          | normal => exact absurd q1 (hne s' h')
          | exit id => exact ⟨rfl, hd2, C2, T2, H2, S1.trans S2⟩
          | ret => exact ⟨rfl, hd2, C2, T2, H2, S1.trans S2⟩
    | _ => simp [okCode] at hok
  | exit id kp =>
    intro c e C s s' a w h h' hok q T H hd
    cases c <;> simp [okCode] at hok
    subst hok
    simp only [execW, Option.some.injEq, Prod.mk.injEq] at q
    obtain ⟨rfl, rfl, rfl⟩ := q
    exact wp_exit ⟨rfl, hd, C, T.keepS kp, H, .refl C w⟩
  | ret =>
    intro c e C s s' a w h h' hok q T H hd
    cases c <;> simp [okCode] at hok
    simp only [execW, Option.some.injEq, Prod.mk.injEq] at q
    obtain ⟨rfl, rfl, rfl⟩ := q
    exact wp_ret ⟨rfl, hd, C, T, H, .refl C w⟩

end

/-! ## functions -/

/-- What holds of the evaluator's functions at a program. -/
structure EnvOK (P : Program) (E : Env) : Prop where
  mix : P.follows .mixedOrders = true
  fn : ∀ f d, E.fn f = some d → ∃ fn, P.funcs[f]? = some fn ∧ okFun P fn d = true
  prim : ∀ f p, E.prim f = some p → ∀ args h r h' C w vs, p args h = some (r, h') → WRel C w h → ArgsVR C args vs → Out P f vs C w r h'

/-- A result of the machine's. -/
def resM (tmps : Array Value) : ResultVar → Sem Value
  | .tmp t => Pure.pure (tmps.getD t undef)
  | .cell a t => do loadVar t (← asAddr (tmps.getD a undef))

theorem run_slots {P : Program} {C : Ctx} {s : List DV} {h : Heap} {a : Act} {w : World} (T : TR C s a) (H : WRel C w h) : ∀ (rs : List ResultVar) (res : List (Nat × Option (Bool × Nat))) (ds : List DV), okRes P rs res = true → slots s h res = some ds →
    ∃ vs : List Value, (rs.mapM (resM a.tmps)).run P w = .ok vs w ∧ vs.length = ds.length ∧ ∀ (i : Nat) d v, ds[i]? = some d → vs[i]? = some v → VR C d v
  | [], [], ds, _, q => by simp [slots] at q; subst q; exact ⟨[], by simp, rfl, fun i d v q => by simp at q⟩
  | [], _ :: _, _, h, _ => by simp [okRes] at h
  | .tmp _ :: _, [], _, h, _ => by simp [okRes] at h
  | .cell _ _ :: _, [], _, h, _ => by simp [okRes] at h
  | r :: rs, (u, x) :: us, ds, hok, q => by
    simp only [slots] at q
    split at q
    · rename_i d ds' hd hds
      injection q with q
      subst q
      have one : okRes P rs us = true ∧ ∃ v, (resM a.tmps r).run P w = .ok v w ∧ VR C d v := by
        cases r with
        | tmp t =>
          cases x with
          | some y => simp [okRes] at hok
          | none =>
            simp only [okRes, Bool.and_eq_true, beq_iff_eq] at hok
            obtain ⟨rfl, hrest⟩ := hok
            obtain ⟨v, hv, hV⟩ := T.get hd
            exact ⟨hrest, v, by simp [resM, hv], hV⟩
        | cell t ty =>
          cases x with
          | none => simp [okRes] at hok
          | some y =>
            obtain ⟨agg, sz⟩ := y
            simp only [okRes, Bool.and_eq_true, beq_iff_eq] at hok
            obtain ⟨⟨⟨rfl, ha⟩, hs⟩, hrest⟩ := hok
            refine ⟨hrest, ?_⟩
            simp only [resV] at hd
            split at hd
            · rename_i n i off stamp hp
              split at hd
              · rename_i st cs he
                obtain ⟨v, hv, hV⟩ := T.get hp
                obtain ⟨g, o', e1, b1, b2⟩ := ptr_cells H hV he
                obtain ⟨u, hu, hU⟩ := run_part (P := P) b1 b2 ha hs hd
                refine ⟨u, ?_, hU⟩
                simp [resM, hv, e1, asAddr, hu]
              · cases hd
            · cases hd
      obtain ⟨hrest, v, hv, hV⟩ := one
      obtain ⟨vs, k1, k2, k3⟩ := run_slots T H rs us ds' hrest hds
      refine ⟨v :: vs, by simp only [List.mapM_cons, Sem.run_bind, hv, Result.andThen_ok, k1, Sem.run_pure], by simp [k2], fun i d' v' q q' => ?_⟩
      cases i with
      | zero => simp at q q'; subst q; subst q'; exact hV
      | succ i => simp at q q'; exact k3 i d' v' q q'
    · cases q

theorem run_results {P : Program} {C : Ctx} {s : List DV} {h : Heap} {a : Act} {w : World} {fn : Func} {res : List (Nat × Option (Bool × Nat))} {r : DV} (hok : okRes P fn.results.toList res = true) (T : TR C s a) (H : WRel C w h) (q : resD res s h = some r) : ∃ v, (results fn a.tmps).run P w = .ok v w ∧ VR C r v := by
  have main : ∀ ds, slots s h res = some ds → ∃ vs : List Value, (fn.results.mapM (resM a.tmps)).run P w = .ok vs.toArray w ∧ vs.length = ds.length ∧ ∀ (i : Nat) d v, ds[i]? = some d → vs[i]? = some v → VR C d v := fun ds hds => by
    obtain ⟨vs, k1, k2, k3⟩ := run_slots (P := P) T H _ _ ds hok hds
    refine ⟨vs, ?_, k2, k3⟩
    rw [Array.mapM_eq_mapM_toList]
    simp only [Sem.run_map, k1, Result.andThen_ok]
  unfold resD at q
  split at q
  · rename_i d hs
    injection q with q
    subst q
    obtain ⟨vs, k1, k2, k3⟩ := main _ hs
    match vs, k2 with
    | [v], _ =>
      refine ⟨v, ?_, k3 0 d v rfl rfl⟩
      unfold results
      rw [Sem.run_bind]
      exact (congrArg (fun r => Result.andThen r _) k1).trans rfl
  · rename_i ds hne hs
    injection q with q
    subst q
    obtain ⟨vs, k1, k2, k3⟩ := main _ hs
    have hne' : vs.toArray.size ≠ 1 := by
      simp only [List.size_toArray]
      intro h2
      rw [h2] at k2
      match ds, k2 with
      | [d], _ => exact hne d rfl
    refine ⟨.tuple vs.toArray, ?_, .tup _ _ (by simp [k2]) (fun i c v p p' => k3 i c v p (by simpa using p'))⟩
    unfold results
    rw [Sem.run_bind]
    refine (congrArg (fun r => Result.andThen r _) k1).trans ?_
    show Sem.run P (Pure.pure _) w = _
    rw [dif_neg hne']
    rfl
  · cases q

theorem run_OK {P : Program} {E : Env} (hE : EnvOK P E) : ∀ n, CallOK P (run E n) := by
  intro n
  induction n with
  | zero => intro f args h r h' C w vs q; simp [run] at q
  | succ n ih =>
    intro f args h r h' C w vs q H A
    simp only [run] at q
    split at q
    · rename_i p hp
      exact hE.prim f p hp args h r h' C w vs q H A
    · split at q
      · cases q
      · rename_i df hdf
        obtain ⟨fn, hfn, hok⟩ := hE.fn f df hdf
        unfold okFun at hok
        split at hok
        · rename_i c hc
          simp only [Bool.and_eq_true, bne_iff_ne, ne_eq, beq_iff_eq] at hok
          obtain ⟨⟨⟨hname, hnt⟩, hres⟩, hcode⟩ := hok
          refine ⟨?_, calls_of_wp hfn hc ?_⟩
          · simp [callFunc, hfn, hname, hc]
          · have T : TR C (args ++ List.replicate (df.nt - args.length) .junk) { tmps := vs ++ Array.replicate (fn.ntmps - vs.size) undef, defers := [] } := fun i d hd => by
              rw [hnt, A.1]
              rcases Nat.lt_or_ge i args.length with hi | hi
              · rw [List.getElem?_append_left hi] at hd
                obtain ⟨v, hv, hV⟩ := A.2 i d hd
                exact ⟨v, by rw [Array.getElem?_append_left (by rw [A.1]; exact hi)]; exact hv, fun _ => hV⟩
              · rw [List.getElem?_append_right hi, List.getElem?_replicate] at hd
                split at hd
                · rename_i hlt
                  injection hd with hd
                  subst hd
                  refine ⟨undef, ?_, fun hj => by cases hj⟩
                  rw [Array.getElem?_append_right (by rw [A.1]; exact hi), Array.getElem?_replicate, if_pos (by rw [A.1]; exact hlt)]
                · cases hd
            have fin : ∀ e s1 h1, execW (run E n) n df.body (args ++ List.replicate (df.nt - args.length) .junk) h = some (e, s1, h1) → (e = .normal ∨ e = .ret) → (resD df.res s1 h1).map (·, h1) = some (r, h') →
                c.wp P (bodyPost P fn fun e w' => ∃ v C', e = .returned v ∧ WRel C' w' h' ∧ Step C w C' w' ∧ VR C' r v) { tmps := vs ++ Array.replicate (fn.ntmps - vs.size) undef, defers := [] } w := fun e s1 h1 hx he hr => by
              obtain ⟨d, k1, k2⟩ := map_some hr
              injection k2 with k2 k3
              subst k2; subst k3
              refine wp_mono (exec_sim ih hE.mix n df.body c e C _ s1 _ w h h1 hcode hx T H rfl) ?_
              rintro e1 a1 w1 ⟨rfl, hd1, C1, T1, H1, S1⟩
              obtain ⟨v, hv, hV⟩ := run_results (P := P) (w := w1) hres T1 H1 k1
              rcases he with rfl | rfl
              · exact ⟨hd1, v, hv, v, C1, rfl, H1, S1, hV⟩
              · exact ⟨hd1, v, hv, v, C1, rfl, H1, S1, hV⟩
            split at q
            · rename_i s1 h1 hx
              exact fin _ s1 h1 hx (.inl rfl) q
            · rename_i s1 h1 hx
              exact fin _ s1 h1 hx (.inr rfl) q
            · cases q
        · cases hok

end Go.Proofs.Ytdlonbcefhimaaa.XD
