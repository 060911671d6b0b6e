/- What is proved: calls, steps and rows of steps of the evaluator say what the machine does. No condition. -/
import Derived.Test.YtdlonbcefhimaaaXD14
namespace Go.Proofs.Ytdlonbcefhimaaa.XD
open Go Go.RowKit
set_option linter.all false

section
variable {P : Program} {C : Ctx} {s s' : List DV} {a : Act} {w : World} {h h' : Heap} {F : CallF}

theorem snaps_args {N t : Nat} (H : WRel C w h) (ht : t ≠ 2) {k : Nat} {args as : List DV} {vs : Array Value} (A : ArgsVR C args vs) (q : args.mapM (snap h t N k) = some as) : ArgsVR (C.drop w N (tg t)) as vs := by
  obtain ⟨h1, h2⟩ := mapM_opt q
  refine ⟨by rw [h1]; exact A.1, fun i d hd => ?_⟩
  obtain ⟨x, hx, hs⟩ := h2 i d hd
  obtain ⟨v, hv, hV⟩ := A.2 i x hx
  exact ⟨v, hv, snap_VR H ht k x d v hV hs⟩

theorem callD_OK (hF : CallOK P F) {f : FuncId} {args : List DV} {m : CM} {r : DV} {vs : Array Value} (q : callD F f args m h = some (r, h')) (H : WRel C w h) (A : ArgsVR C args vs) : Out P f vs C w r h' := by
  unfold callD at q
  cases m with
  | pure =>
    simp only at q
    split at q
    · rename_i as has
      split at q
      · rename_i r1 h1 hr1
        split at q
        · rename_i r' hr'
          split at q
          · rename_i hc
            injection q with q; injection q with q q'
            subst q; subst q'
            by_cases hno : DV.oks (fun _ => true) (fun _ => false) args = true
            · let C0 : Ctx := { F := C.F, μ := fun _ => none, nx := 0 }
              have W0 : WRel C0 w [] := ⟨H.F, rfl, fun n v e st L m q => (by cases q), fun n r q => (by cases q), fun n e st es m q => (by simp at q), fun n kvs q => (by simp at q), fun n v e st L m n' v' e' st' L' m' g q => (by cases q), fun n n' r q => (by cases q), fun n v e st L m g q => (by cases q)⟩
              obtain ⟨m1, m2⟩ := mapM_opt has
              have A0 : ArgsVR C0 as vs := ⟨by rw [m1]; exact A.1, fun i d hd => by
                obtain ⟨x, hx, hs⟩ := m2 i d hd
                obtain ⟨v, hv, hV⟩ := A.2 i x hx
                exact ⟨v, hv, snap_free (C := C) (C' := C0) (fun _ _ _ _ q => q) 6 x d v (oks_get hno i x hx) hs hV⟩⟩
              obtain ⟨o1, o2⟩ := hF f as [] r1 h1 C0 w vs hr1 W0 A0
              refine ⟨o1, o2.mono ?_⟩
              rintro e w1 ⟨v, C1, he, W1, S, hV⟩
              obtain ⟨Cf, k1, k2, k3⟩ := back_pure H (C0 := C0) (fun n => rfl) (fun _ _ _ _ q => q) rfl W1 S hV hr' (.inl rfl)
              exact ⟨v, Cf, he, k1, k2, k3⟩
            · have hB : noB r' = true := by
                simp only [Bool.or_eq_true] at hc
                exact hc.resolve_left hno
              have W0 := H.drop (N := 0) true (fun n e st es m hn => by omega)
              rw [List.take_zero] at W0
              have A0 : ArgsVR (C.drop w 0 true) as vs := snaps_args (t := 1) H (by decide) A has
              obtain ⟨o1, o2⟩ := hF f as [] r1 h1 _ w vs hr1 W0 A0
              refine ⟨o1, o2.mono ?_⟩
              rintro e w1 ⟨v, C1, he, W1, S, hV⟩
              obtain ⟨Cf, k1, k2, k3⟩ := back_pure H (C0 := C.drop w 0 true) (fun n => by simp [Ctx.drop]) (Ctx.drop_F H true) (by funext b o; simp [Ctx.drop]) W1 S hV hr' (.inr hB)
              exact ⟨v, Cf, he, k1, k2, k3⟩
          · cases q
        · cases q
      · cases q
    · cases q
  | shared =>
    simp only at q
    split at q
    · rename_i r1 h1 hr1
      split at q
      · rename_i r' hr'
        split at q
        · rename_i hlow
          injection q with q; injection q with q q'
          subst q; subst q'
          obtain ⟨o1, o2⟩ := hF f args h r1 h1 C w vs hr1 H A
          refine ⟨o1, o2.mono ?_⟩
          rintro e w1 ⟨v, C1, he, W1, S, hV⟩
          have hN : h.length = C.nx := H.nx.symm
          have W2 := W1.drop (N := h.length) false (fun n e st es m hn hh x hx c hc => by
            have := List.all_eq_true.1 hlow (.arr e st es m) (List.mem_of_getElem? (i := n) (by rw [List.getElem?_take, if_pos hn]; exact hh))
            simp only at this
            obtain ⟨i, hi, rfl⟩ := List.getElem_of_mem hx
            exact oks_mem (okss_get this i _ (List.getElem?_eq_getElem hi)) c hc)
          have V2 := snap_VR W1 (t := 0) (N := h.length) (by decide) 6 r1 r' v hV hr'
          refine ⟨v, _, he, W2, ?_, V2⟩
          refine ⟨⟨fun t b o u q => Ctx.drop_F W1 false t b o u (S.le.F t b o u q), ?_, fun n hn => ?_⟩, ?_, S.os, S.tape, S.output, S.size, S.block, fun k hk => S.own k ?_, fun t b o u q => ?_⟩
          · simp only [Ctx.drop]
            have := S.le.nx
            omega
          · have hn' : n < h.length := by omega
            simp only [Ctx.drop]
            rw [if_pos hn']
            exact S.le.μ n hn
          · funext b o
            have : (C1.drop w1 h.length false).F true b o = C1.F true b o := by simp [Ctx.drop]
            rw [this, S.F1]
          · rcases hk with ⟨n, v', e', st, L, m, q, b⟩ | ⟨n, q⟩
            · simp only [Ctx.drop] at q
              split at q
              · exact .inl ⟨n, v', e', st, L, m, q, b⟩
              · cases q
            · simp only [Ctx.drop] at q
              split at q
              · exact .inr ⟨n, q⟩
              · cases q
          · simp only [Ctx.drop] at q
            split at q
            · rename_i hc
              obtain ⟨_, n, v', e', st, L, m, _, k1, k2⟩ := hc
              rcases S.own b (.inl ⟨n, v', e', st, L, m, k1, k2⟩) with z | z
              · exact .inr (.inr z)
              · exact .inr (.inl z)
            · exact S.Fnew t b o u q
        · cases q
      · cases q
    · cases q

theorem evs_args (T : TR C s a) {xs : List Operand} {ys : List DX} {ds : List DV} (hx : okXs xs ys = true) (q : evs s ys = some ds) : ArgsVR C ds (xs.map a.eval).toArray := by
  obtain ⟨h1, h2⟩ := evs_VR T hx q
  refine ⟨by simpa using h1, fun i d hd => ?_⟩
  have hi := (List.getElem?_eq_some_iff.1 hd).1
  have hv : (xs.map a.eval)[i]? = some (xs.map a.eval)[i] := List.getElem?_eq_getElem (by omega)
  exact ⟨_, by simpa using hv, h2 i d _ hd hv⟩

theorem ArgsVR.append {as bs : List DV} {us vs : Array Value} (A : ArgsVR C as us) (B : ArgsVR C bs vs) : ArgsVR C (as ++ bs) (us ++ vs) := by
  refine ⟨by simp [A.1, B.1], fun i d hd => ?_⟩
  rcases Nat.lt_or_ge i as.length with hi | hi
  · rw [List.getElem?_append_left hi] at hd
    obtain ⟨v, hv, hV⟩ := A.2 i d hd
    exact ⟨v, by rw [Array.getElem?_append_left (by rw [A.1]; exact hi)]; exact hv, hV⟩
  · rw [List.getElem?_append_right hi] at hd
    obtain ⟨v, hv, hV⟩ := B.2 _ d hd
    exact ⟨v, by rw [Array.getElem?_append_right (by rw [A.1]; exact hi), A.1]; exact hv, hV⟩

theorem lookT_mem : ∀ {tbl : List (TypeId × FuncId)} {t : TypeId} {f : FuncId}, lookT tbl t = some f → (t, f) ∈ tbl
  | [], _, _, h => by simp [lookT] at h
  | (u, g) :: l, t, f, h => by
    simp only [lookT] at h
    split at h
    · rename_i hu
      injection h with h
      subst h; subst hu
      exact List.mem_cons_self
    · exact List.mem_cons_of_mem _ (lookT_mem h)

/-- What is wanted of the operation: the next, with what it gives. -/
theorem body_sim (hF : CallOK P F) {o : Oper} {b : DBody} {r : DV} (hok : okBody P o.op b = true) (T : TR C s a) (H : WRel C w h) (q : opB F s h b = some (r, h'))
    {K : Act → World → Prop} {Q : Exit → Act → World → Prop} (hK : ∀ v w' C', WRel C' w' h' → Step C w C' w' → VR C' r v → K (a.put o.dst v) w') : o.wp P a w K Q := by
  cases b with
  | op d =>
    obtain ⟨v, w', C', hr, W, S, hV⟩ := op_sim hok T H q
    rcases hr with hr | ⟨rfl, hr⟩
    · simp only [Oper.wp, hr, Oper.upon_value]
      exact hK v w' C' W S hV
    · simp only [Oper.wp, hr, Oper.upon_skip]
      exact hK undef w' C' W S hV
  | call c args m =>
    simp only [opB] at q
    split at q
    · cases q
    · rename_i as has
      have fin : ∀ (f : FuncId) (ds : List DV) (vs : Array Value), callD F f ds m h = some (r, h') → ArgsVR C ds vs → (execOp a.eval o).run P w = (callFunc f vs).run P w → o.wp P a w K Q := fun f ds vs hq A he => by
        obtain ⟨o1, o2⟩ := callD_OK hF hq H A
        simp only [Oper.wp, he, o1, Oper.upon_enter]
        refine o2.mono ?_
        rintro e w1 ⟨v, C1, rfl, W1, S, hV⟩
        exact hK v w1 C1 W1 S hV
      unfold okBody at hok
      simp only at hok
      generalize ho : o.op = op at hok
      split at hok
      · rename_i cc
        simp only [Bool.and_eq_true] at hok
        obtain ⟨hxs, hc⟩ := hok
        have A := evs_args T hxs has
        have hargs : (cc.args.toList.map a.eval).toArray = cc.args.map a.eval := by apply Array.toList_inj.1; simp
        rw [hargs] at A
        split at hc
        · rename_i f g hcal
          have hfg := eq_of_beq hc
          subst hfg
          refine fin f as _ q A ?_
          have e0 : a.eval (.func f) = .func (.func f) #[] #[] := rfl
          simp [execOp, ho, resolve, hcal, e0, Deferred.ofValue, invoke]
        · rename_i x y hcal
          simp only at q
          split at q
          · rename_i f caps hd
            have V := ev_VR T hc hd
            obtain ⟨vs, hax, hl, hvs⟩ : ∃ vs : Array Value, a.eval x = .func (.func f) #[] vs ∧ vs.size = caps.length ∧ ∀ (i : Nat) c v, caps[i]? = some c → vs[i]? = some v → VR C c v := by
              generalize a.eval x = vx at V
              cases V with
              | func _ _ vs hl hh => exact ⟨vs, rfl, hl, hh⟩
            refine fin f (as ++ caps) (cc.args.map a.eval ++ vs) q (A.append ⟨hl, fun i d hd => ?_⟩) ?_
            · have hi := (List.getElem?_eq_some_iff.1 hd).1
              exact ⟨vs[i], Array.getElem?_eq_getElem (by omega), hvs i d _ hd (Array.getElem?_eq_getElem (by omega))⟩
            · simp [execOp, ho, resolve, hcal, hax, Deferred.ofValue, invoke]
          · cases q
        · rename_i x name y tbl hcal
          simp only [Bool.and_eq_true] at hc
          obtain ⟨hx, ht⟩ := hc
          simp only at q
          split at q
          · rename_i t d hd
            split at q
            · rename_i f hlk
              have V := ev_VR T hx hd
              obtain ⟨v, hax, hv⟩ : ∃ v, a.eval x = .iface t v ∧ VR C d v := by
                generalize a.eval x = vx at V
                cases V with
                | iface _ _ v hh => exact ⟨v, rfl, hh⟩
              have hm := List.all_eq_true.1 ht _ (lookT_mem hlk)
              simp only at hm
              split at hm
              · rename_i ti hti
                simp only [Bool.and_eq_true] at hm
                obtain ⟨hm1, hm2⟩ := hm
                split at hm1
                · rename_i mm hmm
                  simp only [Bool.and_eq_true] at hm1
                  obtain ⟨hp, hm3⟩ := hm1
                  split at hm3
                  · rename_i g pr hg
                    simp only [Bool.and_eq_true, beq_iff_eq, Bool.not_eq_true'] at hm3
                    obtain ⟨rfl, rfl⟩ := hm3
                    have hpath : mm.path = #[] := by simpa using hp
                    have hmeth : (method (P.types.size + Made.depth) t v name).run P w = .ok (g, v) w := by
                      have hpos : P.types.size + Made.depth = (P.types.size + Made.depth - 1) + 1 := by
                        have : 0 < Made.depth := by decide
                        omega
                      rw [hpos, method]
                      cases hu : P.underlying t with
                      | none => rw [hu] at hm2; cases hm2
                      | some e =>
                        rw [hu] at hm2
                        simp only [Sem.run_bind, typeInfo, run_program, Result.andThen_ok, hti, Sem.run_pure, hmm, hpath, follow, hg, receiverAt, run_underlying hu]
                        cases e <;> first | (cases hm2; done) | simp [Place.get]
                    refine fin g (d :: as) (#[v] ++ cc.args.map a.eval) q (ArgsVR.append (as := [d]) ⟨rfl, fun i e he => ?_⟩ A) ?_
                    · cases i with
                      | zero => simp at he; subst he; exact ⟨v, rfl, hv⟩
                      | succ i => simp at he
                    · have hex : (#[a.eval x] ++ cc.args.map a.eval).extract 1 (#[a.eval x] ++ cc.args.map a.eval).size = cc.args.map a.eval := by
                        apply Array.toList_inj.1
                        simp
                        exact List.take_of_length_le (by simp)
                      have h0 : (#[a.eval x] ++ cc.args.map a.eval)[0]? = some (a.eval x) := by rw [Array.getElem?_append_left (by simp)]; rfl
                      simp only [execOp, ho, resolve, hcal, Sem.run_bind, Sem.run_pure, Result.andThen_ok, invoke, h0, hex]
                      rw [hax]
                      simp only [callMethod, Sem.run_bind, run_program, Result.andThen_ok, hmeth]
                  · cases hm3
                · cases hm1
              · cases hm
            · cases q
          · cases q
        · cases hc
      · cases hok

end

end Go.Proofs.Ytdlonbcefhimaaa.XD
