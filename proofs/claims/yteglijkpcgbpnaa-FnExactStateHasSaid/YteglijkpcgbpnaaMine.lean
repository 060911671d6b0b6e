/- What is proved: words beside the print's: the builtin clear on the end of a row of the call's own. No condition. -/
import Derived.Test.YteglijkpcgbpnaaWMore
import Derived.Lib.SliceRun
namespace Go.Proofs.Yteglijkpcgbpnaa.Mine
open Go.RowKit Go.Proofs.YteglijkpcgbpnaaW.PrintWords Go.Proofs.YteglijkpcgbpnaaW.PrintWords.Kd
set_option linter.unusedVariables false
section
variable {P : Program} {ops : Array Oper} {rest : List Oper} {o : Oper} {a : Act} {Q : Exit → Act → World → Prop} {α : Type}
/-- 'clear(xs[lo:])', xs a row of the call's own, its elements of one cell each. -/
theorem R_clear_run {enc : α → Value} {h1 : ∀ x, (enc x).oneCell' = true} {W : World} (base : Nat) (t ty e : TypeId) (zr : α) (ht : P.underlying t = some (.slice e)) (hv : ∀ w, (zeroValue e).run P w = .ok (enc zr) w) (hzc : (enc zr).cells = #[enc zr])
    {g n c lo : Nat} {xs : List α} {ok : Nat → Prop} (HO : (Kd.scalar enc h1).R e W base ok (.slice (some ⟨g, 0, none⟩) n c) xs) (hlo : lo ≤ n) {A : Option Addr} (hA : A = if c = lo then some ⟨g, 0, none⟩ else (some (⟨g, 0, none⟩ : Addr)).map (·.add (lo * 1))) (c2 : Nat) :
    ∃ w1, (Builtin.clear_ #[t] ty #[.slice A (n - lo) c2]).run P W = .ok (.tuple #[]) w1 ∧ (Kd.scalar enc h1).R e w1 base ok (.slice (some ⟨g, 0, none⟩) n c) (xs.take lo ++ List.replicate (n - lo) zr) ∧ W.grownBy w1 (some g) := by
  obtain ⟨hn, hnc, _⟩ := R_reads' HO
  have hok := HO.1
  have hown := own_of_R HO
  rcases Nat.eq_or_lt_of_le hlo with he | hlt
  · subst he
    rw [Nat.sub_self, List.replicate_zero, List.append_nil, List.take_of_length_le (by omega)]
    refine ⟨W, ?_, HO, ⟨rfl, rfl, rfl, Nat.le_refl _, fun _ _ _ => rfl⟩⟩
    cases A <;> simp [Builtin.clear_, run_underlying ht]
  rcases hown.2 with ⟨hv0, _⟩ | ⟨g', cap', cur, hv0, hb, hh, hle, hcm, hcs, htake⟩
  · cases hv0
  injection hv0 with ha _ hc
  injection ha with ha
  injection ha with hg
  subst hg; subst hc
  rw [if_neg (by omega)] at hA
  simp only [Option.map_some, Nat.mul_one] at hA
  have hA' : A = some ⟨g, lo, none⟩ := by
    rw [hA, add_at]
    simp
  subst hA'
  have hz := Lib.run_clear_slice (P := P) W t e ty (enc zr) ht hv hzc (h1 zr) g lo (n - lo) c2 (by omega)
    (fun j hj => by rw [cell_of_row W g _ cur e (0, 0) hh]; simp; omega) (fun j _ => blk_frozen hh _)
  have hfit : lo + (List.replicate (n - lo) (enc zr)).length ≤ cur.size := by simp; omega
  obtain ⟨cur', h3, h4, h5⟩ := setCells_row (List.replicate (n - lo) (enc zr)) lo W cur hh hfit
  obtain ⟨s1, s2, s3, s4⟩ := setCells_same g (List.replicate (n - lo) (enc zr)) lo W
  have hl : (xs.take lo ++ List.replicate (n - lo) zr).length = n := by rw [List.length_append, List.length_take, List.length_replicate]; omega
  have hgo : ∀ m, some g = (Value.slice (some ⟨g, 0, none⟩) m c).ownBlock := fun m => by simp [Value.ownBlock]
  refine ⟨_, hz, R_of_own ?_ hok, ⟨s1, s2, s3, by rw [s4]; exact Nat.le_refl _, fun k' _ hk' => setCells_far _ _ k' (fun he => hk' (by rw [he]))⟩⟩
  rw [hl]
  refine ⟨by rw [encs_length, hl]; omega, .inr ⟨g, c, cur', rfl, hb, h3, by omega, hcm, by rw [h4, hcs], ?_⟩⟩
  have h7 : cur.toList.take lo = (encs enc xs).take lo := by
    rw [← htake, List.take_take, Nat.min_eq_left (by omega)]
  have h8 : encs enc (xs.take lo ++ List.replicate (n - lo) zr) = (encs enc xs).take lo ++ List.replicate (n - lo) (enc zr) := by
    simp [encs, List.map_take]
  rw [h8, ← h7, h5]
  exact List.take_left' (by rw [List.length_append, List.length_take, List.length_replicate, Array.length_toList]; omega)
/-- A row of the call's own that was written over, and cut: what it then holds. -/
theorem R_rewritten {enc : α → Value} {h1 : ∀ x, (enc x).oneCell' = true} {W : World} {base e : Nat} {zr : α} {g n c : Nat} {xs ys : List α} {ok : Nat → Prop} (HO : (Kd.scalar enc h1).R e W base ok (.slice (some ⟨g, 0, none⟩) n c) xs) (hy : ys.length ≤ n) (q : Nat) {w1 : World}
    (hw : w1 = (W.drewN q).setCells g 0 ((ys ++ List.replicate (n - ys.length) zr).map enc)) : (Kd.scalar enc h1).R e w1 base ok (.slice (some ⟨g, 0, none⟩) ys.length c) ys ∧ W.grownBy w1 (some g) := by
  subst hw
  obtain ⟨hn, hnc, _⟩ := R_reads' HO
  have hok := HO.1
  have hown := own_of_R HO
  rcases hown.2 with ⟨hv0, _⟩ | ⟨g', cap', cur, hv0, hb, hh, hle, hcm, hcs, htake⟩
  · cases hv0
  injection hv0 with ha _ hc
  injection ha with ha
  injection ha with hg
  subst hg; subst hc
  have hl : ((ys ++ List.replicate (n - ys.length) zr).map enc).length = n := by rw [List.length_map, List.length_append, List.length_replicate]; omega
  have hh' : (W.drewN q).heap[g]? = some (.cells cur e (0, 0)) := hh
  obtain ⟨cur', h3, h4, h5⟩ := setCells_row ((ys ++ List.replicate (n - ys.length) zr).map enc) 0 (W.drewN q) cur hh' (by rw [hl]; omega)
  obtain ⟨s1, s2, s3, s4⟩ := setCells_same g ((ys ++ List.replicate (n - ys.length) zr).map enc) 0 (W.drewN q)
  refine ⟨R_of_own ?_ (fun k hk => hok k (by rw [← hk]; simp [Value.ownBlock])), ⟨s1, s2, s3, by rw [s4]; exact Nat.le_refl _, fun k' _ hk' => setCells_far _ _ k' (fun he => hk' (by rw [he]))⟩⟩
  refine ⟨by rw [encs_length]; omega, .inr ⟨g, c, cur', rfl, hb, h3, by omega, hcm, by rw [h4, hcs], ?_⟩⟩
  rw [h5, List.take_zero, List.nil_append, List.map_append, List.append_assoc]
  exact List.take_left' (by rw [List.length_map]; omega)
theorem R_clear_any {enc : α → Value} {h1 : ∀ x, (enc x).oneCell' = true} {W : World} (base : Nat) (t ty e : TypeId) (zr : α) (ht : P.underlying t = some (.slice e)) (hv : ∀ w, (zeroValue e).run P w = .ok (enc zr) w) (hzc : (enc zr).cells = #[enc zr])
    {Ao : Option Addr} {n c lo : Nat} {xs : List α} {ok : Nat → Prop} (HO : (Kd.scalar enc h1).R e W base ok (.slice Ao n c) xs) (hlo : lo ≤ n) {A : Option Addr} (hA : A = if c = lo then Ao else Ao.map (·.add (lo * 1))) (c2 : Nat) :
    ∃ w1, (Builtin.clear_ #[t] ty #[.slice A (n - lo) c2]).run P W = .ok (.tuple #[]) w1 ∧ (Kd.scalar enc h1).R e w1 base ok (.slice Ao n c) (xs.take lo ++ List.replicate (n - lo) zr) ∧ W.grownBy w1 (Value.slice Ao n c).ownBlock := by
  have hown := own_of_R HO
  obtain ⟨hn, hnc, _⟩ := R_reads' HO
  rcases hown.2 with ⟨hv0, _⟩ | ⟨g', cap', cur, hv0, hb, hh, hle, hcm, hcs, htake⟩
  · injection hv0 with ha hn0 hc0
    subst ha; subst hn0; subst hc0
    have : lo = 0 := by omega
    subst this
    rw [Nat.sub_self, List.replicate_zero, List.append_nil, List.take_of_length_le (by omega)]
    refine ⟨W, ?_, HO, ⟨rfl, rfl, rfl, Nat.le_refl _, fun _ _ _ => rfl⟩⟩
    cases A <;> simp [Builtin.clear_, run_underlying ht]
  · injection hv0 with ha _ hc
    subst ha; subst hc
    exact R_clear_run base t ty e zr ht hv hzc HO hlo hA c2
theorem R_clear {enc : α → Value} {h1 : ∀ x, (enc x).oneCell' = true} {w0 W : World} (base : Nat) (hgd : o.guard = none) (x : Operand) (t e : TypeId) (zr : α) (ho : o.op = .call { callee := .builtin .clear, args := #[x], argTypes := #[t] })
    (ht : P.underlying t = some (.slice e)) (hv : ∀ w, (zeroValue e).run P w = .ok (enc zr) w) (hzc : (enc zr).cells = #[enc zr]) {Ao : Option Addr} {n c lo m c2 : Nat} {A : Option Addr} {xs : List α} {ok : Nat → Prop}
    (hx : a.eval x = .slice A m c2) (hA : A = if c = lo then Ao else Ao.map (·.add (lo * 1))) (hm : m = n - lo)
    (HO : (Kd.scalar enc h1).R e W base ok (.slice Ao n c) xs) (hlo : lo ≤ n) (HB : Below base w0 W) (hbase : base ≤ W.heap.size)
    (h : ∀ w1, (Kd.scalar enc h1).R e w1 base ok (.slice Ao n c) (xs.take lo ++ List.replicate (n - lo) zr) → Below base w0 w1 → W.grownBy w1 (Value.slice Ao n c).ownBlock → wpList P ops Q rest (a.put o.dst (.tuple #[])) w1) : wpList P ops Q (o :: rest) a W := by
  subst hm
  obtain ⟨w1, hr, h2, h3⟩ := R_clear_any (P := P) base t o.type e zr ht hv hzc HO hlo hA c2
  refine wpList_plain hgd fun K hK => ?_
  unfold Oper.wp execOp
  simp only [ho, resolve, invoke, builtin, Sem.run_bind, Sem.run_pure, Result.andThen_ok, List.map_toArray, List.map_cons, List.map_nil, hx, hr]
  exact hK _ _ (h w1 h2 (HB.grown h3 hbase (fun k hk => R_base HO _ hk)) h3)
end
end Go.Proofs.Yteglijkpcgbpnaa.Mine
namespace Go.Proofs.Yteglijkpcgbpnaa.Q
open Go.RowKit Go.Proofs.YteglijkpcgbpnaaW.PrintWords
/-- What is nil is empty. -/
theorem C_none_nil {α : Type} {K : Kd α} {w : World} {n : Nat} {xs : List α} (h : K.C w none n xs) : xs = [] := by
  rcases Nat.eq_zero_or_pos n with hn | hn
  · exact List.length_eq_zero_iff.1 (h.1.trans hn)
  · obtain ⟨ad, he, _⟩ := h.2.2 hn
    cases he
/-- A block that stands, told again of a world where only more was made or drawn. -/
theorem bk_ {w W : World} {g : Nat} {o : Obj} (h : w.heap[g]? = some o) (e : w.heap[g]? = some o → W.heap[g]? = some o := by (intro h_; (with_reducible repeat (first | refine Go.Proofs.YteglijkpcgbpnaaW.PrintWords.blk_drewN ?_ _ | refine Go.Proofs.YteglijkpcgbpnaaW.PrintWords.blk_drew ?_ | refine Go.Proofs.YteglijkpcgbpnaaW.PrintWords.blk_alloc ?_ _)); exact h_)) : W.heap[g]? = some o := e h
/-- The same, behind a call that keeps what stood. -/
theorem bb_ {w W w1 : World} {g : Nat} {o : Obj} (h : w.heap[g]? = some o) (hb : Below W.heap.size W w1) (e : w.heap[g]? = some o → W.heap[g]? = some o := by (intro h_; (with_reducible repeat (first | refine Go.Proofs.YteglijkpcgbpnaaW.PrintWords.blk_drewN ?_ _ | refine Go.Proofs.YteglijkpcgbpnaaW.PrintWords.blk_drew ?_ | refine Go.Proofs.YteglijkpcgbpnaaW.PrintWords.blk_alloc ?_ _)); exact h_)) : w1.heap[g]? = some o := blk_below (e h) hb
theorem sA {α : Type _} (l : List α) (i : Nat) (a : α) : l.toArray.setIfInBounds i a = (l.set i a).toArray := List.setIfInBounds_toArray ..
theorem sB {α : Type _} (l : List α) (a b : α) : (a :: l).set 0 b = b :: l := rfl
theorem sC {α : Type _} (l : List α) (a b : α) (n : Nat) : (a :: l).set (n + 1) b = a :: l.set n b := rfl
end Go.Proofs.Yteglijkpcgbpnaa.Q
