/- What is proved: store and append of the evaluator. No condition. -/
import Derived.Test.YtdlonbcefhimaaaXD9
namespace Go.Proofs.Ytdlonbcefhimaaa.XD
open Go Go.RowKit
set_option linter.all false

section
variable {P : Program} {C : Ctx} {s : List DV} {a : Act} {w : World} {h : Heap} {o : Oper} {r : DV} {h' : Heap}

theorem mul_lt {i j st L : Nat} (hi : i < L) (hj : j < st) : i * st + j < L * st := by
  have : (i + 1) * st ≤ L * st := Nat.mul_le_mul_right _ hi
  rw [Nat.add_mul] at this
  omega

theorem div_mod_eq {i j st : Nat} (hj : j < st) : (i * st + j) / st = i ∧ (i * st + j) % st = j := by
  constructor
  · rw [Nat.mul_comm, Nat.mul_add_div (by omega), Nat.div_eq_of_lt hj, Nat.add_zero]
  · rw [Nat.mul_comm, Nat.mul_add_mod, Nat.mod_eq_of_lt hj]

theorem idx_inj {i j i' j' st : Nat} (hj : j < st) (hj' : j' < st) (h : i * st + j = i' * st + j') : i = i' ∧ j = j' := by
  have h1 := div_mod_eq (i := i) hj
  have h2 := div_mod_eq (i := i') hj'
  rw [h] at h1
  exact ⟨h1.1.symm.trans h2.1, h1.2.symm.trans h2.2⟩

theorem own_len {b e st L cap n : Nat} {ad : Addr} {xs : List Value} (h : w.ownsRow b e st (.slice (some ad) L cap) n xs) : L = n := by
  rcases h.2 with ⟨hz, _⟩ | ⟨g2, cap2, cur, hz, _⟩
  · cases hz
  · injection hz

theorem sim_store {t : TypeId} {p x : Operand} {p' x' : DX} {sz : Nat} (ho : o.op = .store t p x) (hs : sizeP P t = some sz) (hp : okX p p' = true) (hx : okX x x' = true) (T : TR C s a) (H : WRel C w h)
    (q : opD s h (.store sz p' x') = some (r, h')) : Sim P o a C w r h' := by
  obtain ⟨ti, hti, hsz⟩ := map_some hs
  have hso : (sizeOf t).run P w = .ok sz w := by simp [sizeOf, typeInfo, hti, hsz]
  simp only [opD] at q
  split at q
  · rename_i n i off stamp d hd hdx
    split at q
    · rename_i e st es m hn
      split at q
      · rename_i cs hcs
        split at q
        · rename_i hc
          injection q with q; injection q with q q'
          subst q; subst q'
          obtain ⟨c1, c2, c3, c4⟩ := hc
          obtain ⟨v, hm⟩ := H.named n e st es m hn
          obtain ⟨b1, b2, b3⟩ := (ev_VR T hx hdx).cells c4
          have V := ev_VR T hp hd
          obtain ⟨ad, e1, hh⟩ : ∃ ad, a.eval p = .pointer (some ad) ∧ ∀ v e st' L min, C.μ n = some (.row v e st' L min) → stamp ≤ L ∧ (min ≤ stamp → i < stamp ∧ ∃ g cap, v = .slice (some ⟨g, 0, none⟩) L cap ∧ ad = ⟨g, i * st' + off, none⟩) := by
            generalize a.eval p = vx at V
            cases V with
            | ptr _ _ _ _ ad hn hh => exact ⟨ad, rfl, hh⟩
          obtain ⟨k1, k2⟩ := hh v e st _ m hm
          obtain ⟨k3, g, cap, hv, rfl⟩ := k2 c1
          obtain ⟨es', xs, a1, a2, a3, a4, a5, a6, a7⟩ := H.arr n v e st _ m hm
          rw [hn] at a1
          injection a1 with a1
          injection a1 with x0 x1 x2 x3
          subst x2
          have hi := (List.getElem?_eq_some_iff.1 hcs).1
          have hcl : cs.length = st := a5 cs (List.mem_of_getElem? hcs)
          subst hv
          rcases a4.2 with ⟨hz, _⟩ | ⟨g', cap', cur, hz, _, hg, hnc, hcm, hcz, htk⟩
          · cases hz
          · injection hz with z1 z2 z3
            injection z1 with z1
            injection z1 with z1
            subst z1; subst z3
            have hle : i * st + off + d.cells.length ≤ es.length * st := by
              have : (i + 1) * st ≤ es.length * st := Nat.mul_le_mul_right _ hi
              rw [Nat.add_mul] at this
              omega
            have hcur : es.length * st ≤ cur.size := by rw [hcz]; exact Nat.mul_le_mul_right _ hnc
            have hst := run_storeCells_at P g (i * st + off) e (a.eval x).cells.toList 0 cur w hg (by simp [b1]; omega) b2
            simp only [Nat.add_zero] at hst
            let cur' : List Value := splice cur.toList (i * st + off) (a.eval x).cells.toList
            have hcur' : (cur.toList.take (i * st + off) ++ (a.eval x).cells.toList ++ cur.toList.drop (i * st + off + (a.eval x).cells.toList.length)) = cur' := by simp [cur', splice, List.append_assoc]
            rw [hcur'] at hst
            have hfit : i * st + off + (a.eval x).cells.toList.length ≤ cur.toList.length := by simp [b1]; omega
            have hlen' : cur'.length = cur.size := by have := splice_length hfit; simpa using this
            have hr : (execOp a.eval o).run P w = .ok .skip (w.setRow g cur'.toArray) := by
              simp only [execOp, ho, Instr.storeAt, Instr.sureAddr, e1, Sem.run_bind, Sem.run_pure, Result.andThen_ok, storeVar, hso]
              rw [if_neg (by rw [b1, c2]; simp)]
              rw [hst]
              rfl
            have hown : (w.setRow g cur'.toArray).ownsRow 0 e st (.slice (some ⟨g, 0, none⟩) es.length cap) (es.set i (splice cs off d.cells)).length (cur'.take (es.length * st)) := by
              refine ⟨by simp [hlen']; omega, .inr ⟨g, cap, cur'.toArray, by simp, Nat.zero_le _, setRow_heap w g cur _ e _ hg, by simpa using hnc, hcm, by simp [hlen', hcz], by simp⟩⟩
            have hgrow : w.grownBy (w.setRow g cur'.toArray) (Value.slice (some ⟨g, 0, none⟩) es.length cap).ownBlock := ⟨rfl, rfl, rfl, by simp, fun k _ hk => setRow_other w g k _ (fun e => hk (by simp [Value.ownBlock, e]))⟩
            have hsl : off + d.cells.length ≤ cs.length := by omega
            obtain ⟨W, S⟩ := H.upd (m' := m) (es := es.set i (splice cs off d.cells)) hm hgrow hown (.inl rfl) (by simpa using a3) (.inl ⟨rfl, by simp, rfl⟩) (fun y hy => by
                rcases List.mem_or_eq_of_mem_set hy with hy | hy
                · exact a5 y hy
                · rw [hy, splice_length hsl]; exact hcl)
              (fun y hy => by
                rcases List.mem_or_eq_of_mem_set hy with hy | hy
                · exact a6 y hy
                · rw [hy]; exact splice_one (a6 cs (List.mem_of_getElem? hcs)) (fun c p => List.all_eq_true.1 c4 c p))
              (fun i' j y c p p' => by
                have hi' : i' < es.length := by have := (List.getElem?_eq_some_iff.1 p).1; simpa using this
                have hyl : y.length = st := by
                  have hy := List.mem_of_getElem? p
                  rcases List.mem_or_eq_of_mem_set hy with hy | hy
                  · exact a5 y hy
                  · rw [hy, splice_length hsl]; exact hcl
                have hj : j < st := by have := (List.getElem?_eq_some_iff.1 p').1; omega
                have hlt := mul_lt hi' hj
                have hold : ∀ c', (es[i']?.bind (·[j]?)) = some c' → ∃ u, cur.toList[i' * st + j]? = some u ∧ VR C c' u := fun c' hc' => by
                  rw [List.getElem?_eq_getElem hi'] at hc'
                  obtain ⟨u, hu, hV⟩ := a7 i' j _ c' (List.getElem?_eq_getElem hi') hc'
                  refine ⟨u, ?_, hV⟩
                  rw [← htk, List.getElem?_take, if_pos hlt] at hu
                  exact hu
                rw [List.getElem?_take, if_pos hlt]
                show ∃ u, (splice cur.toList (i * st + off) (a.eval x).cells.toList)[i' * st + j]? = some u ∧ VR C c u
                rw [splice_get hfit]
                by_cases hii : i' = i
                · subst hii
                  rw [List.getElem?_set_self hi'] at p
                  injection p with p
                  subst p
                  rw [splice_get hsl] at p'
                  simp only [Array.length_toList, b1]
                  by_cases hjo : off ≤ j ∧ j < off + d.cells.length
                  · rw [if_pos hjo] at p'
                    rw [if_pos ⟨by omega, by omega⟩]
                    obtain ⟨u, hu, hV⟩ := b3 _ _ p'
                    exact ⟨u, by rw [show i' * st + j - (i' * st + off) = j - off by omega]; simpa using hu, hV⟩
                  · rw [if_neg hjo] at p'
                    rw [if_neg (by omega)]
                    exact hold c (by rw [hcs]; exact p')
                · rw [List.getElem?_set_ne (Ne.symm hii)] at p
                  rw [if_neg]
                  · exact hold c (by rw [p]; exact p')
                  · rintro ⟨h5, h6⟩
                    simp only [Array.length_toList, b1] at h6
                    have hx1 : (i' * st + j) / st = i := Nat.div_eq_of_lt_le (by omega) (by rw [Nat.add_mul]; omega)
                    rw [(div_mod_eq hj).1] at hx1
                    exact hii hx1)
            refine ⟨undef, _, _, .inr ⟨rfl, hr⟩, ?_, S, ?_⟩
            · exact W
            · exact .tup [] #[] rfl (fun i c v p => by simp at p)
        · cases q
      · cases q
    · cases q
  · cases q

/-! ### append -/

/-- The elements of a slice, in the machine. -/
theorem elems_run (H : WRel C w h) {d : DV} {u : Value} (hd : VR C d u) {ys : List (List DV)} (he : elems h d = some ys) {st : Nat} (hl : ∀ y ∈ ys, y.length = st) :
    (∀ y ∈ ys, ∀ c ∈ y, c.one = true) ∧ ∃ (cap : Nat) (news : List Value), (∀ n ∈ news, Value.oneCell' n = true) ∧ news.length = ys.length * st ∧ (∀ (i j : Nat) y c, ys[i]? = some y → y[j]? = some c → ∃ u, news[i * st + j]? = some u ∧ VR C c u) ∧
      ((ys = [] ∧ ∃ a, u = .slice a 0 cap) ∨ ∃ ad, u = .slice (some ad) ys.length cap ∧ ∀ (j : Nat) v, news[j]? = some v → w.cell? (ad.add j) = some v) := by
  have build : ∀ (g off : Nat), (∀ y ∈ ys, ∀ c ∈ y, c.one = true) → (∀ (i j : Nat) y c, ys[i]? = some y → y[j]? = some c → ∃ u, w.cell? ⟨g, off + (i * st + j), none⟩ = some u ∧ VR C c u) →
      ∃ news : List Value, (∀ n ∈ news, Value.oneCell' n = true) ∧ news.length = ys.length * st ∧ (∀ (i j : Nat) y c, ys[i]? = some y → y[j]? = some c → ∃ u, news[i * st + j]? = some u ∧ VR C c u) ∧ ∀ (j : Nat) v, news[j]? = some v → w.cell? ((⟨g, off, none⟩ : Addr).add j) = some v := fun g off h1 hc => by
    obtain ⟨news, n1, n2⟩ := collect (fun k u => w.cell? ⟨g, off + k, none⟩ = some u ∧ ∃ c, ys.flatten[k]? = some c ∧ VR C c u ∧ c.one = true) (ys.length * st) (fun k hk => by
      have hst : 0 < st := by
        rcases Nat.eq_zero_or_pos st with z | z
        · subst z; simp at hk
        · exact z
      have hi : k / st < ys.length := Nat.div_lt_of_lt_mul (by rw [Nat.mul_comm]; exact hk)
      have hj : k % st < st := Nat.mod_lt _ hst
      have hkk : k / st * st + k % st = k := by rw [Nat.mul_comm]; exact Nat.div_add_mod k st
      have hy := List.getElem?_eq_getElem hi
      have hyl : ys[k / st].length = st := hl _ (List.getElem_mem hi)
      have hc' := List.getElem?_eq_getElem (l := ys[k / st]) (i := k % st) (by omega)
      obtain ⟨u, hu, hV⟩ := hc _ _ _ _ hy hc'
      rw [hkk] at hu
      have hf := flat_get hl _ _ _ _ hy hc'
      rw [hkk] at hf
      exact ⟨u, hu, _, hf, hV, h1 _ (List.getElem_mem hi) _ (List.getElem_mem _)⟩)
    refine ⟨news, fun n hn => ?_, n1, fun i j y c p p' => ?_, fun j v q => by rw [add_at]; exact (n2 j v q).1⟩
    · obtain ⟨k, hk, rfl⟩ := List.getElem_of_mem hn
      obtain ⟨_, c, _, hV, h1⟩ := n2 k _ (List.getElem?_eq_getElem hk)
      exact hV.one h1
    · have hi := (List.getElem?_eq_some_iff.1 p).1
      have hj : j < st := by have := (List.getElem?_eq_some_iff.1 p').1; have := hl y (List.mem_of_getElem? p); omega
      have hk : i * st + j < news.length := by rw [n1]; exact mul_lt hi hj
      obtain ⟨_, c', hf, hV, _⟩ := n2 _ _ (List.getElem?_eq_getElem hk)
      rw [flat_get hl i j y c p p'] at hf
      injection hf with hf
      subst hf
      exact ⟨_, List.getElem?_eq_getElem hk, hV⟩
  cases d with
  | ro t es =>
    simp only [elems, Option.some.injEq] at he
    subst he
    cases hd with
    | roE _ ad cap _ => exact ⟨fun y hy => by simp at hy, cap, [], fun n hn => by simp at hn, by simp, fun i j y c p => by simp at p, .inl ⟨rfl, ad, rfl⟩⟩
    | ro _ st' es b off cap vals hl' h1 hc h2 hF hh =>
      refine ⟨h1, cap, ?_⟩
      cases es with
      | nil => exact ⟨[], fun n hn => by simp at hn, by simp, fun i j y c p => by simp at p, .inl ⟨rfl, _, rfl⟩⟩
      | cons e0 es0 =>
        have hst : st' = st := by rw [← hl' e0 (by simp), hl e0 (by simp)]
        subst hst
        obtain ⟨news, n1, n2, n3, n4⟩ := build b off h1 (fun i j y c p p' => ⟨vals i j, by rw [← Nat.add_assoc]; exact H.F _ _ _ _ (hF i j y c p p'), hh i j y c p p'⟩)
        exact ⟨news, n1, n2, n3, .inr ⟨⟨b, off, none⟩, rfl, n4⟩⟩
  | nsl n i len =>
    simp only [elems] at he
    split at he
    · rename_i e st' es m hn
      split at he
      · rename_i hc
        injection he with he
        subst he
        obtain ⟨v, hm, hnx, hp⟩ := nsl_part H hd hn hc.1
        obtain ⟨es', xs, a1, a2, a3, a4, a5, a6, a7⟩ := H.arr n v e st' _ m hm
        rw [hn] at a1
        injection a1 with a1
        injection a1 with x0 x1 x2 x3
        subst x2
        have h1 : ∀ y ∈ (es.drop i).take len, ∀ c ∈ y, c.one = true := fun y hy => a6 y (List.mem_of_mem_drop (List.mem_of_mem_take hy))
        have hlen : ((es.drop i).take len).length = len := by simp; omega
        rcases hp.slice with ⟨hv0, hi1, hlz, hu0⟩ | ⟨g, L, cap, ad, hv, hu, q1, q2, q3, q4, q5⟩
        · subst hlz
          exact ⟨h1, 0, [], fun n hn => by simp at hn, by simp, fun i j y c p => by simp at p, .inl ⟨by simp, none, hu0⟩⟩
        · refine ⟨h1, cap - i, ?_⟩
          by_cases hz : len = 0
          · subst hz
            exact ⟨[], fun n hn => by simp at hn, by simp, fun i j y c p => by simp at p, .inl ⟨by simp, ad, hu⟩⟩
          · have had := q4.resolve_left (by omega)
            subst had
            have hst : st' = st := by
              have hmem : ((es.drop i).take len)[0]? = some es[i] := by
                rw [List.getElem?_take, if_pos (by omega), List.getElem?_drop, Nat.add_zero]
                exact List.getElem?_eq_getElem (by omega)
              have h5 := hl _ (List.mem_of_getElem? hmem)
              have h6 := a5 es[i] (List.getElem_mem _)
              omega
            subst hst
            obtain ⟨news, n1, n2, n3, n4⟩ := build g (i * st') h1 (fun i' j y c p p' => by
              rw [List.getElem?_take] at p
              split at p
              · rw [List.getElem?_drop] at p
                obtain ⟨_, _, b3⟩ := H.elem hn p hm (by rw [hv]; rw [hv] at a4; rw [own_len a4])
                obtain ⟨u, hu', hV⟩ := b3 j c p'
                exact ⟨u, by rw [show i * st' + (i' * st' + j) = (i + i') * st' + j by rw [Nat.add_mul]; omega]; exact hu', hV⟩
              · cases p)
            refine ⟨news, n1, n2, n3, .inr ⟨⟨g, i * st', none⟩, by rw [hlen]; exact hu, n4⟩⟩
      · cases he
    · cases he
  | _ => simp [elems] at he

theorem all_len {ys : List (List DV)} {st : Nat} (h : ys.all (fun e => e.length == st) = true) : ∀ y ∈ ys, y.length = st := fun y hy => by
  simpa using List.all_eq_true.1 h y hy

/-- Nothing appended. -/
theorem run_append_none {t e ty : TypeId} {st b : Nat} (he : elemP P t = some (e, st, b)) (base ad : Option Addr) (sl sc c : Nat) (hsc : sl ≤ sc) :
    (Builtin.append_ #[t, t] ty #[.slice base sl sc, .slice ad 0 c]).run P w = .ok (.slice base sl sc) w := by
  obtain ⟨hu, ti, hti, hs, hb⟩ := elemP_run he
  cases base <;> cases ad <;> simp [Builtin.append_, run_underlying hu, sizeOf, typeInfo, hti, Builtin.lenOf, hsc, Builtin.firstCells, loadCells, loadCellsFrom, storeCells]

/-- Append onto a row of one's own: where the new row lies. -/
theorem run_append_where {t ty e : TypeId} {i : TypeInfo} {z : Value} {size : Nat} (ht : P.underlying t = some (.slice e)) (hi : P.info? e = some i) (hz : i.zero = some z) (hs : i.size = size) (hzs : z.cells.size = size) (h0 : 0 < size)
    {v : Value} {n : Nat} {xs : List Value} (hown : w.ownsRow 0 e size v n xs) (ad : Addr) (m c : Nat) (news : List Value) (hl : news.length = m * size) (hnews : ∀ j u, news[j]? = some u → w.cell? (ad.add j) = some u) (h1 : ∀ u ∈ news, u.oneCell' = true)
    (hm : 0 < m) (h63 : n + m ≤ maxLen) (hby : (n + m) * i.bytes ≤ 140737488355328) :
    ∃ v' w', (Builtin.append_ #[t, t] ty #[v, .slice (some ad) m c]).run P w = .ok v' w' ∧ w'.ownsRow 0 e size v' (n + m) (xs ++ news) ∧ w.grownBy w' v.ownBlock ∧ (v'.ownBlock = v.ownBlock ∨ ∀ g, v'.ownBlock = some g → w.heap.size ≤ g) := by
  have hsm : ∀ {b : Nat} {v' : Value} {w' : World} {k : Nat} {ys : List Value}, w'.ownsRow b e size v' k ys → w'.ownsRow 0 e size v' k ys := fun hh => by
    refine ⟨hh.1, ?_⟩
    rcases hh.2 with q | ⟨g, cap, cur, q, _, r⟩
    · exact .inl q
    · exact .inr ⟨g, cap, cur, q, Nat.zero_le _, r⟩
  obtain ⟨v', w', hr, k1, k2, _⟩ := run_append_own (P := P) w 0 t ty e i z size i.bytes ht hi hz hs rfl hzs h0 v n xs hown ad m c news hl hnews h1 h63 hby (Nat.zero_le _)
  refine ⟨v', w', hr, k1, k2, ?_⟩
  rcases hown.2 with ⟨rfl, rfl⟩ | ⟨g, cap, cur, rfl, hb, hg, hnc, hcm, hcz, htk⟩
  · have hx : xs = [] := List.eq_nil_of_length_eq_zero (by simpa using hown.1)
    subst hx
    obtain ⟨v2, w2, hr2, k3, _, _⟩ := run_append_own (P := P) w w.heap.size t ty e i z size i.bytes ht hi hz hs rfl hzs h0 _ 0 [] (World.ownsRow_nil w w.heap.size e size) ad m c news hl hnews h1 h63 hby (Nat.le_refl _)
    rw [hr] at hr2
    injection hr2 with q1 q2
    subst q1; subst q2
    exact .inr fun g hg => (k3.lt g hg).1
  · by_cases hroom : n + m ≤ cap
    · have hfit : n * i.size + news.length ≤ cur.size := by
        rw [hl, hcz, hs, ← Nat.add_mul]
        exact Nat.mul_le_mul_right _ hroom
      have hr2 := run_append_room (P := P) w t ty e i ht hi g n cap cur hg ad m c news (by rw [hl, hs]) hnews h1 hroom hfit
      rw [hr] at hr2
      injection hr2 with q1 q2
      subst q1
      exact .inl rfl
    · have hr2 := run_append_grow (P := P) w t ty e i z ht hi hz ⟨g, 0, none⟩ n cap xs (by rw [hown.1, hs]) (hown.cells (g := g) rfl) ad m c news (by rw [hl, hs]) hnews (by omega) (by simp only [maxLen] at h63; omega) (growslice_fits (by omega) hby)
      rw [hr] at hr2
      injection hr2 with q1 q2
      subst q1
      exact .inr fun g hg => by simp [Value.ownBlock] at hg; omega

theorem sim_app {t e : TypeId} {st b : Nat} {c : Call} {x y : Operand} {x' y' : DX} (ho : o.op = .call c) (h1 : c.callee = .builtin .append) (h2 : c.args.toList = [x, y]) (h3 : c.argTypes.toList = [t, t]) (hx : okX x x' = true) (hy : okX y y' = true) (he : elemP P t = some (e, st, b)) (h0 : st ≠ 0)
    {zs : List Value} (hz : zeroP P e = some zs) (hzl : zs.length = st) (T : TR C s a) (H : WRel C w h) (q : opD s h (.app e st b x' y') = some (r, h')) : Sim P o a C w r h' := by
  have h2' : c.args = #[x, y] := by apply Array.toList_inj.1; simpa using h2
  have h3' : c.argTypes = #[t, t] := by apply Array.toList_inj.1; simpa using h3
  obtain ⟨hu, ti, hti, hs, hb⟩ := elemP_run he
  obtain ⟨ti', zv, z1, z2, z3⟩ := zeroP_run hz
  have hii : ti' = ti := by rw [z1] at hti; injection hti
  subst hii
  have hzc : zv.cells.size = st := by rw [← hzl, ← z3]; simp
  have exec : ∀ v w', (Builtin.append_ #[t, t] o.type #[a.eval x, a.eval y]).run P w = .ok v w' → (execOp a.eval o).run P w = .ok (.value v) w' := fun v w' hr => by
    simp [execOp, ho, h1, h2', h3', resolve, invoke, builtin, hr]
  simp only [opD] at q
  split at q
  · cases q
  · rename_i yd hyd
    split at q
    · cases q
    · rename_i ys hys
      split at q
      · rename_i n i len hd
        split at q
        · rename_i e' st' es m hn
          split at q
          · rename_i hc
            obtain ⟨c1, c2, c0, c3, c4, c5, c6, c7⟩ := hc
            subst c1; subst c3; subst c0
            have hl := all_len c7
            obtain ⟨y1, capy, news, n1, n2, n3, n4⟩ := elems_run H (ev_VR T hy hyd) hys hl
            have V := ev_VR T hx hd
            obtain ⟨v, hm, hnx, hp⟩ := nsl_part H V hn (by omega)
            have hpx := hp.slice
            have hax : a.eval x = v := by
              rcases hpx with ⟨q1, _, _, q2⟩ | ⟨g, L, cap, ad, q1, q2, q3, q4, q5, q6, q7⟩
              · rw [q1, q2]
              · obtain ⟨es', xs, a1, a2, a3, a4, _⟩ := H.arr n v e' st' _ m hm
                have hLL : L = es.length := by
                  rcases a4.2 with ⟨hz, _⟩ | ⟨g2, cap2, cur, hz, _⟩
                  · rw [q1] at hz; cases hz
                  · rw [q1] at hz; injection hz with w1 w2 w3; rw [w2]; omega
                rw [q1, q2, q7 rfl, hLL, c2]; simp
            split at q
            · rename_i hys0
              have hys' : ys = [] := List.eq_nil_of_length_eq_zero hys0
              injection q with q; injection q with q q'
              subst q; subst q'
              obtain ⟨ay, hay⟩ : ∃ ay, a.eval y = .slice ay 0 capy := by
                rcases n4 with ⟨_, h⟩ | ⟨ad, h, _⟩
                · exact h
                · rw [hys0] at h; exact ⟨_, h⟩
              obtain ⟨bx, sc, hbx, hsc⟩ : ∃ bx sc, a.eval x = .slice bx len sc ∧ len ≤ sc := by
                rcases hpx with ⟨_, _, q3, q2⟩ | ⟨g, L, cap, ad, q1, q2, q3, q4, q5, q6, q7⟩
                · exact ⟨none, 0, by rw [q2, q3], by omega⟩
                · exact ⟨ad, cap - 0, q2, q3⟩
              refine Sim.pure H (v := a.eval x) (exec _ _ ?_) V
              rw [hbx, hay]
              exact run_append_none he bx ay len sc capy hsc
            · rename_i hys0
              injection q with q; injection q with q q'
              subst q; subst q'
              obtain ⟨es', xs, a1, a2, a3, a4, a5, a6, a7⟩ := H.arr n v e' st' _ m hm
              rw [hn] at a1
              injection a1 with a1
              injection a1 with x0 x1 x2 x3
              subst x2
              obtain ⟨ady, hay, hnews⟩ : ∃ ad, a.eval y = .slice (some ad) ys.length capy ∧ ∀ (j : Nat) v, news[j]? = some v → w.cell? (ad.add j) = some v := by
                rcases n4 with ⟨hz, _⟩ | h
                · rw [hz] at hys0; exact absurd rfl hys0
                · exact h
              have hyp : 0 < ys.length := by omega
              obtain ⟨v', w', hr, hown, hgr, hnb⟩ := run_append_where (P := P) (ty := o.type) hu hti z2 hs hzc (by omega) a4 ady ys.length capy news n2 hnews n1 hyp (by simp only [maxLen]; omega) (by rw [hb, ← c2]; exact c5)
              have hlen' : (es ++ ys).length = es.length + ys.length := by simp
              obtain ⟨W, S⟩ := H.upd (m' := es.length + ys.length) (es := es ++ ys) hm hgr (by rw [hlen']; exact hown) hnb (by simp) (.inr ⟨by omega, by simp⟩) (fun y hy => by
                  rcases List.mem_append.1 hy with hy | hy
                  · exact a5 y hy
                  · exact hl y hy)
                (fun y hy => by
                  rcases List.mem_append.1 hy with hy | hy
                  · exact a6 y hy
                  · exact y1 y hy)
                (fun i j y c p p' => by
                  have hxs : xs.length = es.length * st' := a4.1
                  rcases Nat.lt_or_ge i es.length with hi | hi
                  · rw [List.getElem?_append_left hi] at p
                    obtain ⟨u, hu', hV⟩ := a7 i j y c p p'
                    have hj : j < st' := by have := (List.getElem?_eq_some_iff.1 p').1; have := a5 y (List.mem_of_getElem? p); omega
                    exact ⟨u, by rw [List.getElem?_append_left (by rw [hxs]; exact mul_lt hi hj)]; exact hu', hV⟩
                  · rw [List.getElem?_append_right hi] at p
                    obtain ⟨u, hu', hV⟩ := n3 _ j y c p p'
                    have : es.length * st' ≤ i * st' := Nat.mul_le_mul_right _ hi
                    have h7 : (i - es.length) * st' = i * st' - es.length * st' := Nat.sub_mul i es.length st'
                    refine ⟨u, ?_, hV⟩
                    rw [List.getElem?_append_right (by rw [hxs]; omega), hxs, show i * st' + j - es.length * st' = (i - es.length) * st' + j by omega]
                    exact hu')
              rw [hlen'] at W S
              rw [c2]
              refine ⟨v', w', _, .inl (exec _ _ (by rw [hax, hay]; exact hr)), W, S, ?_⟩
              rcases hown.2 with ⟨_, hz0⟩ | ⟨g2, cap2, cur2, hz2, _, _, hnc2, _⟩
              · omega
              · refine .nsl _ _ _ _ hnx ⟨_, _, hz2⟩ (fun v3 e3 st3 L3 m3 hm3 => ?_)
                simp only [Ctx.put, if_true] at hm3
                injection hm3 with hm3
                injection hm3 with x1 x2 x3 x4 x5
                subst x1; subst x4
                exact ⟨by omega, fun _ => .inr ⟨g2, _, cap2, _, hz2, by rw [hz2]; rfl, by omega, hnc2, .inr (by simp), fun _ => rfl⟩⟩
          · cases q
        · cases q
      · rename_i es hd
        split at q
        · rename_i hc
          obtain ⟨c5, c6, c7, c8⟩ := hc
          have hl := all_len c7
          have hlx := all_len c8
          have V := ev_VR T hx hd
          obtain ⟨y1, capy, news, n1, n2, n3, n4⟩ := elems_run H (ev_VR T hy hyd) hys hl
          obtain ⟨x1, capx, olds, p1, p2, p3, p4⟩ := elems_run H V (ys := es) rfl hlx
          obtain ⟨bx, hax⟩ : ∃ bx, a.eval x = .slice bx es.length es.length := by
            generalize a.eval x = vx at V
            cases V with
            | roE _ ad cap h2 => exact ⟨ad, by rw [h2 rfl]; rfl⟩
            | ro _ _ _ b off cap vals _ _ _ h2 _ _ => exact ⟨_, by rw [h2 rfl]⟩
          split at q
          · rename_i hys0
            injection q with q; injection q with q q'
            subst q; subst q'
            have hys' : ys = [] := List.eq_nil_of_length_eq_zero hys0
            obtain ⟨ay, hay⟩ : ∃ ay, a.eval y = .slice ay 0 capy := by
              rcases n4 with ⟨_, h⟩ | ⟨ad, h, _⟩
              · exact h
              · rw [hys0] at h; exact ⟨_, h⟩
            refine Sim.pure H (v := a.eval x) (exec _ _ ?_) V
            rw [hax, hay]
            exact run_append_none he bx ay _ _ capy (Nat.le_refl _)
          · rename_i hys0
            injection q with q; injection q with q q'
            subst q; subst q'
            obtain ⟨ady, hay, hnews⟩ : ∃ ad, a.eval y = .slice (some ad) ys.length capy ∧ ∀ (j : Nat) v, news[j]? = some v → w.cell? (ad.add j) = some v := by
              rcases n4 with ⟨hz, _⟩ | h
              · rw [hz] at hys0; exact absurd rfl hys0
              · exact h
            have hr : ∃ cap', es.length + ys.length ≤ cap' ∧ cap' ≤ maxLen ∧ (Builtin.append_ #[t, t] o.type #[a.eval x, a.eval y]).run P w = .ok (.slice (some ⟨w.heap.size, 0, none⟩) (es.length + ys.length) cap')
                (w.drew.alloc (.cells (olds.toArray ++ news.toArray ++ Builtin.zeroCells zv.cells (cap' - (es.length + ys.length))) e)) := by
              refine ⟨grownCap w (es.length + ys.length) es.length e, grownCap_ge _ _ _ _, grownCap_le_maxLen _ _ _ _ (by simp only [maxLen]; omega), ?_⟩
              rw [hax, hay]
              cases bx with
              | none =>
                have hes : es.length = 0 := by
                  rcases p4 with ⟨hz, _⟩ | ⟨ad, hz, _⟩
                  · rw [hz]; rfl
                  · rw [hax] at hz; cases hz
                have hes' : es = [] := List.eq_nil_of_length_eq_zero hes
                subst hes'
                have ho' : olds = [] := List.eq_nil_of_length_eq_zero (by simpa using p2)
                subst ho'
                have := run_append_nil (P := P) w t o.type e ti' zv hu z1 z2 ady ys.length capy news (by rw [n2, hs]) hnews (by omega) (by omega) (by rw [hb]; simp at c5; omega)
                simpa using this
              | some ax =>
                have holds : ∀ (j : Nat) v, olds[j]? = some v → w.cell? (ax.add j) = some v := by
                  rcases p4 with ⟨hz, _⟩ | ⟨ad, hz, hc⟩
                  · intro j v q
                    rw [hz] at p2
                    have : olds = [] := List.eq_nil_of_length_eq_zero (by simpa using p2)
                    rw [this] at q
                    simp at q
                  · rw [hax] at hz
                    injection hz with hz
                    injection hz with hz
                    subst hz
                    exact hc
                exact run_append_grow (P := P) w t o.type e ti' zv hu z1 z2 ax es.length es.length olds (by rw [p2, hs]) holds ady ys.length capy news (by rw [n2, hs]) hnews (by omega) (by omega) (growslice_fits (by omega) (by rw [hb]; exact c5))
            obtain ⟨cap', k1, k2, k3⟩ := hr
            have hgr : w.grownBy (w.drew.alloc (.cells (olds.toArray ++ news.toArray ++ Builtin.zeroCells zv.cells (cap' - (es.length + ys.length))) e)) none := ⟨rfl, rfl, rfl, by simp, fun k hk _ => (World.grownBy_alloc w.drew _ none).block k hk (by simp)⟩
            have hlen' : (es ++ ys).length = es.length + ys.length := by simp
            have hown : (w.drew.alloc (.cells (olds.toArray ++ news.toArray ++ Builtin.zeroCells zv.cells (cap' - (es.length + ys.length))) e)).ownsRow w.heap.size e st (.slice (some ⟨w.heap.size, 0, none⟩) (es.length + ys.length) cap') (es ++ ys).length (olds ++ news) := by
              refine ⟨by rw [hlen', List.length_append, p2, n2, Nat.add_mul], .inr ⟨w.heap.size, cap', _, by rw [hlen'], Nat.le_refl _, heap_alloc_new w.drew _, by rw [hlen']; exact k1, k2, ?_, ?_⟩⟩
              · simp only [Array.size_append, List.size_toArray, size_zeroCells, hzc, p2, n2, ← Nat.add_mul]
                congr 1
                omega
              · simp only [Array.toList_append, List.append_assoc]
                rw [← List.append_assoc, show (es ++ ys).length * st = (olds ++ news).length by rw [hlen', List.length_append, p2, n2, Nat.add_mul]]
                exact List.take_left
            obtain ⟨W, S⟩ := H.add (m := 0) hgr hown (Nat.zero_le _) (fun y hy => by
                rcases List.mem_append.1 hy with hy | hy
                · exact hlx y hy
                · exact hl y hy)
              (fun y hy => by
                rcases List.mem_append.1 hy with hy | hy
                · exact x1 y hy
                · exact y1 y hy)
              (fun i j y c p p' => by
                rcases Nat.lt_or_ge i es.length with hi | hi
                · rw [List.getElem?_append_left hi] at p
                  obtain ⟨u, hu', hV⟩ := p3 i j y c p p'
                  have hj : j < st := by have := (List.getElem?_eq_some_iff.1 p').1; have := hlx y (List.mem_of_getElem? p); omega
                  exact ⟨u, by rw [List.getElem?_append_left (by rw [p2]; exact mul_lt hi hj)]; exact hu', hV⟩
                · rw [List.getElem?_append_right hi] at p
                  obtain ⟨u, hu', hV⟩ := n3 _ j y c p p'
                  have : es.length * st ≤ i * st := Nat.mul_le_mul_right _ hi
                  have h7 : (i - es.length) * st = i * st - es.length * st := Nat.sub_mul i es.length st
                  refine ⟨u, ?_, hV⟩
                  rw [List.getElem?_append_right (by rw [p2]; omega), p2, show i * st + j - es.length * st = (i - es.length) * st + j by omega]
                  exact hu')
            refine ⟨_, _, _, .inl (exec _ _ k3), W, S, ?_⟩
            refine .nsl _ _ _ _ (by simp only [Ctx.add, H.nx]; omega) ⟨_, _, rfl⟩ (fun v3 e3 st3 L3 m3 hm3 => ?_)
            simp only [Ctx.add] at hm3
            rw [if_pos H.nx.symm] at hm3
            injection hm3 with hm3
            injection hm3 with x1 x2 x3 x4 x5
            subst x1; subst x4
            exact ⟨by omega, fun _ => .inr ⟨w.heap.size, _, cap', _, rfl, rfl, by omega, k1, .inr (by simp), fun _ => rfl⟩⟩
        · cases q
      · cases q

end

end Go.Proofs.Ytdlonbcefhimaaa.XD
