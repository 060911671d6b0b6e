-- Written by a program of this session over the kit's print. Lean checks it.
import Derived.Test.YtbgaoidihgpldabQx0
import Derived.Test.YtbgaoidihgpldabQx3
import Derived.Test.YtbgaoidihgpldabQx4
import Derived.Test.YtbgaoidihgpldabQx10
import Derived.Test.YtbgaoidihgpldabQx11
namespace Go.Proofs.Ytbgaoidihgpldab.Q
open Go.RowKit Go.Proofs.YtbgaoidihgpldabW.PrintWords Go.Proofs.YtbgaoidihgpldabW.PrintLast Go.Proofs.YtbgaoidihgpldabW.PrintMore
attribute [local go_sem] max2_int min2_int max_two min_two max_three min_three max_four min_four   -- for this text's walks alone
set_option linter.unusedVariables false
set_option linter.unusedSimpArgs false

/-! ### laws_FnSpanIn: function 5 -/
mutual
def laws_FnSpanIn.j0 : Nat → Bool → Bool → Bool → Int → Int → Bool → Int → Int → Option (Bool)
  | 0, _, _, _, _, _, _, _, _ => none
  | k + 1, x5, x33, x287000, x287001, x287002, x288000, x288001, x288002 => if x33 = true then ((spec_SpanIn.f x287000 x287001 x287002 x288000 x288001 x288002).bind fun t292 => (some (x5 == t292))) else (laws_FnSpanIn.l0 k x5 true (-16) x287000 x287001 x287002 x288000 x288001 x288002)
def laws_FnSpanIn.l0 : Nat → Bool → Bool → Int → Bool → Int → Int → Bool → Int → Int → Option (Bool)
  | 0, _, _, _, _, _, _, _, _, _ => none
  | k + 1, x5, x6, x7, x287000, x287001, x287002, x288000, x288001, x288002 => if x7 ≤ 15 then (if x6 = true then ((impl_SpanHas.f x287000 x287001 x287002 x7).bind fun t293 => (if t293 = true then ((impl_SpanHas.f x288000 x288001 x288002 x7).bind fun t294 => (laws_FnSpanIn.l0 k x5 t294 (wrap64 (x7 + 1)) x287000 x287001 x287002 x288000 x288001 x288002)) else (laws_FnSpanIn.l0 k x5 true (wrap64 (x7 + 1)) x287000 x287001 x287002 x288000 x288001 x288002))) else (laws_FnSpanIn.l0 k x5 false (wrap64 (x7 + 1)) x287000 x287001 x287002 x288000 x288001 x288002)) else (some (x5 == x6))
end
def laws_FnSpanIn.f (k : Nat) (l0 : List Int) : Option (Bool) := if (l0.length : Int) > 1048576 then (some true) else ((spec_DrawSpanIn.f k l0).bind fun bt280 => ((impl_SpanIn.f bt280.1 bt280.2.1 bt280.2.2.1 bt280.2.2.2.1 bt280.2.2.2.2.1 bt280.2.2.2.2.2).bind fun t288 => ((spec_SpanIn.f bt280.1 bt280.2.1 bt280.2.2.1 bt280.2.2.2.1 bt280.2.2.2.2.1 bt280.2.2.2.2.2).bind fun t289 => (if (t288 != t289) = true then (laws_FnSpanIn.j0 k t288 true bt280.1 bt280.2.1 bt280.2.2.1 bt280.2.2.2.1 bt280.2.2.2.2.1 bt280.2.2.2.2.2) else ((spec_SpanOk.f bt280.1 bt280.2.1 bt280.2.2.1).bind fun t290 => (if t290 = true then ((spec_SpanOk.f bt280.2.2.2.1 bt280.2.2.2.2.1 bt280.2.2.2.2.2).bind fun t291 => (laws_FnSpanIn.j0 k t288 (!t291) bt280.1 bt280.2.1 bt280.2.2.1 bt280.2.2.2.1 bt280.2.2.2.2.1 bt280.2.2.2.2.2)) else (laws_FnSpanIn.j0 k t288 true bt280.1 bt280.2.1 bt280.2.2.1 bt280.2.2.2.1 bt280.2.2.2.2.1 bt280.2.2.2.2.2)))))))
theorem laws_FnSpanIn.mono_l : ∀ k, (∀ y0 y1 y2 y3 y4 y5 y6 y7, LeO (laws_FnSpanIn.j0 k y0 y1 y2 y3 y4 y5 y6 y7) (laws_FnSpanIn.j0 (k + 1) y0 y1 y2 y3 y4 y5 y6 y7)) ∧ (∀ y0 y1 y2 y3 y4 y5 y6 y7 y8, LeO (laws_FnSpanIn.l0 k y0 y1 y2 y3 y4 y5 y6 y7 y8) (laws_FnSpanIn.l0 (k + 1) y0 y1 y2 y3 y4 y5 y6 y7 y8))
  | 0 => ⟨fun _ _ _ _ _ _ _ _ r h => by simp [laws_FnSpanIn.j0] at h, fun _ _ _ _ _ _ _ _ _ r h => by simp [laws_FnSpanIn.l0] at h⟩
  | k + 1 => by
    obtain ⟨ih0, ih1⟩ := laws_FnSpanIn.mono_l k
    refine ⟨?_, ?_⟩
    · intro y0 y1 y2 y3 y4 y5 y6 y7
      unfold laws_FnSpanIn.j0
      repeat' first
      | (with_reducible exact ih0 _ _ _ _ _ _ _ _)
      | (with_reducible exact ih1 _ _ _ _ _ _ _ _ _)
      | (with_reducible exact spec_DrawSpanIn.mono _ _)
      | (with_reducible exact LeO.refl _)
      | (with_reducible exact LeO.none _)
      | (with_reducible refine LeO.ite ?_ ?_)
      | (with_reducible refine LeO.bind ?_ (fun _ => ?_))
      | exact ih0 _ _ _ _ _ _ _ _
      | exact ih1 _ _ _ _ _ _ _ _ _
      | exact spec_DrawSpanIn.mono _ _
      | exact LeO.none _
      | refine LeO.ite ?_ ?_
      | refine LeO.bind ?_ (fun _ => ?_)
    · intro y0 y1 y2 y3 y4 y5 y6 y7 y8
      unfold laws_FnSpanIn.l0
      repeat' first
      | (with_reducible exact ih0 _ _ _ _ _ _ _ _)
      | (with_reducible exact ih1 _ _ _ _ _ _ _ _ _)
      | (with_reducible exact spec_DrawSpanIn.mono _ _)
      | (with_reducible exact LeO.refl _)
      | (with_reducible exact LeO.none _)
      | (with_reducible refine LeO.ite ?_ ?_)
      | (with_reducible refine LeO.bind ?_ (fun _ => ?_))
      | exact ih0 _ _ _ _ _ _ _ _
      | exact ih1 _ _ _ _ _ _ _ _ _
      | exact spec_DrawSpanIn.mono _ _
      | exact LeO.none _
      | refine LeO.ite ?_ ?_
      | refine LeO.bind ?_ (fun _ => ?_)
theorem laws_FnSpanIn.mono : ∀ a0 k, LeO (laws_FnSpanIn.f k a0) (laws_FnSpanIn.f (k + 1) a0) := by
  intro a0 k
  obtain ⟨ih0, ih1⟩ := laws_FnSpanIn.mono_l k
  unfold laws_FnSpanIn.f
  repeat' first
      | (with_reducible exact ih0 _ _ _ _ _ _ _ _)
      | (with_reducible exact ih1 _ _ _ _ _ _ _ _ _)
      | (with_reducible exact spec_DrawSpanIn.mono _ _)
      | (with_reducible exact LeO.refl _)
      | (with_reducible exact LeO.none _)
      | (with_reducible refine LeO.ite ?_ ?_)
      | (with_reducible refine LeO.bind ?_ (fun _ => ?_))
      | exact ih0 _ _ _ _ _ _ _ _
      | exact ih1 _ _ _ _ _ _ _ _ _
      | exact spec_DrawSpanIn.mono _ _
      | exact LeO.none _
      | refine LeO.ite ?_ ?_
      | refine LeO.bind ?_ (fun _ => ?_)
set_option maxHeartbeats 8000000 in
set_option maxRecDepth 100000 in
theorem laws_FnSpanIn.calls (k : Nat) (A0 : Option Addr) (c0 : Nat) (l0 : List Int) (r : Bool) (w : World) (hr0 : Kd.C (Kd.int .u8) w A0 l0.length l0) (hc0 : l0.length ≤ c0) (h : laws_FnSpanIn.f k l0 = some r) :
    Calls Try.prog 5 #[.slice A0 l0.length c0] w fun e w' => e = .returned (.bool r) ∧ Below w.heap.size w w' := by
  have hu25 := Try.underlying25
  have HR0 := Aside0.mk hr0
  have HC0 := Aside0.mk hc0
  clear hr0 hc0
  have HB := Aside0.mk (Below.refl w.heap.size w)
  have H : (if (l0.length : Int) > 1048576 then (some true) else ((spec_DrawSpanIn.f k l0).bind fun bt280 => ((impl_SpanIn.f bt280.1 bt280.2.1 bt280.2.2.1 bt280.2.2.2.1 bt280.2.2.2.2.1 bt280.2.2.2.2.2).bind fun t288 => ((spec_SpanIn.f bt280.1 bt280.2.1 bt280.2.2.1 bt280.2.2.2.1 bt280.2.2.2.2.1 bt280.2.2.2.2.2).bind fun t289 => (if (t288 != t289) = true then (laws_FnSpanIn.j0 k t288 true bt280.1 bt280.2.1 bt280.2.2.1 bt280.2.2.2.1 bt280.2.2.2.2.1 bt280.2.2.2.2.2) else ((spec_SpanOk.f bt280.1 bt280.2.1 bt280.2.2.1).bind fun t290 => (if t290 = true then ((spec_SpanOk.f bt280.2.2.2.1 bt280.2.2.2.2.1 bt280.2.2.2.2.2).bind fun t291 => (laws_FnSpanIn.j0 k t288 (!t291) bt280.1 bt280.2.1 bt280.2.2.1 bt280.2.2.2.1 bt280.2.2.2.2.1 bt280.2.2.2.2.2)) else (laws_FnSpanIn.j0 k t288 true bt280.1 bt280.2.1 bt280.2.2.1 bt280.2.2.2.1 bt280.2.2.2.2.1 bt280.2.2.2.2.2)))))))) = some r := h
  clear h
  by_cases c2 : (l0.length : Int) > 1048576
  · rw [if_pos c2] at H
    have c2b0 : decide (1048576 < (l0.length : Int)) = true := decide_eq_true c2
    have c2b1 : decide (1048576 < l0.length) = true := decide_eq_true (by omega)
    clear c2
    obtain rfl := Option.some.inj H
    go_enter Try.func5, Try.ntmps5
    go_wp2
    go_ret
    exact ⟨by first | rfl | (simp [errW_none, errW_some] <;> rfl) | (simp [*, errW_none, errW_some] <;> rfl), by repeat (first | (with_reducible first | exact HB.out | apply below_alloc | apply pw_below_drewN | apply below_drew1) | exact HB.out)⟩
  · rw [if_neg c2] at H
    have c2b0 : decide (1048576 < (l0.length : Int)) = false := decide_eq_false c2
    have c2b1 : decide (1048576 < l0.length) = false := decide_eq_false (by omega)
    clear c2
    replace H := Option.bind_eq_some_iff.mp H
    obtain ⟨⟨t280, t281, t282, t283, t284, t285⟩, A30, H⟩ := H
    replace H : ((impl_SpanIn.f t280 t281 t282 t283 t284 t285).bind fun t288 => ((spec_SpanIn.f t280 t281 t282 t283 t284 t285).bind fun t289 => (if (t288 != t289) = true then (laws_FnSpanIn.j0 k t288 true t280 t281 t282 t283 t284 t285) else ((spec_SpanOk.f t280 t281 t282).bind fun t290 => (if t290 = true then ((spec_SpanOk.f t283 t284 t285).bind fun t291 => (laws_FnSpanIn.j0 k t288 (!t291) t280 t281 t282 t283 t284 t285)) else (laws_FnSpanIn.j0 k t288 true t280 t281 t282 t283 t284 t285)))))) = some r := H
    have A3 := Aside0.mk A30
    clear A30
    replace H := Option.bind_eq_some_iff.mp H
    obtain ⟨t288, A40, H⟩ := H
    replace H : ((spec_SpanIn.f t280 t281 t282 t283 t284 t285).bind fun t289 => (if (t288 != t289) = true then (laws_FnSpanIn.j0 k t288 true t280 t281 t282 t283 t284 t285) else ((spec_SpanOk.f t280 t281 t282).bind fun t290 => (if t290 = true then ((spec_SpanOk.f t283 t284 t285).bind fun t291 => (laws_FnSpanIn.j0 k t288 (!t291) t280 t281 t282 t283 t284 t285)) else (laws_FnSpanIn.j0 k t288 true t280 t281 t282 t283 t284 t285))))) = some r := H
    have A4 := Aside0.mk A40
    clear A40
    have HC5 := Aside0.mk H
    clear H
    go_enter Try.func5, Try.ntmps5
    go_upto_region 5 with (first | ((with_reducible refine gate_callee (f := 19) rfl ?_); refine goesL_ (some 13) rfl rfl Try.func19 (by kernel_rfl) rfl #[.slice A0 l0.length c0] rfl (by (try simp only [List.map_toArray, List.map_cons, List.map_nil]); first | done | rfl | (simp only [List.length_drop, List.length_take]; rfl)) ?_; (with_reducible refine (spec_DrawSpanIn.calls k _ _ l0 t280 t281 t282 t283 t284 t285 _ ?side1 ?side2 A3.out).mono ?_); (case side1 => repeat (first | exact HR0.out | (with_reducible refine Kd.C_alloc ?_ _) | (with_reducible refine Kd.C_drewN ?_ _) | (with_reducible refine Kd.C_drew ?_))); (case side2 => exact HC0.out); rintro e w6 ⟨rfl, hb⟩; refine ⟨_, rfl, ?_⟩; have n0_ := Aside0.mk (below_step (by repeat (first | (with_reducible first | exact HB.out | apply below_alloc | apply pw_below_drewN | apply below_drew1) | exact HB.out)) hb); clear HB; have HB := n0_; clear n0_; (try clear hb); (try clear hb2); (try clear hk); (try clear hi)) | ((with_reducible refine gate_dst (N := 3) rfl ?_); refine box_event ?hg (N := 3) ?hd (cs := #[.bool false, .int .i64 0, .int .i64 0]) (t := 25) ?hr ?_; (case hd => rfl); (case hg => rfl); (case hr => first | (go_simp; done) | (go_simp; rfl)); intro gb286 hg w7 hbox hb; have n0_ := Aside0.mk (below_step (by repeat (first | (with_reducible first | exact HB.out | apply below_alloc | apply pw_below_drewN | apply below_drew1) | exact HB.out)) hb); have n1_ := Aside0.mk (hbox); have n2_ := Aside0.mk ((by rw [hg]; exact (below_size (by repeat (first | (with_reducible first | exact HB.out | apply below_alloc | apply pw_below_drewN | apply below_drew1) | exact HB.out))) : w.heap.size ≤ gb286)); have n3_ := Aside0.mk ((by rw [hg]; exact (below_size (by repeat (first | (with_reducible first | exact HB.out | apply below_alloc | apply pw_below_drewN | apply below_drew1) | exact HB.out))) : w.heap.size ≤ gb286)); clear HB; have HB := n0_; have BK286 := n1_; have GW286 := n2_; have GE286 := n3_; clear n0_ n1_ n2_ n3_; clear hb hbox hg) | ((with_reducible refine gate_dst (N := 4) rfl ?_); refine box_event ?hg (N := 4) ?hd (cs := #[.bool false, .int .i64 0, .int .i64 0]) (t := 25) ?hr ?_; (case hd => rfl); (case hg => rfl); (case hr => first | (go_simp; done) | (go_simp; rfl)); intro gb287 hg w8 hbox hb; have n0_ := Aside0.mk (blk_below (g := gb286) (o := .cells #[.bool false, .int .i64 0, .int .i64 0] 25 (0, 0)) (by (with_reducible repeat (first | refine blk_drewN ?_ _ | refine blk_drew ?_ | refine blk_alloc ?_ _)); exact BK286.out) hb); have n1_ := Aside0.mk (below_step (by repeat (first | (with_reducible first | exact HB.out | apply below_alloc | apply pw_below_drewN | apply below_drew1 | refine below_set ?_ GE286.out) | exact HB.out)) hb); have n2_ := Aside0.mk (hbox); have n3_ := Aside0.mk ((by rw [hg]; exact (below_size (by repeat (first | (with_reducible first | exact HB.out | apply below_alloc | apply pw_below_drewN | apply below_drew1 | refine below_set ?_ GE286.out) | exact HB.out))) : w.heap.size ≤ gb287)); have n4_ := Aside0.mk ((by rw [hg]; exact (below_size (by repeat (first | (with_reducible first | exact HB.out | apply below_alloc | apply pw_below_drewN | apply below_drew1 | refine below_set ?_ GE286.out) | exact HB.out))) : w.heap.size ≤ gb287)); have n5_ := Aside0.mk ((by rw [hg]; exact Nat.ne_of_lt (blk_lt (g := gb286) (o := .cells #[.bool false, .int .i64 0, .int .i64 0] 25 (0, 0)) (by (with_reducible repeat (first | refine blk_drewN ?_ _ | refine blk_drew ?_ | refine blk_alloc ?_ _)); exact BK286.out)) : gb286 ≠ gb287)); have n6_ := Aside0.mk ((by rw [hg]; exact Nat.ne_of_gt (blk_lt (g := gb286) (o := .cells #[.bool false, .int .i64 0, .int .i64 0] 25 (0, 0)) (by (with_reducible repeat (first | refine blk_drewN ?_ _ | refine blk_drew ?_ | refine blk_alloc ?_ _)); exact BK286.out)) : gb287 ≠ gb286)); clear BK286; clear HB; have BK286 := n0_; have HB := n1_; have BK287 := n2_; have GW287 := n3_; have GE287 := n4_; have NB286_287 := n5_; have NB287_286 := n6_; clear n0_ n1_ n2_ n3_ n4_ n5_ n6_; clear hb hbox hg; have hnb9 := NB286_287.out; have hnc9 := NB287_286.out; have hcz10_0 : w8.cell? ⟨gb286, 0, none⟩ = some (.bool false) := (blk_cell BK286.out 0).trans rfl; have hcz10_1 : w8.cell? ⟨gb286, 1, none⟩ = some (.int .i64 0) := (blk_cell BK286.out 1).trans rfl; have hcz10_2 : w8.cell? ⟨gb286, 2, none⟩ = some (.int .i64 0) := (blk_cell BK286.out 2).trans rfl; have hfz10_0 := blk_frozen BK286.out 0; have hfz10_1 := blk_frozen BK286.out 1; have hfz10_2 := blk_frozen BK286.out 2; have hcz11_0 : w8.cell? ⟨gb287, 0, none⟩ = some (.bool false) := (blk_cell BK287.out 0).trans rfl; have hcz11_1 : w8.cell? ⟨gb287, 1, none⟩ = some (.int .i64 0) := (blk_cell BK287.out 1).trans rfl; have hcz11_2 : w8.cell? ⟨gb287, 2, none⟩ = some (.int .i64 0) := (blk_cell BK287.out 2).trans rfl; have hfz11_0 := blk_frozen BK287.out 0; have hfz11_1 := blk_frozen BK287.out 1; have hfz11_2 := blk_frozen BK287.out 2) | ((with_reducible refine gate_callee (f := 20) rfl ?_); refine goesL_ (some 18) rfl rfl Try.func20 (by kernel_rfl) rfl #[.agg #[.bool t280, .int .i64 t281, .int .i64 t282], .agg #[.bool t283, .int .i64 t284, .int .i64 t285]] rfl (by (try simp only [List.map_toArray, List.map_cons, List.map_nil]); first | done | rfl | (simp only [List.length_drop, List.length_take]; rfl)) ?_; (with_reducible refine (impl_SpanIn.calls t280 t281 t282 t283 t284 t285 t288 _ A4.out).mono ?_); rintro e w12 ⟨rfl, hb⟩; refine ⟨_, rfl, ?_⟩; have n0_ := Aside0.mk (blk_below (g := gb286) (o := .cells #[.bool t280, .int .i64 t281, .int .i64 t282] 25 (0, 0)) (by (with_reducible repeat (first | refine blk_drewN ?_ _ | refine blk_drew ?_ | refine blk_alloc ?_ _)); refine blk_far ?_ NB286_287.out _; (with_reducible repeat (first | refine blk_drewN ?_ _ | refine blk_drew ?_ | refine blk_alloc ?_ _)); refine blk_far ?_ NB286_287.out _; (with_reducible repeat (first | refine blk_drewN ?_ _ | refine blk_drew ?_ | refine blk_alloc ?_ _)); refine blk_far ?_ NB286_287.out _; (with_reducible repeat (first | refine blk_drewN ?_ _ | refine blk_drew ?_ | refine blk_alloc ?_ _)); refine blk_put (cs := #[.bool t280, .int .i64 t281, .int .i64 0]) ?_ 2 _ rfl; (with_reducible repeat (first | refine blk_drewN ?_ _ | refine blk_drew ?_ | refine blk_alloc ?_ _)); refine blk_put (cs := #[.bool t280, .int .i64 0, .int .i64 0]) ?_ 1 _ rfl; (with_reducible repeat (first | refine blk_drewN ?_ _ | refine blk_drew ?_ | refine blk_alloc ?_ _)); refine blk_put (cs := #[.bool false, .int .i64 0, .int .i64 0]) ?_ 0 _ rfl; (with_reducible repeat (first | refine blk_drewN ?_ _ | refine blk_drew ?_ | refine blk_alloc ?_ _)); exact BK286.out) hb); have n1_ := Aside0.mk (blk_below (g := gb287) (o := .cells #[.bool t283, .int .i64 t284, .int .i64 t285] 25 (0, 0)) (by (with_reducible repeat (first | refine blk_drewN ?_ _ | refine blk_drew ?_ | refine blk_alloc ?_ _)); refine blk_put (cs := #[.bool t283, .int .i64 t284, .int .i64 0]) ?_ 2 _ rfl; (with_reducible repeat (first | refine blk_drewN ?_ _ | refine blk_drew ?_ | refine blk_alloc ?_ _)); refine blk_put (cs := #[.bool t283, .int .i64 0, .int .i64 0]) ?_ 1 _ rfl; (with_reducible repeat (first | refine blk_drewN ?_ _ | refine blk_drew ?_ | refine blk_alloc ?_ _)); refine blk_put (cs := #[.bool false, .int .i64 0, .int .i64 0]) ?_ 0 _ rfl; (with_reducible repeat (first | refine blk_drewN ?_ _ | refine blk_drew ?_ | refine blk_alloc ?_ _)); refine blk_far ?_ NB287_286.out _; (with_reducible repeat (first | refine blk_drewN ?_ _ | refine blk_drew ?_ | refine blk_alloc ?_ _)); refine blk_far ?_ NB287_286.out _; (with_reducible repeat (first | refine blk_drewN ?_ _ | refine blk_drew ?_ | refine blk_alloc ?_ _)); refine blk_far ?_ NB287_286.out _; (with_reducible repeat (first | refine blk_drewN ?_ _ | refine blk_drew ?_ | refine blk_alloc ?_ _)); exact BK287.out) hb); have n2_ := Aside0.mk (below_step (by repeat (first | (with_reducible first | exact HB.out | apply below_alloc | apply pw_below_drewN | apply below_drew1 | refine below_set ?_ GE286.out | refine below_set ?_ GE287.out) | exact HB.out)) hb); clear BK286; clear BK287; clear HB; have BK286 := n0_; have BK287 := n1_; have HB := n2_; clear n0_ n1_ n2_; (try clear hb); (try clear hb2); (try clear hk); (try clear hi)))
    (try simp only [Act.put, List.setIfInBounds_toArray, List.set_cons_zero, List.set_cons_succ])
    go_cut [33] (fun v33 wc => ∃ (kq : Nat) (x33_4 : Bool), v33 = .bool x33_4 ∧ Aside0 (laws_FnSpanIn.j0 kq t288 x33_4 t280 t281 t282 t283 t284 t285 = some r) ∧ Aside0 (kq ≤ k) ∧ Aside0 (wc.heap[gb286]? = some (.cells #[.bool t280, .int .i64 t281, .int .i64 t282] 25 (0, 0))) ∧ Aside0 (wc.heap[gb287]? = some (.cells #[.bool t283, .int .i64 t284, .int .i64 t285] 25 (0, 0))) ∧ Aside0 (Below w.heap.size w wc))
    case first =>
      have H := HC5.out
      clear HC5
      replace H := Option.bind_eq_some_iff.mp H
      obtain ⟨t289, A130, H⟩ := H
      replace H : (if (t288 != t289) = true then (laws_FnSpanIn.j0 k t288 true t280 t281 t282 t283 t284 t285) else ((spec_SpanOk.f t280 t281 t282).bind fun t290 => (if t290 = true then ((spec_SpanOk.f t283 t284 t285).bind fun t291 => (laws_FnSpanIn.j0 k t288 (!t291) t280 t281 t282 t283 t284 t285)) else (laws_FnSpanIn.j0 k t288 true t280 t281 t282 t283 t284 t285)))) = some r := H
      have A13 := Aside0.mk A130
      clear A130
      by_cases c14 : (t288 != t289) = true
      · rw [if_pos c14] at H
        have c14b0 : (t288 != t289) = true := c14
        (try (have c14b1 : decide (t288 = t289) = false := by simpa using c14))
        (try (have c14b2 : (t288 == t289) = false := by simpa using c14))
        (try (have c14b3 : ¬ (t288 = t289) := by simpa using c14))
        clear c14
        (first | rw [c14b0] | (simp only [i64_w, i32_w]; rw [c14b0]) | skip)
        have H' := Aside0.mk H
        clear H
        have hnb15 := NB286_287.out
        have hnc15 := NB287_286.out
        have hcz16_0 : w12.cell? ⟨gb286, 0, none⟩ = some (.bool t280) := (blk_cell BK286.out 0).trans rfl
        have hcz16_1 : w12.cell? ⟨gb286, 1, none⟩ = some (.int .i64 t281) := (blk_cell BK286.out 1).trans rfl
        have hcz16_2 : w12.cell? ⟨gb286, 2, none⟩ = some (.int .i64 t282) := (blk_cell BK286.out 2).trans rfl
        have hfz16_0 := blk_frozen BK286.out 0
        have hfz16_1 := blk_frozen BK286.out 1
        have hfz16_2 := blk_frozen BK286.out 2
        have hcz17_0 : w12.cell? ⟨gb287, 0, none⟩ = some (.bool t283) := (blk_cell BK287.out 0).trans rfl
        have hcz17_1 : w12.cell? ⟨gb287, 1, none⟩ = some (.int .i64 t284) := (blk_cell BK287.out 1).trans rfl
        have hcz17_2 : w12.cell? ⟨gb287, 2, none⟩ = some (.int .i64 t285) := (blk_cell BK287.out 2).trans rfl
        have hfz17_0 := blk_frozen BK287.out 0
        have hfz17_1 := blk_frozen BK287.out 1
        have hfz17_2 := blk_frozen BK287.out 2
        go_wp2_with (first | ((with_reducible refine gate_callee (f := 21) rfl ?_); refine goesL_ (some 22) rfl rfl Try.func21 (by kernel_rfl) rfl #[.agg #[.bool t280, .int .i64 t281, .int .i64 t282], .agg #[.bool t283, .int .i64 t284, .int .i64 t285]] rfl (by (try simp only [List.map_toArray, List.map_cons, List.map_nil]); first | done | rfl | (simp only [List.length_drop, List.length_take]; rfl)) ?_; (with_reducible refine (spec_SpanIn.calls t280 t281 t282 t283 t284 t285 t289 _ A13.out).mono ?_); rintro e w18 ⟨rfl, hb⟩; refine ⟨_, rfl, ?_⟩; have n0_ := Aside0.mk (blk_below (g := gb286) (o := .cells #[.bool t280, .int .i64 t281, .int .i64 t282] 25 (0, 0)) (by (with_reducible repeat (first | refine blk_drewN ?_ _ | refine blk_drew ?_ | refine blk_alloc ?_ _)); exact BK286.out) hb); have n1_ := Aside0.mk (blk_below (g := gb287) (o := .cells #[.bool t283, .int .i64 t284, .int .i64 t285] 25 (0, 0)) (by (with_reducible repeat (first | refine blk_drewN ?_ _ | refine blk_drew ?_ | refine blk_alloc ?_ _)); exact BK287.out) hb); have n2_ := Aside0.mk (below_step (by repeat (first | (with_reducible first | exact HB.out | apply below_alloc | apply pw_below_drewN | apply below_drew1 | refine below_set ?_ GE286.out | refine below_set ?_ GE287.out) | exact HB.out)) hb); clear BK286; clear BK287; clear HB; have BK286 := n0_; have BK287 := n1_; have HB := n2_; clear n0_ n1_ n2_; (try clear hb); (try clear hb2); (try clear hk); (try clear hi)))
        go_meet
        case rel => exact ⟨_, (true), (by first | rfl | (simp; done) | (simp [*]; done)), H', ⟨by first | omega | exact Nat.le_refl _⟩, ⟨by (with_reducible repeat (first | refine blk_drewN ?_ _ | refine blk_drew ?_ | refine blk_alloc ?_ _)); exact BK286.out⟩, ⟨by (with_reducible repeat (first | refine blk_drewN ?_ _ | refine blk_drew ?_ | refine blk_alloc ?_ _)); exact BK287.out⟩, ⟨by repeat (first | (with_reducible first | exact HB.out | apply below_alloc | apply pw_below_drewN | apply below_drew1 | refine below_set ?_ GE286.out | refine below_set ?_ GE287.out) | exact HB.out)⟩⟩
      · rw [if_neg c14] at H
        have c14b0 : (t288 != t289) = false := by simpa using c14
        (try (have c14b1 : decide (t288 = t289) = true := by simpa using c14))
        (try (have c14b2 : (t288 == t289) = true := by simpa using c14))
        clear c14
        (first | rw [c14b0] | (simp only [i64_w, i32_w]; rw [c14b0]) | skip)
        replace H := Option.bind_eq_some_iff.mp H
        obtain ⟨t290, A190, H⟩ := H
        replace H : (if t290 = true then ((spec_SpanOk.f t283 t284 t285).bind fun t291 => (laws_FnSpanIn.j0 k t288 (!t291) t280 t281 t282 t283 t284 t285)) else (laws_FnSpanIn.j0 k t288 true t280 t281 t282 t283 t284 t285)) = some r := H
        have A19 := Aside0.mk A190
        clear A190
        by_cases c20 : t290 = true
        · subst c20
          have H1 : ((spec_SpanOk.f t283 t284 t285).bind fun t291 => (laws_FnSpanIn.j0 k t288 (!t291) t280 t281 t282 t283 t284 t285)) = some r := by rw [if_pos rfl] at H; exact H
          clear H
          have H := H1
          clear H1
          replace H := Option.bind_eq_some_iff.mp H
          obtain ⟨t291, A210, H⟩ := H
          replace H : (laws_FnSpanIn.j0 k t288 (!t291) t280 t281 t282 t283 t284 t285) = some r := H
          have A21 := Aside0.mk A210
          clear A210
          have H' := Aside0.mk H
          clear H
          have hnb22 := NB286_287.out
          have hnc22 := NB287_286.out
          have hcz23_0 : w12.cell? ⟨gb286, 0, none⟩ = some (.bool t280) := (blk_cell BK286.out 0).trans rfl
          have hcz23_1 : w12.cell? ⟨gb286, 1, none⟩ = some (.int .i64 t281) := (blk_cell BK286.out 1).trans rfl
          have hcz23_2 : w12.cell? ⟨gb286, 2, none⟩ = some (.int .i64 t282) := (blk_cell BK286.out 2).trans rfl
          have hfz23_0 := blk_frozen BK286.out 0
          have hfz23_1 := blk_frozen BK286.out 1
          have hfz23_2 := blk_frozen BK286.out 2
          have hcz24_0 : w12.cell? ⟨gb287, 0, none⟩ = some (.bool t283) := (blk_cell BK287.out 0).trans rfl
          have hcz24_1 : w12.cell? ⟨gb287, 1, none⟩ = some (.int .i64 t284) := (blk_cell BK287.out 1).trans rfl
          have hcz24_2 : w12.cell? ⟨gb287, 2, none⟩ = some (.int .i64 t285) := (blk_cell BK287.out 2).trans rfl
          have hfz24_0 := blk_frozen BK287.out 0
          have hfz24_1 := blk_frozen BK287.out 1
          have hfz24_2 := blk_frozen BK287.out 2
          go_wp2_with (first | ((with_reducible refine gate_callee (f := 21) rfl ?_); refine goesL_ (some 22) rfl rfl Try.func21 (by kernel_rfl) rfl #[.agg #[.bool t280, .int .i64 t281, .int .i64 t282], .agg #[.bool t283, .int .i64 t284, .int .i64 t285]] rfl (by (try simp only [List.map_toArray, List.map_cons, List.map_nil]); first | done | rfl | (simp only [List.length_drop, List.length_take]; rfl)) ?_; (with_reducible refine (spec_SpanIn.calls t280 t281 t282 t283 t284 t285 t289 _ A13.out).mono ?_); rintro e w25 ⟨rfl, hb⟩; refine ⟨_, rfl, ?_⟩; have n0_ := Aside0.mk (blk_below (g := gb286) (o := .cells #[.bool t280, .int .i64 t281, .int .i64 t282] 25 (0, 0)) (by (with_reducible repeat (first | refine blk_drewN ?_ _ | refine blk_drew ?_ | refine blk_alloc ?_ _)); exact BK286.out) hb); have n1_ := Aside0.mk (blk_below (g := gb287) (o := .cells #[.bool t283, .int .i64 t284, .int .i64 t285] 25 (0, 0)) (by (with_reducible repeat (first | refine blk_drewN ?_ _ | refine blk_drew ?_ | refine blk_alloc ?_ _)); exact BK287.out) hb); have n2_ := Aside0.mk (below_step (by repeat (first | (with_reducible first | exact HB.out | apply below_alloc | apply pw_below_drewN | apply below_drew1 | refine below_set ?_ GE286.out | refine below_set ?_ GE287.out) | exact HB.out)) hb); clear BK286; clear BK287; clear HB; have BK286 := n0_; have BK287 := n1_; have HB := n2_; clear n0_ n1_ n2_; (try clear hb); (try clear hb2); (try clear hk); (try clear hi); have hcz26_0 : w25.cell? ⟨gb286, 0, none⟩ = some (.bool t280) := (blk_cell BK286.out 0).trans rfl; have hcz26_1 : w25.cell? ⟨gb286, 1, none⟩ = some (.int .i64 t281) := (blk_cell BK286.out 1).trans rfl; have hcz26_2 : w25.cell? ⟨gb286, 2, none⟩ = some (.int .i64 t282) := (blk_cell BK286.out 2).trans rfl; have hfz26_0 := blk_frozen BK286.out 0; have hfz26_1 := blk_frozen BK286.out 1; have hfz26_2 := blk_frozen BK286.out 2) | (go_at_call 22; (with_reducible refine (spec_SpanOk.calls t280 t281 t282 true _ A19.out).mono ?_); rintro e w27 ⟨rfl, hb⟩; have n0_ := Aside0.mk (blk_below (g := gb286) (o := .cells #[.bool t280, .int .i64 t281, .int .i64 t282] 25 (0, 0)) (by (with_reducible repeat (first | refine blk_drewN ?_ _ | refine blk_drew ?_ | refine blk_alloc ?_ _)); exact BK286.out) hb); have n1_ := Aside0.mk (blk_below (g := gb287) (o := .cells #[.bool t283, .int .i64 t284, .int .i64 t285] 25 (0, 0)) (by (with_reducible repeat (first | refine blk_drewN ?_ _ | refine blk_drew ?_ | refine blk_alloc ?_ _)); exact BK287.out) hb); have n2_ := Aside0.mk (below_step (by repeat (first | (with_reducible first | exact HB.out | apply below_alloc | apply pw_below_drewN | apply below_drew1 | refine below_set ?_ GE286.out | refine below_set ?_ GE287.out) | exact HB.out)) hb); clear BK286; clear BK287; clear HB; have BK286 := n0_; have BK287 := n1_; have HB := n2_; clear n0_ n1_ n2_; (try clear hb); (try clear hb2); (try clear hk); (try clear hi); have hcz28_0 : w27.cell? ⟨gb287, 0, none⟩ = some (.bool t283) := (blk_cell BK287.out 0).trans rfl; have hcz28_1 : w27.cell? ⟨gb287, 1, none⟩ = some (.int .i64 t284) := (blk_cell BK287.out 1).trans rfl; have hcz28_2 : w27.cell? ⟨gb287, 2, none⟩ = some (.int .i64 t285) := (blk_cell BK287.out 2).trans rfl; have hfz28_0 := blk_frozen BK287.out 0; have hfz28_1 := blk_frozen BK287.out 1; have hfz28_2 := blk_frozen BK287.out 2) | (go_at_call 22; (with_reducible refine (spec_SpanOk.calls t283 t284 t285 t291 _ A21.out).mono ?_); rintro e w29 ⟨rfl, hb⟩; have n0_ := Aside0.mk (blk_below (g := gb286) (o := .cells #[.bool t280, .int .i64 t281, .int .i64 t282] 25 (0, 0)) (by (with_reducible repeat (first | refine blk_drewN ?_ _ | refine blk_drew ?_ | refine blk_alloc ?_ _)); exact BK286.out) hb); have n1_ := Aside0.mk (blk_below (g := gb287) (o := .cells #[.bool t283, .int .i64 t284, .int .i64 t285] 25 (0, 0)) (by (with_reducible repeat (first | refine blk_drewN ?_ _ | refine blk_drew ?_ | refine blk_alloc ?_ _)); exact BK287.out) hb); have n2_ := Aside0.mk (below_step (by repeat (first | (with_reducible first | exact HB.out | apply below_alloc | apply pw_below_drewN | apply below_drew1 | refine below_set ?_ GE286.out | refine below_set ?_ GE287.out) | exact HB.out)) hb); clear BK286; clear BK287; clear HB; have BK286 := n0_; have BK287 := n1_; have HB := n2_; clear n0_ n1_ n2_; (try clear hb); (try clear hb2); (try clear hk); (try clear hi)))
          go_meet
          case rel => exact ⟨_, (!t291), (by first | rfl | (simp; done) | (simp [*]; done)), H', ⟨by first | omega | exact Nat.le_refl _⟩, ⟨by (with_reducible repeat (first | refine blk_drewN ?_ _ | refine blk_drew ?_ | refine blk_alloc ?_ _)); exact BK286.out⟩, ⟨by (with_reducible repeat (first | refine blk_drewN ?_ _ | refine blk_drew ?_ | refine blk_alloc ?_ _)); exact BK287.out⟩, ⟨by repeat (first | (with_reducible first | exact HB.out | apply below_alloc | apply pw_below_drewN | apply below_drew1 | refine below_set ?_ GE286.out | refine below_set ?_ GE287.out) | exact HB.out)⟩⟩
        · replace c20 := Bool.eq_false_iff.mpr c20
          subst c20
          have H1 : (laws_FnSpanIn.j0 k t288 true t280 t281 t282 t283 t284 t285) = some r := by rw [if_neg (show ¬ (false = true) by decide)] at H; exact H
          clear H
          have H := H1
          clear H1
          have H' := Aside0.mk H
          clear H
          have hnb30 := NB286_287.out
          have hnc30 := NB287_286.out
          have hcz31_0 : w12.cell? ⟨gb286, 0, none⟩ = some (.bool t280) := (blk_cell BK286.out 0).trans rfl
          have hcz31_1 : w12.cell? ⟨gb286, 1, none⟩ = some (.int .i64 t281) := (blk_cell BK286.out 1).trans rfl
          have hcz31_2 : w12.cell? ⟨gb286, 2, none⟩ = some (.int .i64 t282) := (blk_cell BK286.out 2).trans rfl
          have hfz31_0 := blk_frozen BK286.out 0
          have hfz31_1 := blk_frozen BK286.out 1
          have hfz31_2 := blk_frozen BK286.out 2
          have hcz32_0 : w12.cell? ⟨gb287, 0, none⟩ = some (.bool t283) := (blk_cell BK287.out 0).trans rfl
          have hcz32_1 : w12.cell? ⟨gb287, 1, none⟩ = some (.int .i64 t284) := (blk_cell BK287.out 1).trans rfl
          have hcz32_2 : w12.cell? ⟨gb287, 2, none⟩ = some (.int .i64 t285) := (blk_cell BK287.out 2).trans rfl
          have hfz32_0 := blk_frozen BK287.out 0
          have hfz32_1 := blk_frozen BK287.out 1
          have hfz32_2 := blk_frozen BK287.out 2
          go_wp2_with (first | ((with_reducible refine gate_callee (f := 21) rfl ?_); refine goesL_ (some 22) rfl rfl Try.func21 (by kernel_rfl) rfl #[.agg #[.bool t280, .int .i64 t281, .int .i64 t282], .agg #[.bool t283, .int .i64 t284, .int .i64 t285]] rfl (by (try simp only [List.map_toArray, List.map_cons, List.map_nil]); first | done | rfl | (simp only [List.length_drop, List.length_take]; rfl)) ?_; (with_reducible refine (spec_SpanIn.calls t280 t281 t282 t283 t284 t285 t289 _ A13.out).mono ?_); rintro e w33 ⟨rfl, hb⟩; refine ⟨_, rfl, ?_⟩; have n0_ := Aside0.mk (blk_below (g := gb286) (o := .cells #[.bool t280, .int .i64 t281, .int .i64 t282] 25 (0, 0)) (by (with_reducible repeat (first | refine blk_drewN ?_ _ | refine blk_drew ?_ | refine blk_alloc ?_ _)); exact BK286.out) hb); have n1_ := Aside0.mk (blk_below (g := gb287) (o := .cells #[.bool t283, .int .i64 t284, .int .i64 t285] 25 (0, 0)) (by (with_reducible repeat (first | refine blk_drewN ?_ _ | refine blk_drew ?_ | refine blk_alloc ?_ _)); exact BK287.out) hb); have n2_ := Aside0.mk (below_step (by repeat (first | (with_reducible first | exact HB.out | apply below_alloc | apply pw_below_drewN | apply below_drew1 | refine below_set ?_ GE286.out | refine below_set ?_ GE287.out) | exact HB.out)) hb); clear BK286; clear BK287; clear HB; have BK286 := n0_; have BK287 := n1_; have HB := n2_; clear n0_ n1_ n2_; (try clear hb); (try clear hb2); (try clear hk); (try clear hi); have hcz34_0 : w33.cell? ⟨gb286, 0, none⟩ = some (.bool t280) := (blk_cell BK286.out 0).trans rfl; have hcz34_1 : w33.cell? ⟨gb286, 1, none⟩ = some (.int .i64 t281) := (blk_cell BK286.out 1).trans rfl; have hcz34_2 : w33.cell? ⟨gb286, 2, none⟩ = some (.int .i64 t282) := (blk_cell BK286.out 2).trans rfl; have hfz34_0 := blk_frozen BK286.out 0; have hfz34_1 := blk_frozen BK286.out 1; have hfz34_2 := blk_frozen BK286.out 2) | (go_at_call 22; (with_reducible refine (spec_SpanOk.calls t280 t281 t282 false _ A19.out).mono ?_); rintro e w35 ⟨rfl, hb⟩; have n0_ := Aside0.mk (blk_below (g := gb286) (o := .cells #[.bool t280, .int .i64 t281, .int .i64 t282] 25 (0, 0)) (by (with_reducible repeat (first | refine blk_drewN ?_ _ | refine blk_drew ?_ | refine blk_alloc ?_ _)); exact BK286.out) hb); have n1_ := Aside0.mk (blk_below (g := gb287) (o := .cells #[.bool t283, .int .i64 t284, .int .i64 t285] 25 (0, 0)) (by (with_reducible repeat (first | refine blk_drewN ?_ _ | refine blk_drew ?_ | refine blk_alloc ?_ _)); exact BK287.out) hb); have n2_ := Aside0.mk (below_step (by repeat (first | (with_reducible first | exact HB.out | apply below_alloc | apply pw_below_drewN | apply below_drew1 | refine below_set ?_ GE286.out | refine below_set ?_ GE287.out) | exact HB.out)) hb); clear BK286; clear BK287; clear HB; have BK286 := n0_; have BK287 := n1_; have HB := n2_; clear n0_ n1_ n2_; (try clear hb); (try clear hb2); (try clear hk); (try clear hi)))
          go_meet
          case rel => exact ⟨_, (true), (by first | rfl | (simp; done) | (simp [*]; done)), H', ⟨by first | omega | exact Nat.le_refl _⟩, ⟨by (with_reducible repeat (first | refine blk_drewN ?_ _ | refine blk_drew ?_ | refine blk_alloc ?_ _)); exact BK286.out⟩, ⟨by (with_reducible repeat (first | refine blk_drewN ?_ _ | refine blk_drew ?_ | refine blk_alloc ?_ _)); exact BK287.out⟩, ⟨by repeat (first | (with_reducible first | exact HB.out | apply below_alloc | apply pw_below_drewN | apply below_drew1 | refine below_set ?_ GE286.out | refine below_set ?_ GE287.out) | exact HB.out)⟩⟩
    case rest =>
      clear HC5
      try clear c1
      try clear c2
      try clear c2b0
      try clear c2b1
      try clear p2
      try clear c3
      try clear c5
      try clear c9
      try clear c14
      try clear c14b0
      try clear c14b1
      try clear c14b2
      try clear c15
      try clear c19
      try clear c20
      try clear c21
      try clear c22
      try clear c30
      try clear hcz10_0
      try clear hcz10_1
      try clear hcz10_2
      try clear hcz11_0
      try clear hcz11_1
      try clear hcz11_2
      try clear hcz16_0
      try clear hcz16_1
      try clear hcz16_2
      try clear hcz17_0
      try clear hcz17_1
      try clear hcz17_2
      try clear hcz23_0
      try clear hcz23_1
      try clear hcz23_2
      try clear hcz24_0
      try clear hcz24_1
      try clear hcz24_2
      try clear hcz26_0
      try clear hcz26_1
      try clear hcz26_2
      try clear hcz28_0
      try clear hcz28_1
      try clear hcz28_2
      try clear hcz31_0
      try clear hcz31_1
      try clear hcz31_2
      try clear hcz32_0
      try clear hcz32_1
      try clear hcz32_2
      try clear hcz34_0
      try clear hcz34_1
      try clear hcz34_2
      try clear hfz10_0
      try clear hfz10_1
      try clear hfz10_2
      try clear hfz11_0
      try clear hfz11_1
      try clear hfz11_2
      try clear hfz16_0
      try clear hfz16_1
      try clear hfz16_2
      try clear hfz17_0
      try clear hfz17_1
      try clear hfz17_2
      try clear hfz23_0
      try clear hfz23_1
      try clear hfz23_2
      try clear hfz24_0
      try clear hfz24_1
      try clear hfz24_2
      try clear hfz26_0
      try clear hfz26_1
      try clear hfz26_2
      try clear hfz28_0
      try clear hfz28_1
      try clear hfz28_2
      try clear hfz31_0
      try clear hfz31_1
      try clear hfz31_2
      try clear hfz32_0
      try clear hfz32_1
      try clear hfz32_2
      try clear hfz34_0
      try clear hfz34_1
      try clear hfz34_2
      obtain ⟨kq, x33_4, rfl, HA, HJ4, BK286, BK287, HB⟩ := hcut
      cases kq with
      | zero => exact absurd HA.out (by simp [laws_FnSpanIn.j0])
      | succ kj4 =>
        have H := HA.out
        clear HA
        simp only [laws_FnSpanIn.j0] at H
        by_cases c36 : x33_4 = true
        · subst c36
          have H1 : ((spec_SpanIn.f t280 t281 t282 t283 t284 t285).bind fun t292 => (some (t288 == t292))) = some r := by rw [if_pos rfl] at H; exact H
          clear H
          have H := H1
          clear H1
          replace H := Option.bind_eq_some_iff.mp H
          obtain ⟨t292, A370, H⟩ := H
          replace H : (some (t288 == t292)) = some r := H
          have A37 := Aside0.mk A370
          clear A370
          obtain rfl := Option.some.inj H
          have hnb38 := NB286_287.out
          have hnc38 := NB287_286.out
          have hcz39_0 : wc.cell? ⟨gb286, 0, none⟩ = some (.bool t280) := (blk_cell BK286.out 0).trans rfl
          have hcz39_1 : wc.cell? ⟨gb286, 1, none⟩ = some (.int .i64 t281) := (blk_cell BK286.out 1).trans rfl
          have hcz39_2 : wc.cell? ⟨gb286, 2, none⟩ = some (.int .i64 t282) := (blk_cell BK286.out 2).trans rfl
          have hfz39_0 := blk_frozen BK286.out 0
          have hfz39_1 := blk_frozen BK286.out 1
          have hfz39_2 := blk_frozen BK286.out 2
          have hcz40_0 : wc.cell? ⟨gb287, 0, none⟩ = some (.bool t283) := (blk_cell BK287.out 0).trans rfl
          have hcz40_1 : wc.cell? ⟨gb287, 1, none⟩ = some (.int .i64 t284) := (blk_cell BK287.out 1).trans rfl
          have hcz40_2 : wc.cell? ⟨gb287, 2, none⟩ = some (.int .i64 t285) := (blk_cell BK287.out 2).trans rfl
          have hfz40_0 := blk_frozen BK287.out 0
          have hfz40_1 := blk_frozen BK287.out 1
          have hfz40_2 := blk_frozen BK287.out 2
          go_wp2_with (first | ((with_reducible refine gate_callee (f := 21) rfl ?_); refine goesL_ (some 37) rfl rfl Try.func21 (by kernel_rfl) rfl #[.agg #[.bool t280, .int .i64 t281, .int .i64 t282], .agg #[.bool t283, .int .i64 t284, .int .i64 t285]] rfl (by (try simp only [List.map_toArray, List.map_cons, List.map_nil]); first | done | rfl | (simp only [List.length_drop, List.length_take]; rfl)) ?_; (with_reducible refine (spec_SpanIn.calls t280 t281 t282 t283 t284 t285 t292 _ A37.out).mono ?_); rintro e w41 ⟨rfl, hb⟩; refine ⟨_, rfl, ?_⟩; have n0_ := Aside0.mk (blk_below (g := gb286) (o := .cells #[.bool t280, .int .i64 t281, .int .i64 t282] 25 (0, 0)) (by (with_reducible repeat (first | refine blk_drewN ?_ _ | refine blk_drew ?_ | refine blk_alloc ?_ _)); exact BK286.out) hb); have n1_ := Aside0.mk (blk_below (g := gb287) (o := .cells #[.bool t283, .int .i64 t284, .int .i64 t285] 25 (0, 0)) (by (with_reducible repeat (first | refine blk_drewN ?_ _ | refine blk_drew ?_ | refine blk_alloc ?_ _)); exact BK287.out) hb); have n2_ := Aside0.mk (below_step (by repeat (first | (with_reducible first | exact HB.out | apply below_alloc | apply pw_below_drewN | apply below_drew1 | refine below_set ?_ GE286.out | refine below_set ?_ GE287.out) | exact HB.out)) hb); clear BK286; clear BK287; clear HB; have BK286 := n0_; have BK287 := n1_; have HB := n2_; clear n0_ n1_ n2_; (try clear hb); (try clear hb2); (try clear hk); (try clear hi)))
          go_ret
          exact ⟨by first | rfl | (simp [errW_none, errW_some] <;> rfl) | (simp [*, errW_none, errW_some] <;> rfl), by repeat (first | (with_reducible first | exact HB.out | apply below_alloc | apply pw_below_drewN | apply below_drew1 | refine below_set ?_ GE286.out | refine below_set ?_ GE287.out) | exact HB.out)⟩
        · replace c36 := Bool.eq_false_iff.mpr c36
          subst c36
          have H1 : (laws_FnSpanIn.l0 kj4 t288 true (-16) t280 t281 t282 t283 t284 t285) = some r := by rw [if_neg (show ¬ (false = true) by decide)] at H; exact H
          clear H
          have H := H1
          clear H1
          have H' := Aside0.mk H
          clear H
          go_wp2
          go_loopg [6, 7] kj4 (fun kq v6 v7 w' => ∃ (x6_2 : Bool) (x7_2 : Int), v6 = .bool x6_2 ∧ v7 = .int .i64 x7_2 ∧ Aside0 (laws_FnSpanIn.l0 kq t288 x6_2 x7_2 t280 t281 t282 t283 t284 t285 = some r) ∧ Aside0 (kq ≤ kj4) ∧ Aside0 (w'.heap[gb286]? = some (.cells #[.bool t280, .int .i64 t281, .int .i64 t282] 25 (0, 0))) ∧ Aside0 (w'.heap[gb287]? = some (.cells #[.bool t283, .int .i64 t284, .int .i64 t285] 25 (0, 0))) ∧ Aside0 (Below w.heap.size w w'))
          case atStart => exact ⟨(true), ((-16)), (by first | rfl | (simp; done) | (simp [*]; done)), (by first | rfl | (simp; done) | (simp [*]; done)), H', ⟨Nat.le_refl _⟩, ⟨by (with_reducible repeat (first | refine blk_drewN ?_ _ | refine blk_drew ?_ | refine blk_alloc ?_ _)); exact BK286.out⟩, ⟨by (with_reducible repeat (first | refine blk_drewN ?_ _ | refine blk_drew ?_ | refine blk_alloc ?_ _)); exact BK287.out⟩, ⟨by repeat (first | (with_reducible first | exact HB.out | apply below_alloc | apply pw_below_drewN | apply below_drew1 | refine below_set ?_ GE286.out | refine below_set ?_ GE287.out) | exact HB.out)⟩⟩
          case round =>
            clear H'
            try clear c1
            try clear c2
            try clear c2b0
            try clear c2b1
            try clear p2
            try clear c3
            try clear c5
            try clear c9
            try clear c14
            try clear c14b0
            try clear c14b1
            try clear c14b2
            try clear c15
            try clear c19
            try clear c20
            try clear c21
            try clear c22
            try clear c30
            try clear c36
            try clear c38
            try clear hcz10_0
            try clear hcz10_1
            try clear hcz10_2
            try clear hcz11_0
            try clear hcz11_1
            try clear hcz11_2
            try clear hcz16_0
            try clear hcz16_1
            try clear hcz16_2
            try clear hcz17_0
            try clear hcz17_1
            try clear hcz17_2
            try clear hcz23_0
            try clear hcz23_1
            try clear hcz23_2
            try clear hcz24_0
            try clear hcz24_1
            try clear hcz24_2
            try clear hcz26_0
            try clear hcz26_1
            try clear hcz26_2
            try clear hcz28_0
            try clear hcz28_1
            try clear hcz28_2
            try clear hcz31_0
            try clear hcz31_1
            try clear hcz31_2
            try clear hcz32_0
            try clear hcz32_1
            try clear hcz32_2
            try clear hcz34_0
            try clear hcz34_1
            try clear hcz34_2
            try clear hcz39_0
            try clear hcz39_1
            try clear hcz39_2
            try clear hcz40_0
            try clear hcz40_1
            try clear hcz40_2
            try clear hfz10_0
            try clear hfz10_1
            try clear hfz10_2
            try clear hfz11_0
            try clear hfz11_1
            try clear hfz11_2
            try clear hfz16_0
            try clear hfz16_1
            try clear hfz16_2
            try clear hfz17_0
            try clear hfz17_1
            try clear hfz17_2
            try clear hfz23_0
            try clear hfz23_1
            try clear hfz23_2
            try clear hfz24_0
            try clear hfz24_1
            try clear hfz24_2
            try clear hfz26_0
            try clear hfz26_1
            try clear hfz26_2
            try clear hfz28_0
            try clear hfz28_1
            try clear hfz28_2
            try clear hfz31_0
            try clear hfz31_1
            try clear hfz31_2
            try clear hfz32_0
            try clear hfz32_1
            try clear hfz32_2
            try clear hfz34_0
            try clear hfz34_1
            try clear hfz34_2
            try clear hfz39_0
            try clear hfz39_1
            try clear hfz39_2
            try clear hfz40_0
            try clear hfz40_1
            try clear hfz40_2
            try clear p2
            obtain ⟨x6_2, x7_2, rfl, rfl, HA, HK2, BK286, BK287, HB⟩ := hrel
            cases gk with
            | zero => exact absurd HA.out (by simp [laws_FnSpanIn.l0])
            | succ k2 =>
              have H := HA.out
              clear HA
              simp only [laws_FnSpanIn.l0] at H
              by_cases c42 : x7_2 ≤ 15
              · rw [if_pos c42] at H
                have c42b0 : decide (x7_2 ≤ 15) = true := decide_eq_true c42
                clear c42
                by_cases c43 : x6_2 = true
                · subst c43
                  have H1 : ((impl_SpanHas.f t280 t281 t282 x7_2).bind fun t293 => (if t293 = true then ((impl_SpanHas.f t283 t284 t285 x7_2).bind fun t294 => (laws_FnSpanIn.l0 k2 t288 t294 (wrap64 (x7_2 + 1)) t280 t281 t282 t283 t284 t285)) else (laws_FnSpanIn.l0 k2 t288 true (wrap64 (x7_2 + 1)) t280 t281 t282 t283 t284 t285))) = some r := by rw [if_pos rfl] at H; exact H
                  clear H
                  have H := H1
                  clear H1
                  replace H := Option.bind_eq_some_iff.mp H
                  obtain ⟨t293, A440, H⟩ := H
                  replace H : (if t293 = true then ((impl_SpanHas.f t283 t284 t285 x7_2).bind fun t294 => (laws_FnSpanIn.l0 k2 t288 t294 (wrap64 (x7_2 + 1)) t280 t281 t282 t283 t284 t285)) else (laws_FnSpanIn.l0 k2 t288 true (wrap64 (x7_2 + 1)) t280 t281 t282 t283 t284 t285)) = some r := H
                  have A44 := Aside0.mk A440
                  clear A440
                  by_cases c45 : t293 = true
                  · subst c45
                    have H1 : ((impl_SpanHas.f t283 t284 t285 x7_2).bind fun t294 => (laws_FnSpanIn.l0 k2 t288 t294 (wrap64 (x7_2 + 1)) t280 t281 t282 t283 t284 t285)) = some r := by rw [if_pos rfl] at H; exact H
                    clear H
                    have H := H1
                    clear H1
                    replace H := Option.bind_eq_some_iff.mp H
                    obtain ⟨t294, A460, H⟩ := H
                    replace H : (laws_FnSpanIn.l0 k2 t288 t294 (wrap64 (x7_2 + 1)) t280 t281 t282 t283 t284 t285) = some r := H
                    have A46 := Aside0.mk A460
                    clear A460
                    have H' := Aside0.mk H
                    clear H
                    have hnb47 := NB286_287.out
                    have hnc47 := NB287_286.out
                    have hcz48_0 : wr.cell? ⟨gb286, 0, none⟩ = some (.bool t280) := (blk_cell BK286.out 0).trans rfl
                    have hcz48_1 : wr.cell? ⟨gb286, 1, none⟩ = some (.int .i64 t281) := (blk_cell BK286.out 1).trans rfl
                    have hcz48_2 : wr.cell? ⟨gb286, 2, none⟩ = some (.int .i64 t282) := (blk_cell BK286.out 2).trans rfl
                    have hfz48_0 := blk_frozen BK286.out 0
                    have hfz48_1 := blk_frozen BK286.out 1
                    have hfz48_2 := blk_frozen BK286.out 2
                    go_wp2_with (first | (go_at_call 13; (with_reducible refine (impl_SpanHas.calls t280 t281 t282 x7_2 true _ A44.out).mono ?_); rintro e w49 ⟨rfl, hb⟩; have n0_ := Aside0.mk (blk_below (g := gb286) (o := .cells #[.bool t280, .int .i64 t281, .int .i64 t282] 25 (0, 0)) (by (with_reducible repeat (first | refine blk_drewN ?_ _ | refine blk_drew ?_ | refine blk_alloc ?_ _)); exact BK286.out) hb); have n1_ := Aside0.mk (blk_below (g := gb287) (o := .cells #[.bool t283, .int .i64 t284, .int .i64 t285] 25 (0, 0)) (by (with_reducible repeat (first | refine blk_drewN ?_ _ | refine blk_drew ?_ | refine blk_alloc ?_ _)); exact BK287.out) hb); have n2_ := Aside0.mk (below_step (by repeat (first | (with_reducible first | exact HB.out | apply below_alloc | apply pw_below_drewN | apply below_drew1 | refine below_set ?_ GE286.out | refine below_set ?_ GE287.out) | exact HB.out)) hb); clear BK286; clear BK287; clear HB; have BK286 := n0_; have BK287 := n1_; have HB := n2_; clear n0_ n1_ n2_; (try clear hb); (try clear hb2); (try clear hk); (try clear hi); have hcz50_0 : w49.cell? ⟨gb287, 0, none⟩ = some (.bool t283) := (blk_cell BK287.out 0).trans rfl; have hcz50_1 : w49.cell? ⟨gb287, 1, none⟩ = some (.int .i64 t284) := (blk_cell BK287.out 1).trans rfl; have hcz50_2 : w49.cell? ⟨gb287, 2, none⟩ = some (.int .i64 t285) := (blk_cell BK287.out 2).trans rfl; have hfz50_0 := blk_frozen BK287.out 0; have hfz50_1 := blk_frozen BK287.out 1; have hfz50_2 := blk_frozen BK287.out 2) | (go_at_call 13; (with_reducible refine (impl_SpanHas.calls t283 t284 t285 x7_2 t294 _ A46.out).mono ?_); rintro e w51 ⟨rfl, hb⟩; have n0_ := Aside0.mk (blk_below (g := gb286) (o := .cells #[.bool t280, .int .i64 t281, .int .i64 t282] 25 (0, 0)) (by (with_reducible repeat (first | refine blk_drewN ?_ _ | refine blk_drew ?_ | refine blk_alloc ?_ _)); exact BK286.out) hb); have n1_ := Aside0.mk (blk_below (g := gb287) (o := .cells #[.bool t283, .int .i64 t284, .int .i64 t285] 25 (0, 0)) (by (with_reducible repeat (first | refine blk_drewN ?_ _ | refine blk_drew ?_ | refine blk_alloc ?_ _)); exact BK287.out) hb); have n2_ := Aside0.mk (below_step (by repeat (first | (with_reducible first | exact HB.out | apply below_alloc | apply pw_below_drewN | apply below_drew1 | refine below_set ?_ GE286.out | refine below_set ?_ GE287.out) | exact HB.out)) hb); clear BK286; clear BK287; clear HB; have BK286 := n0_; have BK287 := n1_; have HB := n2_; clear n0_ n1_ n2_; (try clear hb); (try clear hb2); (try clear hk); (try clear hi)))
                    go_roundg k2
                    case measure => have := HJ4.out; have := HK2.out; omega
                    case rel => exact ⟨(t294), (wrap64 (x7_2 + 1)), (by first | rfl | (simp; done) | (simp [*]; done)), (by first | rfl | (simp; done) | (simp [*]; done)), H', ⟨by have := HJ4.out; have := HK2.out; omega⟩, ⟨by (with_reducible repeat (first | refine blk_drewN ?_ _ | refine blk_drew ?_ | refine blk_alloc ?_ _)); exact BK286.out⟩, ⟨by (with_reducible repeat (first | refine blk_drewN ?_ _ | refine blk_drew ?_ | refine blk_alloc ?_ _)); exact BK287.out⟩, ⟨by repeat (first | (with_reducible first | exact HB.out | apply below_alloc | apply pw_below_drewN | apply below_drew1 | refine below_set ?_ GE286.out | refine below_set ?_ GE287.out) | exact HB.out)⟩⟩
                  · replace c45 := Bool.eq_false_iff.mpr c45
                    subst c45
                    have H1 : (laws_FnSpanIn.l0 k2 t288 true (wrap64 (x7_2 + 1)) t280 t281 t282 t283 t284 t285) = some r := by rw [if_neg (show ¬ (false = true) by decide)] at H; exact H
                    clear H
                    have H := H1
                    clear H1
                    have H' := Aside0.mk H
                    clear H
                    have hnb52 := NB286_287.out
                    have hnc52 := NB287_286.out
                    have hcz53_0 : wr.cell? ⟨gb286, 0, none⟩ = some (.bool t280) := (blk_cell BK286.out 0).trans rfl
                    have hcz53_1 : wr.cell? ⟨gb286, 1, none⟩ = some (.int .i64 t281) := (blk_cell BK286.out 1).trans rfl
                    have hcz53_2 : wr.cell? ⟨gb286, 2, none⟩ = some (.int .i64 t282) := (blk_cell BK286.out 2).trans rfl
                    have hfz53_0 := blk_frozen BK286.out 0
                    have hfz53_1 := blk_frozen BK286.out 1
                    have hfz53_2 := blk_frozen BK286.out 2
                    go_wp2_with (first | (go_at_call 13; (with_reducible refine (impl_SpanHas.calls t280 t281 t282 x7_2 false _ A44.out).mono ?_); rintro e w54 ⟨rfl, hb⟩; have n0_ := Aside0.mk (blk_below (g := gb286) (o := .cells #[.bool t280, .int .i64 t281, .int .i64 t282] 25 (0, 0)) (by (with_reducible repeat (first | refine blk_drewN ?_ _ | refine blk_drew ?_ | refine blk_alloc ?_ _)); exact BK286.out) hb); have n1_ := Aside0.mk (blk_below (g := gb287) (o := .cells #[.bool t283, .int .i64 t284, .int .i64 t285] 25 (0, 0)) (by (with_reducible repeat (first | refine blk_drewN ?_ _ | refine blk_drew ?_ | refine blk_alloc ?_ _)); exact BK287.out) hb); have n2_ := Aside0.mk (below_step (by repeat (first | (with_reducible first | exact HB.out | apply below_alloc | apply pw_below_drewN | apply below_drew1 | refine below_set ?_ GE286.out | refine below_set ?_ GE287.out) | exact HB.out)) hb); clear BK286; clear BK287; clear HB; have BK286 := n0_; have BK287 := n1_; have HB := n2_; clear n0_ n1_ n2_; (try clear hb); (try clear hb2); (try clear hk); (try clear hi)))
                    go_roundg k2
                    case measure => have := HJ4.out; have := HK2.out; omega
                    case rel => exact ⟨(true), (wrap64 (x7_2 + 1)), (by first | rfl | (simp; done) | (simp [*]; done)), (by first | rfl | (simp; done) | (simp [*]; done)), H', ⟨by have := HJ4.out; have := HK2.out; omega⟩, ⟨by (with_reducible repeat (first | refine blk_drewN ?_ _ | refine blk_drew ?_ | refine blk_alloc ?_ _)); exact BK286.out⟩, ⟨by (with_reducible repeat (first | refine blk_drewN ?_ _ | refine blk_drew ?_ | refine blk_alloc ?_ _)); exact BK287.out⟩, ⟨by repeat (first | (with_reducible first | exact HB.out | apply below_alloc | apply pw_below_drewN | apply below_drew1 | refine below_set ?_ GE286.out | refine below_set ?_ GE287.out) | exact HB.out)⟩⟩
                · replace c43 := Bool.eq_false_iff.mpr c43
                  subst c43
                  have H1 : (laws_FnSpanIn.l0 k2 t288 false (wrap64 (x7_2 + 1)) t280 t281 t282 t283 t284 t285) = some r := by rw [if_neg (show ¬ (false = true) by decide)] at H; exact H
                  clear H
                  have H := H1
                  clear H1
                  have H' := Aside0.mk H
                  clear H
                  go_wp2
                  go_roundg k2
                  case measure => have := HJ4.out; have := HK2.out; omega
                  case rel => exact ⟨(false), (wrap64 (x7_2 + 1)), (by first | rfl | (simp; done) | (simp [*]; done)), (by first | rfl | (simp; done) | (simp [*]; done)), H', ⟨by have := HJ4.out; have := HK2.out; omega⟩, ⟨by (with_reducible repeat (first | refine blk_drewN ?_ _ | refine blk_drew ?_ | refine blk_alloc ?_ _)); exact BK286.out⟩, ⟨by (with_reducible repeat (first | refine blk_drewN ?_ _ | refine blk_drew ?_ | refine blk_alloc ?_ _)); exact BK287.out⟩, ⟨by repeat (first | (with_reducible first | exact HB.out | apply below_alloc | apply pw_below_drewN | apply below_drew1 | refine below_set ?_ GE286.out | refine below_set ?_ GE287.out) | exact HB.out)⟩⟩
              · rw [if_neg c42] at H
                have c42b0 : decide (x7_2 ≤ 15) = false := decide_eq_false c42
                clear c42
                obtain rfl := Option.some.inj H
                go_wp2
                go_ret
                exact ⟨by first | rfl | (simp [errW_none, errW_some] <;> rfl) | (simp [*, errW_none, errW_some] <;> rfl), by repeat (first | (with_reducible first | exact HB.out | apply below_alloc | apply pw_below_drewN | apply below_drew1 | refine below_set ?_ GE286.out | refine below_set ?_ GE287.out) | exact HB.out)⟩

/-- THE ONE PURE STATEMENT of laws_FnSpanIn: yours. -/
def laws_FnSpanIn.Pure : Prop := ∀ (l0 : List Int), l0.length ≤ maxLen → l0.length * 1 ≤ 140737488351232 → (∀ x ∈ l0, (Lit.int .u8 x).wf = true) → ∃ k, laws_FnSpanIn.f k l0 = some true
theorem laws_FnSpanIn.walk (P : laws_FnSpanIn.Pure) (a0 : Option Addr) (len0 cap0 : Nat) (z0 : List Int) (w : World) (w0 : (a0 = none ∧ len0 = 0 ∧ cap0 = 0 ∧ z0 = []) ∨ ∃ x, a0 = some x ∧ len0 ≤ cap0 ∧ cap0 ≤ maxLen ∧ z0.length = cap0 ∧ (∀ i, i < z0.length → w.cell? (x.add i) = some (.int .u8 (z0.getD i 0))) ∧ ∀ n ∈ z0, (Lit.int .u8 n).wf = true) (y0 : len0 * 1 ≤ 140737488351232) :
    Calls Try.prog 5 #[.slice a0 len0 cap0] w fun e w' => e = .returned (.bool true) ∧ Below w.heap.size w w' := by
  obtain ⟨l0, rfl, hr0, hm0, hw0, hc0⟩ := ReadsInt.ofRowC w0
  obtain ⟨k, h⟩ := P l0 hm0 y0 hw0
  refine (laws_FnSpanIn.calls k _ _ l0 true w (Kd.C_of_reads (d := (0 : Int)) (h1 := fun _ => rfl) hr0) hc0 h).mono ?_
  rintro e w' ⟨rfl, hd⟩
  exact ⟨rfl, hd⟩

end Go.Proofs.Ytbgaoidihgpldab.Q
