-- Written by a program of this session over the kit's print. Lean checks it.
import Derived.Test.YtbgaoidihgpldabQx0
import Derived.Test.YtbgaoidihgpldabQx1
import Derived.Test.YtbgaoidihgpldabQx4
import Derived.Test.YtbgaoidihgpldabQx5
import Derived.Test.YtbgaoidihgpldabQx7
import Derived.Test.YtbgaoidihgpldabQx10
import Derived.Test.YtbgaoidihgpldabQx13
namespace Go.Proofs.Ytbgaoidihgpldab.Q
open Go.RowKit Go.Proofs.YtbgaoidihgpldabW.PrintWords Go.Proofs.YtbgaoidihgpldabW.PrintLast Go.Proofs.YtbgaoidihgpldabW.PrintMore
attribute [local go_sem] max2_int min2_int max_two min_two max_three min_three max_four min_four   -- for this text's walks alone
set_option linter.unusedVariables false
set_option linter.unusedSimpArgs false

attribute [local go_sem high] eqA25
/-! ### laws_FnSpanJoin: function 6 -/
mutual
def laws_FnSpanJoin.j0 : Nat → List Int → List Int → Bool → Option (Bool)
 | 0, _, _, _ => none
 | k + 1, x0, x1, x17 => if x17 = true then (some true) else ((spec_DrawSpanJoin.f k x0).bind fun bt308 => ((spec_DrawSpanJoin.f k x1).bind fun bt316 => ((impl_SpanJoin.f k bt308.1 bt308.2.1 bt308.2.2.1 bt308.2.2.2.1 bt308.2.2.2.2.1 bt308.2.2.2.2.2).bind fun bt324 => ((spec_SpanJoin.f k bt308.1 bt308.2.1 bt308.2.2.1 bt308.2.2.2.1 bt308.2.2.2.2.1 bt308.2.2.2.2.2).bind fun bt328 => (if (!(bt324.1 == bt328.1) || (!(bt324.2.1 == bt328.2.1) || (!(bt324.2.2 == bt328.2.2)))) = true then (laws_FnSpanJoin.j1 k true bt308.1 bt308.2.1 bt308.2.2.1 bt308.2.2.2.1 bt308.2.2.2.2.1 bt308.2.2.2.2.2 bt316.1 bt316.2.1 bt316.2.2.1 bt324.1 bt324.2.1 bt324.2.2) else ((spec_SpanOk.f bt308.1 bt308.2.1 bt308.2.2.1).bind fun t331 => (if t331 = true then ((spec_SpanOk.f bt308.2.2.2.1 bt308.2.2.2.2.1 bt308.2.2.2.2.2).bind fun t332 => (if t332 = true then ((spec_SpanOk.f bt316.1 bt316.2.1 bt316.2.2.1).bind fun t333 => (laws_FnSpanJoin.j1 k (!t333) bt308.1 bt308.2.1 bt308.2.2.1 bt308.2.2.2.1 bt308.2.2.2.2.1 bt308.2.2.2.2.2 bt316.1 bt316.2.1 bt316.2.2.1 bt324.1 bt324.2.1 bt324.2.2)) else (laws_FnSpanJoin.j1 k true bt308.1 bt308.2.1 bt308.2.2.1 bt308.2.2.2.1 bt308.2.2.2.2.1 bt308.2.2.2.2.2 bt316.1 bt316.2.1 bt316.2.2.1 bt324.1 bt324.2.1 bt324.2.2))) else (laws_FnSpanJoin.j1 k true bt308.1 bt308.2.1 bt308.2.2.1 bt308.2.2.2.1 bt308.2.2.2.2.1 bt308.2.2.2.2.2 bt316.1 bt316.2.1 bt316.2.2.1 bt324.1 bt324.2.1 bt324.2.2))))))))
def laws_FnSpanJoin.j1 : Nat → Bool → Bool → Int → Int → Bool → Int → Int → Bool → Int → Int → Bool → Int → Int → Option (Bool)
 | 0, _, _, _, _, _, _, _, _, _, _, _, _, _ => none
 | k + 1, x50, x315000, x315001, x315002, x316000, x316001, x316002, x323000, x323001, x323002, x328000, x328001, x328002 => if x50 = true then ((spec_SpanJoin.f k x315000 x315001 x315002 x316000 x316001 x316002).bind fun bt334 => (some (x328000 == bt334.1 && (x328001 == bt334.2.1 && (x328002 == bt334.2.2))))) else ((impl_SpanIn.f x315000 x315001 x315002 x328000 x328001 x328002).bind fun t337 => (if t337 = true then ((impl_SpanIn.f x316000 x316001 x316002 x328000 x328001 x328002).bind fun t338 => (if t338 = true then ((impl_SpanJoin.f k x316000 x316001 x316002 x315000 x315001 x315002).bind fun bt339 => (if (!(bt339.1 == x328000) || (!(bt339.2.1 == x328001) || (!(bt339.2.2 == x328002)))) = true then (laws_FnSpanJoin.j2 k true x315000 x315001 x315002 x316000 x316001 x316002 x323000 x323001 x323002 x328000 x328001 x328002) else ((impl_SpanJoin.f k x328000 x328001 x328002 x315000 x315001 x315002).bind fun bt342 => (laws_FnSpanJoin.j2 k (!(bt342.1 == x328000) || (!(bt342.2.1 == x328001) || (!(bt342.2.2 == x328002)))) x315000 x315001 x315002 x316000 x316001 x316002 x323000 x323001 x323002 x328000 x328001 x328002)))) else (laws_FnSpanJoin.j2 k true x315000 x315001 x315002 x316000 x316001 x316002 x323000 x323001 x323002 x328000 x328001 x328002))) else (laws_FnSpanJoin.j2 k true x315000 x315001 x315002 x316000 x316001 x316002 x323000 x323001 x323002 x328000 x328001 x328002)))
def laws_FnSpanJoin.j2 : Nat → Bool → Bool → Int → Int → Bool → Int → Int → Bool → Int → Int → Bool → Int → Int → Option (Bool)
 | 0, _, _, _, _, _, _, _, _, _, _, _, _, _ => none
 | k + 1, x79, x315000, x315001, x315002, x316000, x316001, x316002, x323000, x323001, x323002, x328000, x328001, x328002 => if x79 = true then (some false) else ((impl_SpanIn.f x315000 x315001 x315002 x323000 x323001 x323002).bind fun t345 => (if t345 = true then ((impl_SpanIn.f x316000 x316001 x316002 x323000 x323001 x323002).bind fun t346 => (if t346 = true then ((impl_SpanIn.f x328000 x328001 x328002 x323000 x323001 x323002).bind fun t347 => (some t347)) else (some true))) else (some true)))
end
def laws_FnSpanJoin.f (k : Nat) (l0 : List Int) (l1 : List Int) : Option (Bool) := if (l0.length : Int) > 1048576 then (laws_FnSpanJoin.j0 k l0 l1 true) else (laws_FnSpanJoin.j0 k l0 l1 (decide ((l1.length : Int) > 1048576)))
theorem laws_FnSpanJoin.mono_l : ∀ k, (∀ y0 y1 y2, LeO (laws_FnSpanJoin.j0 k y0 y1 y2) (laws_FnSpanJoin.j0 (k + 1) y0 y1 y2)) ∧ (∀ y0 y1 y2 y3 y4 y5 y6 y7 y8 y9 y10 y11 y12, LeO (laws_FnSpanJoin.j1 k y0 y1 y2 y3 y4 y5 y6 y7 y8 y9 y10 y11 y12) (laws_FnSpanJoin.j1 (k + 1) y0 y1 y2 y3 y4 y5 y6 y7 y8 y9 y10 y11 y12)) ∧ (∀ y0 y1 y2 y3 y4 y5 y6 y7 y8 y9 y10 y11 y12, LeO (laws_FnSpanJoin.j2 k y0 y1 y2 y3 y4 y5 y6 y7 y8 y9 y10 y11 y12) (laws_FnSpanJoin.j2 (k + 1) y0 y1 y2 y3 y4 y5 y6 y7 y8 y9 y10 y11 y12))
 | 0 => ⟨fun _ _ _ r h => by simp [laws_FnSpanJoin.j0] at h, fun _ _ _ _ _ _ _ _ _ _ _ _ _ r h => by simp [laws_FnSpanJoin.j1] at h, fun _ _ _ _ _ _ _ _ _ _ _ _ _ r h => by simp [laws_FnSpanJoin.j2] at h⟩
 | k + 1 => by
  obtain ⟨ih0, ih1, ih2⟩ := laws_FnSpanJoin.mono_l k
  refine ⟨?_, ?_, ?_⟩
  ·intro y0 y1 y2
   unfold laws_FnSpanJoin.j0
   repeat' first
   | (with_reducible exact ih0 _ _ _)
   | (with_reducible exact ih1 _ _ _ _ _ _ _ _ _ _ _ _ _)
   | (with_reducible exact ih2 _ _ _ _ _ _ _ _ _ _ _ _ _)
   | (with_reducible exact impl_SpanJoin.mono _ _ _ _ _ _ _)
   | (with_reducible exact spec_DrawSpanJoin.mono _ _)
   | (with_reducible exact spec_SpanJoin.mono _ _ _ _ _ _ _)
   | (with_reducible exact LeO.refl _)
   | (with_reducible exact LeO.none _)
   | (with_reducible refine LeO.ite ?_ ?_)
   | (with_reducible refine LeO.bind ?_ (fun _ => ?_))
   | exact ih0 _ _ _
   | exact ih1 _ _ _ _ _ _ _ _ _ _ _ _ _
   | exact ih2 _ _ _ _ _ _ _ _ _ _ _ _ _
   | exact impl_SpanJoin.mono _ _ _ _ _ _ _
   | exact spec_DrawSpanJoin.mono _ _
   | exact spec_SpanJoin.mono _ _ _ _ _ _ _
   | exact LeO.none _
   | refine LeO.ite ?_ ?_
   | refine LeO.bind ?_ (fun _ => ?_)
  ·intro y0 y1 y2 y3 y4 y5 y6 y7 y8 y9 y10 y11 y12
   unfold laws_FnSpanJoin.j1
   repeat' first
   | (with_reducible exact ih0 _ _ _)
   | (with_reducible exact ih1 _ _ _ _ _ _ _ _ _ _ _ _ _)
   | (with_reducible exact ih2 _ _ _ _ _ _ _ _ _ _ _ _ _)
   | (with_reducible exact impl_SpanJoin.mono _ _ _ _ _ _ _)
   | (with_reducible exact spec_DrawSpanJoin.mono _ _)
   | (with_reducible exact spec_SpanJoin.mono _ _ _ _ _ _ _)
   | (with_reducible exact LeO.refl _)
   | (with_reducible exact LeO.none _)
   | (with_reducible refine LeO.ite ?_ ?_)
   | (with_reducible refine LeO.bind ?_ (fun _ => ?_))
   | exact ih0 _ _ _
   | exact ih1 _ _ _ _ _ _ _ _ _ _ _ _ _
   | exact ih2 _ _ _ _ _ _ _ _ _ _ _ _ _
   | exact impl_SpanJoin.mono _ _ _ _ _ _ _
   | exact spec_DrawSpanJoin.mono _ _
   | exact spec_SpanJoin.mono _ _ _ _ _ _ _
   | exact LeO.none _
   | refine LeO.ite ?_ ?_
   | refine LeO.bind ?_ (fun _ => ?_)
  ·intro y0 y1 y2 y3 y4 y5 y6 y7 y8 y9 y10 y11 y12
   unfold laws_FnSpanJoin.j2
   repeat' first
   | (with_reducible exact ih0 _ _ _)
   | (with_reducible exact ih1 _ _ _ _ _ _ _ _ _ _ _ _ _)
   | (with_reducible exact ih2 _ _ _ _ _ _ _ _ _ _ _ _ _)
   | (with_reducible exact impl_SpanJoin.mono _ _ _ _ _ _ _)
   | (with_reducible exact spec_DrawSpanJoin.mono _ _)
   | (with_reducible exact spec_SpanJoin.mono _ _ _ _ _ _ _)
   | (with_reducible exact LeO.refl _)
   | (with_reducible exact LeO.none _)
   | (with_reducible refine LeO.ite ?_ ?_)
   | (with_reducible refine LeO.bind ?_ (fun _ => ?_))
   | exact ih0 _ _ _
   | exact ih1 _ _ _ _ _ _ _ _ _ _ _ _ _
   | exact ih2 _ _ _ _ _ _ _ _ _ _ _ _ _
   | exact impl_SpanJoin.mono _ _ _ _ _ _ _
   | exact spec_DrawSpanJoin.mono _ _
   | exact spec_SpanJoin.mono _ _ _ _ _ _ _
   | exact LeO.none _
   | refine LeO.ite ?_ ?_
   | refine LeO.bind ?_ (fun _ => ?_)
theorem laws_FnSpanJoin.mono : ∀ a0 a1 k, LeO (laws_FnSpanJoin.f k a0 a1) (laws_FnSpanJoin.f (k + 1) a0 a1) := by
 intro a0 a1 k
 obtain ⟨ih0, ih1, ih2⟩ := laws_FnSpanJoin.mono_l k
 unfold laws_FnSpanJoin.f
 repeat' first
   | (with_reducible exact ih0 _ _ _)
   | (with_reducible exact ih1 _ _ _ _ _ _ _ _ _ _ _ _ _)
   | (with_reducible exact ih2 _ _ _ _ _ _ _ _ _ _ _ _ _)
   | (with_reducible exact impl_SpanJoin.mono _ _ _ _ _ _ _)
   | (with_reducible exact spec_DrawSpanJoin.mono _ _)
   | (with_reducible exact spec_SpanJoin.mono _ _ _ _ _ _ _)
   | (with_reducible exact LeO.refl _)
   | (with_reducible exact LeO.none _)
   | (with_reducible refine LeO.ite ?_ ?_)
   | (with_reducible refine LeO.bind ?_ (fun _ => ?_))
   | exact ih0 _ _ _
   | exact ih1 _ _ _ _ _ _ _ _ _ _ _ _ _
   | exact ih2 _ _ _ _ _ _ _ _ _ _ _ _ _
   | exact impl_SpanJoin.mono _ _ _ _ _ _ _
   | exact spec_DrawSpanJoin.mono _ _
   | exact spec_SpanJoin.mono _ _ _ _ _ _ _
   | exact LeO.none _
   | refine LeO.ite ?_ ?_
   | refine LeO.bind ?_ (fun _ => ?_)
def laws_FnSpanJoin.T6 : Bool × List (List Nat × List Nat) := (true, [([], []), ([], []), ([], []), ([1, 2], [1, 2]), ([0, 3], [0, 3]), ([4, 3], [4]), ([5], [5]), ([6, 5, 5], [5, 6]), ([7, 5], [5, 7]), ([5, 8], [5, 8]), ([9, 7], [9]), ([10], [10]), ([11, 10, 10], [10, 11]), ([12, 10], [10, 12]), ([10, 13], [10, 13]), ([14, 12], [14]), ([15], [15]), ([16, 15, 15], [15, 16]), ([17, 15], [15, 17]), ([15, 18], [15, 18])])
def laws_FnSpanJoin.B6 : List Nat := [0, 0, 0, 6, 15, 31, 63, 127, 255, 511, 1023, 2047, 4095, 8191, 16383, 32767, 65535, 131071, 262143, 524287]
theorem laws_FnSpanJoin.tab6 : rtab .any (opsOf Try.f6 6) = laws_FnSpanJoin.T6 := by kernel_rfl
theorem laws_FnSpanJoin.bits6 : waitsOk laws_FnSpanJoin.T6.2 laws_FnSpanJoin.B6 = true := by kernel_rfl
def laws_FnSpanJoin.T8 : Bool × List (List Nat × List Nat) := (true, [([], []), ([], []), ([0, 1], [0, 1]), ([2], [2]), ([3, 2], [3]), ([4], [4]), ([4], [4]), ([5, 6, 4, 4], [4, 5, 6]), ([7, 4], [4, 7]), ([4, 8], [4, 8]), ([9, 7], [9]), ([10], [10]), ([10], [10]), ([11, 12, 10, 10], [10, 11, 12]), ([10], [10]), ([13, 14, 10], [10, 13, 14]), ([10, 15], [10, 15]), ([16, 13], [16]), ([17], [17]), ([17], [17]), ([18, 19, 17, 17], [17, 18, 19]), ([17], [17]), ([20, 21, 17], [17, 20, 21]), ([17, 22], [17, 22])])
def laws_FnSpanJoin.B8 : List Nat := [0, 0, 3, 7, 15, 31, 31, 127, 255, 511, 1023, 2047, 2047, 8191, 2047, 32767, 65535, 131071, 262143, 262143, 1048575, 262143, 4194303, 8388607]
theorem laws_FnSpanJoin.tab8 : rtab .any (opsOf Try.f6 8) = laws_FnSpanJoin.T8 := by kernel_rfl
theorem laws_FnSpanJoin.bits8 : waitsOk laws_FnSpanJoin.T8.2 laws_FnSpanJoin.B8 = true := by kernel_rfl
set_option maxHeartbeats 8000000 in
set_option maxRecDepth 100000 in
theorem laws_FnSpanJoin.calls (k : Nat) (A0 : Option Addr) (c0 : Nat) (l0 : List Int) (A1 : Option Addr) (c1 : Nat) (l1 : List Int) (r : Bool) (w : World) (hr0 : Kd.C (Kd.int .u8) w A0 l0.length l0) (hc0 : l0.length ≤ c0) (hr1 : Kd.C (Kd.int .u8) w A1 l1.length l1) (hc1 : l1.length ≤ c1) (h : laws_FnSpanJoin.f k l0 l1 = some r) :
  Calls Try.prog 6 #[.slice A0 l0.length c0, .slice A1 l1.length c1] w fun e w' => e = .returned (.bool r) ∧ Below w.heap.size w w' := by
 have hu25 := Try.underlying25
 have HR0 := Aside0.mk hr0
 have HC0 := Aside0.mk hc0
 clear hr0 hc0
 have HR1 := Aside0.mk hr1
 have HC1 := Aside0.mk hc1
 clear hr1 hc1
 have HB := Aside0.mk (Below.refl w.heap.size w)
 have H : (if (l0.length : Int) > 1048576 then (laws_FnSpanJoin.j0 k l0 l1 true) else (laws_FnSpanJoin.j0 k l0 l1 (decide ((l1.length : Int) > 1048576)))) = some r := h
 clear h
 have HC3 := Aside0.mk H
 clear H
 go_enter Try.func6, Try.ntmps6
 go_upto_region 1 with (fail)
 go_cut [17] (fun v17 wc => ∃ (kq : Nat) (x17_2 : Bool), v17 = .bool x17_2 ∧ Aside0 (laws_FnSpanJoin.j0 kq l0 l1 x17_2 = some r) ∧ Aside0 (kq ≤ k) ∧ Aside0 (Below w.heap.size w wc))
 case first =>
  have H := HC3.out
  clear HC3
  by_cases c4 : (l0.length : Int) > 1048576
  ·rw [if_pos c4] at H
   have c4b0 : decide (1048576 < (l0.length : Int)) = true := decide_eq_true c4
   have c4b1 : decide (1048576 < l0.length) = true := decide_eq_true (by omega)
   clear c4
   (first | rw [c4b0] | (simp only [i64_w, i32_w]; rw [c4b0]) | skip)
   have H' := Aside0.mk H
   clear H
   go_wp2
   go_meet
   case rel => exact ⟨_, (true), (by first | rfl | (simp; done) | (simp [*]; done)), H', ⟨by first | omega | exact Nat.le_refl _⟩, ⟨by repeat (first | (with_reducible first | exact HB.out | apply below_alloc | apply pw_below_drewN | apply below_drew1) | exact HB.out)⟩⟩
  ·rw [if_neg c4] at H
   have c4b0 : decide (1048576 < (l0.length : Int)) = false := decide_eq_false c4
   have c4b1 : decide (1048576 < l0.length) = false := decide_eq_false (by omega)
   clear c4
   (first | rw [c4b0] | (simp only [i64_w, i32_w]; rw [c4b0]) | skip)
   have H' := Aside0.mk H
   clear H
   go_wp2
   go_meet
   case rel => exact ⟨_, (decide ((l1.length : Int) > 1048576)), (by first | rfl | (simp; done) | (simp [*]; done)), H', ⟨by first | omega | exact Nat.le_refl _⟩, ⟨by repeat (first | (with_reducible first | exact HB.out | apply below_alloc | apply pw_below_drewN | apply below_drew1) | exact HB.out)⟩⟩
 case rest =>
  clear HC3
  try clear c1
  try clear p2
  try clear c4
  try clear c4b0
  try clear c4b1
  obtain ⟨kq, x17_2, rfl, HA, HJ2, HB⟩ := hcut
  cases kq with
  | zero => exact absurd HA.out (by simp [laws_FnSpanJoin.j0])
  | succ kj2 =>
   have H := HA.out
   clear HA
   simp only [laws_FnSpanJoin.j0] at H
   by_cases c5 : x17_2 = true
   ·subst c5
    have H1 : (some true) = some r := by rw [if_pos rfl] at H; exact H
    clear H
    have H := H1
    clear H1
    obtain rfl := Option.some.inj H
    go_wp2
    go_ret
    exact ⟨by first | rfl | (simp [errW_none, errW_some] <;> rfl) | (simp [*, errW_none, errW_some] <;> rfl), by repeat (first | (with_reducible first | exact HB.out | apply below_alloc | apply pw_below_drewN | apply below_drew1) | exact HB.out)⟩
   ·replace c5 := Bool.eq_false_iff.mpr c5
    subst c5
    have H1 : ((spec_DrawSpanJoin.f kj2 l0).bind fun bt308 => ((spec_DrawSpanJoin.f kj2 l1).bind fun bt316 => ((impl_SpanJoin.f kj2 bt308.1 bt308.2.1 bt308.2.2.1 bt308.2.2.2.1 bt308.2.2.2.2.1 bt308.2.2.2.2.2).bind fun bt324 => ((spec_SpanJoin.f kj2 bt308.1 bt308.2.1 bt308.2.2.1 bt308.2.2.2.1 bt308.2.2.2.2.1 bt308.2.2.2.2.2).bind fun bt328 => (if (!(bt324.1 == bt328.1) || (!(bt324.2.1 == bt328.2.1) || (!(bt324.2.2 == bt328.2.2)))) = true then (laws_FnSpanJoin.j1 kj2 true bt308.1 bt308.2.1 bt308.2.2.1 bt308.2.2.2.1 bt308.2.2.2.2.1 bt308.2.2.2.2.2 bt316.1 bt316.2.1 bt316.2.2.1 bt324.1 bt324.2.1 bt324.2.2) else ((spec_SpanOk.f bt308.1 bt308.2.1 bt308.2.2.1).bind fun t331 => (if t331 = true then ((spec_SpanOk.f bt308.2.2.2.1 bt308.2.2.2.2.1 bt308.2.2.2.2.2).bind fun t332 => (if t332 = true then ((spec_SpanOk.f bt316.1 bt316.2.1 bt316.2.2.1).bind fun t333 => (laws_FnSpanJoin.j1 kj2 (!t333) bt308.1 bt308.2.1 bt308.2.2.1 bt308.2.2.2.1 bt308.2.2.2.2.1 bt308.2.2.2.2.2 bt316.1 bt316.2.1 bt316.2.2.1 bt324.1 bt324.2.1 bt324.2.2)) else (laws_FnSpanJoin.j1 kj2 true bt308.1 bt308.2.1 bt308.2.2.1 bt308.2.2.2.1 bt308.2.2.2.2.1 bt308.2.2.2.2.2 bt316.1 bt316.2.1 bt316.2.2.1 bt324.1 bt324.2.1 bt324.2.2))) else (laws_FnSpanJoin.j1 kj2 true bt308.1 bt308.2.1 bt308.2.2.1 bt308.2.2.2.1 bt308.2.2.2.2.1 bt308.2.2.2.2.2 bt316.1 bt316.2.1 bt316.2.2.1 bt324.1 bt324.2.1 bt324.2.2)))))))) = some r := by rw [if_neg (show ¬ (false = true) by decide)] at H; exact H
    clear H
    have H := H1
    clear H1
    replace H := Option.bind_eq_some_iff.mp H
    obtain ⟨⟨t308, t309, t310, t311, t312, t313⟩, A60, H⟩ := H
    replace H : ((spec_DrawSpanJoin.f kj2 l1).bind fun bt316 => ((impl_SpanJoin.f kj2 t308 t309 t310 t311 t312 t313).bind fun bt324 => ((spec_SpanJoin.f kj2 t308 t309 t310 t311 t312 t313).bind fun bt328 => (if (!(bt324.1 == bt328.1) || (!(bt324.2.1 == bt328.2.1) || (!(bt324.2.2 == bt328.2.2)))) = true then (laws_FnSpanJoin.j1 kj2 true t308 t309 t310 t311 t312 t313 bt316.1 bt316.2.1 bt316.2.2.1 bt324.1 bt324.2.1 bt324.2.2) else ((spec_SpanOk.f t308 t309 t310).bind fun t331 => (if t331 = true then ((spec_SpanOk.f t311 t312 t313).bind fun t332 => (if t332 = true then ((spec_SpanOk.f bt316.1 bt316.2.1 bt316.2.2.1).bind fun t333 => (laws_FnSpanJoin.j1 kj2 (!t333) t308 t309 t310 t311 t312 t313 bt316.1 bt316.2.1 bt316.2.2.1 bt324.1 bt324.2.1 bt324.2.2)) else (laws_FnSpanJoin.j1 kj2 true t308 t309 t310 t311 t312 t313 bt316.1 bt316.2.1 bt316.2.2.1 bt324.1 bt324.2.1 bt324.2.2))) else (laws_FnSpanJoin.j1 kj2 true t308 t309 t310 t311 t312 t313 bt316.1 bt316.2.1 bt316.2.2.1 bt324.1 bt324.2.1 bt324.2.2))))))) = some r := H
    have A6 := Aside0.mk A60
    clear A60
    replace H := Option.bind_eq_some_iff.mp H
    obtain ⟨⟨t316, t317, t318, t319, t320, t321⟩, A70, H⟩ := H
    replace H : ((impl_SpanJoin.f kj2 t308 t309 t310 t311 t312 t313).bind fun bt324 => ((spec_SpanJoin.f kj2 t308 t309 t310 t311 t312 t313).bind fun bt328 => (if (!(bt324.1 == bt328.1) || (!(bt324.2.1 == bt328.2.1) || (!(bt324.2.2 == bt328.2.2)))) = true then (laws_FnSpanJoin.j1 kj2 true t308 t309 t310 t311 t312 t313 t316 t317 t318 bt324.1 bt324.2.1 bt324.2.2) else ((spec_SpanOk.f t308 t309 t310).bind fun t331 => (if t331 = true then ((spec_SpanOk.f t311 t312 t313).bind fun t332 => (if t332 = true then ((spec_SpanOk.f t316 t317 t318).bind fun t333 => (laws_FnSpanJoin.j1 kj2 (!t333) t308 t309 t310 t311 t312 t313 t316 t317 t318 bt324.1 bt324.2.1 bt324.2.2)) else (laws_FnSpanJoin.j1 kj2 true t308 t309 t310 t311 t312 t313 t316 t317 t318 bt324.1 bt324.2.1 bt324.2.2))) else (laws_FnSpanJoin.j1 kj2 true t308 t309 t310 t311 t312 t313 t316 t317 t318 bt324.1 bt324.2.1 bt324.2.2)))))) = some r := H
    have A7 := Aside0.mk A70
    clear A70
    replace H := Option.bind_eq_some_iff.mp H
    obtain ⟨⟨t324, t325, t326⟩, A80, H⟩ := H
    replace H : ((spec_SpanJoin.f kj2 t308 t309 t310 t311 t312 t313).bind fun bt328 => (if (!(t324 == bt328.1) || (!(t325 == bt328.2.1) || (!(t326 == bt328.2.2)))) = true then (laws_FnSpanJoin.j1 kj2 true t308 t309 t310 t311 t312 t313 t316 t317 t318 t324 t325 t326) else ((spec_SpanOk.f t308 t309 t310).bind fun t331 => (if t331 = true then ((spec_SpanOk.f t311 t312 t313).bind fun t332 => (if t332 = true then ((spec_SpanOk.f t316 t317 t318).bind fun t333 => (laws_FnSpanJoin.j1 kj2 (!t333) t308 t309 t310 t311 t312 t313 t316 t317 t318 t324 t325 t326)) else (laws_FnSpanJoin.j1 kj2 true t308 t309 t310 t311 t312 t313 t316 t317 t318 t324 t325 t326))) else (laws_FnSpanJoin.j1 kj2 true t308 t309 t310 t311 t312 t313 t316 t317 t318 t324 t325 t326))))) = some r := H
    have A8 := Aside0.mk A80
    clear A80
    have HC9 := Aside0.mk H
    clear H
    go_upto_region 6 with (first | ((with_reducible refine gate_callee (f := 23) rfl ?_); refine goesL_ (some 20) rfl rfl Try.func23 (by kernel_rfl) rfl #[.slice A0 l0.length c0] rfl (by (try simp only [List.map_toArray, List.map_cons, List.map_nil]); first | done | rfl | (simp only [List.length_drop, List.length_take]; rfl)) ?_; (with_reducible refine (spec_DrawSpanJoin.calls kj2 _ _ l0 t308 t309 t310 t311 t312 t313 _ ?side1 ?side2 A6.out).mono ?_); (case side1 => repeat (first | exact (Kd.C_below HR0.out HB.out) | (with_reducible refine Kd.C_alloc ?_ _) | (with_reducible refine Kd.C_drewN ?_ _) | (with_reducible refine Kd.C_drew ?_))); (case side2 => exact HC0.out); rintro e w10 ⟨rfl, hb⟩; refine ⟨_, rfl, ?_⟩; have n0_ := Aside0.mk (below_step (by repeat (first | (with_reducible first | exact HB.out | apply below_alloc | apply pw_below_drewN | apply below_drew1) | exact HB.out)) hb); clear HB; have HB := n0_; clear n0_; (try clear hb); (try clear hb2); (try clear hk); (try clear hi)) | ((with_reducible refine gate_dst (N := 5) rfl ?_); (try (refine gate_guard (by rfl) ?_; dsimp only)); refine box_event ?hg (N := 5) ?hd (cs := #[.bool false, .int .i64 0, .int .i64 0]) (t := 25) ?hr ?_; (case hd => rfl); (case hg => rfl); (case hr => first | (go_simp; done) | (go_simp; rfl)); intro gb314 hg w11 hbox hb; have n0_ := Aside0.mk (below_step (by repeat (first | (with_reducible first | exact HB.out | apply below_alloc | apply pw_below_drewN | apply below_drew1) | exact HB.out)) hb); have n1_ := Aside0.mk (hbox); have n2_ := Aside0.mk ((by rw [hg]; exact (below_size (by repeat (first | (with_reducible first | exact HB.out | apply below_alloc | apply pw_below_drewN | apply below_drew1) | exact HB.out))) : w.heap.size ≤ gb314)); have n3_ := Aside0.mk ((by rw [hg]; exact (below_size (by repeat (first | (with_reducible first | exact HB.out | apply below_alloc | apply pw_below_drewN | apply below_drew1) | exact HB.out))) : w.heap.size ≤ gb314)); clear HB; have HB := n0_; have BK314 := n1_; have GW314 := n2_; have GE314 := n3_; clear n0_ n1_ n2_ n3_; clear hb hbox hg) | ((with_reducible refine gate_dst (N := 6) rfl ?_); (try (refine gate_guard (by rfl) ?_; dsimp only)); refine box_event ?hg (N := 6) ?hd (cs := #[.bool false, .int .i64 0, .int .i64 0]) (t := 25) ?hr ?_; (case hd => rfl); (case hg => rfl); (case hr => first | (go_simp; done) | (go_simp; rfl)); intro gb315 hg w12 hbox hb; have n0_ := Aside0.mk (bb_ BK314.out hb); have n1_ := Aside0.mk (below_step (by repeat (first | (with_reducible first | exact HB.out | apply below_alloc | apply pw_below_drewN | apply below_drew1 | refine below_set ?_ GE314.out) | exact HB.out)) hb); have n2_ := Aside0.mk (hbox); have n3_ := Aside0.mk ((by rw [hg]; exact (below_size (by repeat (first | (with_reducible first | exact HB.out | apply below_alloc | apply pw_below_drewN | apply below_drew1 | refine below_set ?_ GE314.out) | exact HB.out))) : w.heap.size ≤ gb315)); have n4_ := Aside0.mk ((by rw [hg]; exact (below_size (by repeat (first | (with_reducible first | exact HB.out | apply below_alloc | apply pw_below_drewN | apply below_drew1 | refine below_set ?_ GE314.out) | exact HB.out))) : w.heap.size ≤ gb315)); have n5_ := Aside0.mk ((by rw [hg]; exact Nat.ne_of_lt (blk_lt (g := gb314) (o := .cells #[.bool false, .int .i64 0, .int .i64 0] 25 (0, 0)) (bk_ BK314.out)) : gb314 ≠ gb315)); have n6_ := Aside0.mk ((by rw [hg]; exact Nat.ne_of_gt (blk_lt (g := gb314) (o := .cells #[.bool false, .int .i64 0, .int .i64 0] 25 (0, 0)) (bk_ BK314.out)) : gb315 ≠ gb314)); clear BK314; clear HB; have BK314 := n0_; have HB := n1_; have BK315 := n2_; have GW315 := n3_; have GE315 := n4_; have NB314_315 := n5_; have NB315_314 := n6_; clear n0_ n1_ n2_ n3_ n4_ n5_ n6_; clear hb hbox hg; have hnb13 := NB314_315.out; have hnc13 := NB315_314.out; have hcz14_0 : w12.cell? ⟨gb314, 0, none⟩ = some (.bool false) := (blk_cell BK314.out 0).trans rfl; have hcz14_1 : w12.cell? ⟨gb314, 1, none⟩ = some (.int .i64 0) := (blk_cell BK314.out 1).trans rfl; have hcz14_2 : w12.cell? ⟨gb314, 2, none⟩ = some (.int .i64 0) := (blk_cell BK314.out 2).trans rfl; have hfz14_0 := blk_frozen BK314.out 0; have hfz14_1 := blk_frozen BK314.out 1; have hfz14_2 := blk_frozen BK314.out 2; have hcz15_0 : w12.cell? ⟨gb315, 0, none⟩ = some (.bool false) := (blk_cell BK315.out 0).trans rfl; have hcz15_1 : w12.cell? ⟨gb315, 1, none⟩ = some (.int .i64 0) := (blk_cell BK315.out 1).trans rfl; have hcz15_2 : w12.cell? ⟨gb315, 2, none⟩ = some (.int .i64 0) := (blk_cell BK315.out 2).trans rfl; have hfz15_0 := blk_frozen BK315.out 0; have hfz15_1 := blk_frozen BK315.out 1; have hfz15_2 := blk_frozen BK315.out 2) | ((with_reducible refine gate_callee (f := 23) rfl ?_); refine goesL_ (some 25) rfl rfl Try.func23 (by kernel_rfl) rfl #[.slice A1 l1.length c1] rfl (by (try simp only [List.map_toArray, List.map_cons, List.map_nil]); first | done | rfl | (simp only [List.length_drop, List.length_take]; rfl)) ?_; (with_reducible refine (spec_DrawSpanJoin.calls kj2 _ _ l1 t316 t317 t318 t319 t320 t321 _ ?side1 ?side2 A7.out).mono ?_); (case side1 => exact Kd.C_below HR1.out (by repeat (first | (with_reducible first | exact HB.out | apply below_alloc | apply pw_below_drewN | apply below_drew1 | refine below_set ?_ GE314.out | refine below_set ?_ GE315.out) | exact HB.out))); (case side2 => exact HC1.out); rintro e w16 ⟨rfl, hb⟩; refine ⟨_, rfl, ?_⟩; have n0_ := Aside0.mk (blk_below (g := gb314) (o := .cells #[.bool t308, .int .i64 t309, .int .i64 t310] 25 (0, 0)) (by (with_reducible repeat (first | refine blk_drewN ?_ _ | refine blk_drew ?_ | refine blk_alloc ?_ _)); refine blk_far ?_ NB314_315.out _; (with_reducible repeat (first | refine blk_drewN ?_ _ | refine blk_drew ?_ | refine blk_alloc ?_ _)); refine blk_far ?_ NB314_315.out _; (with_reducible repeat (first | refine blk_drewN ?_ _ | refine blk_drew ?_ | refine blk_alloc ?_ _)); refine blk_far ?_ NB314_315.out _; (with_reducible repeat (first | refine blk_drewN ?_ _ | refine blk_drew ?_ | refine blk_alloc ?_ _)); refine blk_put (cs := #[.bool t308, .int .i64 t309, .int .i64 0]) ?_ 2 _ rfl; (with_reducible repeat (first | refine blk_drewN ?_ _ | refine blk_drew ?_ | refine blk_alloc ?_ _)); refine blk_put (cs := #[.bool t308, .int .i64 0, .int .i64 0]) ?_ 1 _ rfl; (with_reducible repeat (first | refine blk_drewN ?_ _ | refine blk_drew ?_ | refine blk_alloc ?_ _)); refine blk_put (cs := #[.bool false, .int .i64 0, .int .i64 0]) ?_ 0 _ rfl; (with_reducible repeat (first | refine blk_drewN ?_ _ | refine blk_drew ?_ | refine blk_alloc ?_ _)); exact BK314.out) hb); have n1_ := Aside0.mk (blk_below (g := gb315) (o := .cells #[.bool t311, .int .i64 t312, .int .i64 t313] 25 (0, 0)) (by (with_reducible repeat (first | refine blk_drewN ?_ _ | refine blk_drew ?_ | refine blk_alloc ?_ _)); refine blk_put (cs := #[.bool t311, .int .i64 t312, .int .i64 0]) ?_ 2 _ rfl; (with_reducible repeat (first | refine blk_drewN ?_ _ | refine blk_drew ?_ | refine blk_alloc ?_ _)); refine blk_put (cs := #[.bool t311, .int .i64 0, .int .i64 0]) ?_ 1 _ rfl; (with_reducible repeat (first | refine blk_drewN ?_ _ | refine blk_drew ?_ | refine blk_alloc ?_ _)); refine blk_put (cs := #[.bool false, .int .i64 0, .int .i64 0]) ?_ 0 _ rfl; (with_reducible repeat (first | refine blk_drewN ?_ _ | refine blk_drew ?_ | refine blk_alloc ?_ _)); refine blk_far ?_ NB315_314.out _; (with_reducible repeat (first | refine blk_drewN ?_ _ | refine blk_drew ?_ | refine blk_alloc ?_ _)); refine blk_far ?_ NB315_314.out _; (with_reducible repeat (first | refine blk_drewN ?_ _ | refine blk_drew ?_ | refine blk_alloc ?_ _)); refine blk_far ?_ NB315_314.out _; (with_reducible repeat (first | refine blk_drewN ?_ _ | refine blk_drew ?_ | refine blk_alloc ?_ _)); exact BK315.out) hb); have n2_ := Aside0.mk (below_step (by repeat (first | (with_reducible first | exact HB.out | apply below_alloc | apply pw_below_drewN | apply below_drew1 | refine below_set ?_ GE314.out | refine below_set ?_ GE315.out) | exact HB.out)) hb); clear BK314; clear BK315; clear HB; have BK314 := n0_; have BK315 := n1_; have HB := n2_; clear n0_ n1_ n2_; (try clear hb); (try clear hb2); (try clear hk); (try clear hi)) | ((with_reducible refine gate_dst (N := 7) rfl ?_); (try (refine gate_guard (by rfl) ?_; dsimp only)); refine box_event ?hg (N := 7) ?hd (cs := #[.bool false, .int .i64 0, .int .i64 0]) (t := 25) ?hr ?_; (case hd => rfl); (case hg => rfl); (case hr => first | (go_simp; done) | (go_simp; rfl)); intro gb322 hg w17 hbox hb; have n0_ := Aside0.mk (bb_ BK314.out hb); have n1_ := Aside0.mk (bb_ BK315.out hb); have n2_ := Aside0.mk (below_step (by repeat (first | (with_reducible first | exact HB.out | apply below_alloc | apply pw_below_drewN | apply below_drew1 | refine below_set ?_ GE314.out | refine below_set ?_ GE315.out) | exact HB.out)) hb); have n3_ := Aside0.mk (hbox); have n4_ := Aside0.mk ((by rw [hg]; exact (below_size (by repeat (first | (with_reducible first | exact HB.out | apply below_alloc | apply pw_below_drewN | apply below_drew1 | refine below_set ?_ GE314.out | refine below_set ?_ GE315.out) | exact HB.out))) : w.heap.size ≤ gb322)); have n5_ := Aside0.mk ((by rw [hg]; exact (below_size (by repeat (first | (with_reducible first | exact HB.out | apply below_alloc | apply pw_below_drewN | apply below_drew1 | refine below_set ?_ GE314.out | refine below_set ?_ GE315.out) | exact HB.out))) : w.heap.size ≤ gb322)); have n6_ := Aside0.mk ((by rw [hg]; exact Nat.ne_of_lt (blk_lt (g := gb314) (o := .cells #[.bool t308, .int .i64 t309, .int .i64 t310] 25 (0, 0)) (bk_ BK314.out)) : gb314 ≠ gb322)); have n7_ := Aside0.mk ((by rw [hg]; exact Nat.ne_of_gt (blk_lt (g := gb314) (o := .cells #[.bool t308, .int .i64 t309, .int .i64 t310] 25 (0, 0)) (bk_ BK314.out)) : gb322 ≠ gb314)); have n8_ := Aside0.mk ((by rw [hg]; exact Nat.ne_of_lt (blk_lt (g := gb315) (o := .cells #[.bool t311, .int .i64 t312, .int .i64 t313] 25 (0, 0)) (bk_ BK315.out)) : gb315 ≠ gb322)); have n9_ := Aside0.mk ((by rw [hg]; exact Nat.ne_of_gt (blk_lt (g := gb315) (o := .cells #[.bool t311, .int .i64 t312, .int .i64 t313] 25 (0, 0)) (bk_ BK315.out)) : gb322 ≠ gb315)); clear BK314; clear BK315; clear HB; have BK314 := n0_; have BK315 := n1_; have HB := n2_; have BK322 := n3_; have GW322 := n4_; have GE322 := n5_; have NB314_322 := n6_; have NB322_314 := n7_; have NB315_322 := n8_; have NB322_315 := n9_; clear n0_ n1_ n2_ n3_ n4_ n5_ n6_ n7_ n8_ n9_; clear hb hbox hg) | ((with_reducible refine gate_dst (N := 8) rfl ?_); (try (refine gate_guard (by rfl) ?_; dsimp only)); refine box_event ?hg (N := 8) ?hd (cs := #[.bool false, .int .i64 0, .int .i64 0]) (t := 25) ?hr ?_; (case hd => rfl); (case hg => rfl); (case hr => first | (go_simp; done) | (go_simp; rfl)); intro gb323 hg w18 hbox hb; have n0_ := Aside0.mk (bb_ BK314.out hb); have n1_ := Aside0.mk (bb_ BK315.out hb); have n2_ := Aside0.mk (bb_ BK322.out hb); have n3_ := Aside0.mk (below_step (by repeat (first | (with_reducible first | exact HB.out | apply below_alloc | apply pw_below_drewN | apply below_drew1 | refine below_set ?_ GE314.out | refine below_set ?_ GE315.out | refine below_set ?_ GE322.out) | exact HB.out)) hb); have n4_ := Aside0.mk (hbox); have n5_ := Aside0.mk ((by rw [hg]; exact (below_size (by repeat (first | (with_reducible first | exact HB.out | apply below_alloc | apply pw_below_drewN | apply below_drew1 | refine below_set ?_ GE314.out | refine below_set ?_ GE315.out | refine below_set ?_ GE322.out) | exact HB.out))) : w.heap.size ≤ gb323)); have n6_ := Aside0.mk ((by rw [hg]; exact (below_size (by repeat (first | (with_reducible first | exact HB.out | apply below_alloc | apply pw_below_drewN | apply below_drew1 | refine below_set ?_ GE314.out | refine below_set ?_ GE315.out | refine below_set ?_ GE322.out) | exact HB.out))) : w.heap.size ≤ gb323)); have n7_ := Aside0.mk ((by rw [hg]; exact Nat.ne_of_lt (blk_lt (g := gb314) (o := .cells #[.bool t308, .int .i64 t309, .int .i64 t310] 25 (0, 0)) (bk_ BK314.out)) : gb314 ≠ gb323)); have n8_ := Aside0.mk ((by rw [hg]; exact Nat.ne_of_gt (blk_lt (g := gb314) (o := .cells #[.bool t308, .int .i64 t309, .int .i64 t310] 25 (0, 0)) (bk_ BK314.out)) : gb323 ≠ gb314)); have n9_ := Aside0.mk ((by rw [hg]; exact Nat.ne_of_lt (blk_lt (g := gb315) (o := .cells #[.bool t311, .int .i64 t312, .int .i64 t313] 25 (0, 0)) (bk_ BK315.out)) : gb315 ≠ gb323)); have n10_ := Aside0.mk ((by rw [hg]; exact Nat.ne_of_gt (blk_lt (g := gb315) (o := .cells #[.bool t311, .int .i64 t312, .int .i64 t313] 25 (0, 0)) (bk_ BK315.out)) : gb323 ≠ gb315)); have n11_ := Aside0.mk ((by rw [hg]; exact Nat.ne_of_lt (blk_lt (g := gb322) (o := .cells #[.bool false, .int .i64 0, .int .i64 0] 25 (0, 0)) (bk_ BK322.out)) : gb322 ≠ gb323)); have n12_ := Aside0.mk ((by rw [hg]; exact Nat.ne_of_gt (blk_lt (g := gb322) (o := .cells #[.bool false, .int .i64 0, .int .i64 0] 25 (0, 0)) (bk_ BK322.out)) : gb323 ≠ gb322)); clear BK314; clear BK315; clear BK322; clear HB; have BK314 := n0_; have BK315 := n1_; have BK322 := n2_; have HB := n3_; have BK323 := n4_; have GW323 := n5_; have GE323 := n6_; have NB314_323 := n7_; have NB323_314 := n8_; have NB315_323 := n9_; have NB323_315 := n10_; have NB322_323 := n11_; have NB323_322 := n12_; clear n0_ n1_ n2_ n3_ n4_ n5_ n6_ n7_ n8_ n9_ n10_ n11_ n12_; clear hb hbox hg; have hnb19 := NB322_314.out; have hnc19 := NB314_322.out; have hnb20 := NB322_315.out; have hnc20 := NB315_322.out; have hnb21 := NB322_323.out; have hnc21 := NB323_322.out; have hcz22_0 : w18.cell? ⟨gb322, 0, none⟩ = some (.bool false) := (blk_cell BK322.out 0).trans rfl; have hcz22_1 : w18.cell? ⟨gb322, 1, none⟩ = some (.int .i64 0) := (blk_cell BK322.out 1).trans rfl; have hcz22_2 : w18.cell? ⟨gb322, 2, none⟩ = some (.int .i64 0) := (blk_cell BK322.out 2).trans rfl; have hfz22_0 := blk_frozen BK322.out 0; have hfz22_1 := blk_frozen BK322.out 1; have hfz22_2 := blk_frozen BK322.out 2; have hnb23 := NB323_314.out; have hnc23 := NB314_323.out; have hnb24 := NB323_315.out; have hnc24 := NB315_323.out; have hcz25_0 : w18.cell? ⟨gb323, 0, none⟩ = some (.bool false) := (blk_cell BK323.out 0).trans rfl; have hcz25_1 : w18.cell? ⟨gb323, 1, none⟩ = some (.int .i64 0) := (blk_cell BK323.out 1).trans rfl; have hcz25_2 : w18.cell? ⟨gb323, 2, none⟩ = some (.int .i64 0) := (blk_cell BK323.out 2).trans rfl; have hfz25_0 := blk_frozen BK323.out 0; have hfz25_1 := blk_frozen BK323.out 1; have hfz25_2 := blk_frozen BK323.out 2; have hcz26_0 : w18.cell? ⟨gb314, 0, none⟩ = some (.bool t308) := (blk_cell BK314.out 0).trans rfl; have hcz26_1 : w18.cell? ⟨gb314, 1, none⟩ = some (.int .i64 t309) := (blk_cell BK314.out 1).trans rfl; have hcz26_2 : w18.cell? ⟨gb314, 2, none⟩ = some (.int .i64 t310) := (blk_cell BK314.out 2).trans rfl; have hfz26_0 := blk_frozen BK314.out 0; have hfz26_1 := blk_frozen BK314.out 1; have hfz26_2 := blk_frozen BK314.out 2; have hcz27_0 : w18.cell? ⟨gb315, 0, none⟩ = some (.bool t311) := (blk_cell BK315.out 0).trans rfl; have hcz27_1 : w18.cell? ⟨gb315, 1, none⟩ = some (.int .i64 t312) := (blk_cell BK315.out 1).trans rfl; have hcz27_2 : w18.cell? ⟨gb315, 2, none⟩ = some (.int .i64 t313) := (blk_cell BK315.out 2).trans rfl; have hfz27_0 := blk_frozen BK315.out 0; have hfz27_1 := blk_frozen BK315.out 1; have hfz27_2 := blk_frozen BK315.out 2) | ((with_reducible refine gate_callee (f := 17) rfl ?_); refine goesL_ (some 30) rfl rfl Try.func17 (by kernel_rfl) rfl #[.agg #[.bool t308, .int .i64 t309, .int .i64 t310], .agg #[.bool t311, .int .i64 t312, .int .i64 t313]] rfl (by (try simp only [List.map_toArray, List.map_cons, List.map_nil]); first | done | rfl | (simp only [List.length_drop, List.length_take]; rfl)) ?_; (with_reducible refine (impl_SpanJoin.calls kj2 t308 t309 t310 t311 t312 t313 t324 t325 t326 _ A8.out).mono ?_); rintro e w28 ⟨rfl, hb⟩; refine ⟨_, rfl, ?_⟩; have n0_ := Aside0.mk (blk_below (g := gb314) (o := .cells #[.bool t308, .int .i64 t309, .int .i64 t310] 25 (0, 0)) (by (with_reducible repeat (first | refine blk_drewN ?_ _ | refine blk_drew ?_ | refine blk_alloc ?_ _)); refine blk_far ?_ NB314_323.out _; (with_reducible repeat (first | refine blk_drewN ?_ _ | refine blk_drew ?_ | refine blk_alloc ?_ _)); refine blk_far ?_ NB314_323.out _; (with_reducible repeat (first | refine blk_drewN ?_ _ | refine blk_drew ?_ | refine blk_alloc ?_ _)); refine blk_far ?_ NB314_323.out _; (with_reducible repeat (first | refine blk_drewN ?_ _ | refine blk_drew ?_ | refine blk_alloc ?_ _)); refine blk_far ?_ NB314_322.out _; (with_reducible repeat (first | refine blk_drewN ?_ _ | refine blk_drew ?_ | refine blk_alloc ?_ _)); refine blk_far ?_ NB314_322.out _; (with_reducible repeat (first | refine blk_drewN ?_ _ | refine blk_drew ?_ | refine blk_alloc ?_ _)); refine blk_far ?_ NB314_322.out _; (with_reducible repeat (first | refine blk_drewN ?_ _ | refine blk_drew ?_ | refine blk_alloc ?_ _)); exact BK314.out) hb); have n1_ := Aside0.mk (blk_below (g := gb315) (o := .cells #[.bool t311, .int .i64 t312, .int .i64 t313] 25 (0, 0)) (by (with_reducible repeat (first | refine blk_drewN ?_ _ | refine blk_drew ?_ | refine blk_alloc ?_ _)); refine blk_far ?_ NB315_323.out _; (with_reducible repeat (first | refine blk_drewN ?_ _ | refine blk_drew ?_ | refine blk_alloc ?_ _)); refine blk_far ?_ NB315_323.out _; (with_reducible repeat (first | refine blk_drewN ?_ _ | refine blk_drew ?_ | refine blk_alloc ?_ _)); refine blk_far ?_ NB315_323.out _; (with_reducible repeat (first | refine blk_drewN ?_ _ | refine blk_drew ?_ | refine blk_alloc ?_ _)); refine blk_far ?_ NB315_322.out _; (with_reducible repeat (first | refine blk_drewN ?_ _ | refine blk_drew ?_ | refine blk_alloc ?_ _)); refine blk_far ?_ NB315_322.out _; (with_reducible repeat (first | refine blk_drewN ?_ _ | refine blk_drew ?_ | refine blk_alloc ?_ _)); refine blk_far ?_ NB315_322.out _; (with_reducible repeat (first | refine blk_drewN ?_ _ | refine blk_drew ?_ | refine blk_alloc ?_ _)); exact BK315.out) hb); have n2_ := Aside0.mk (blk_below (g := gb322) (o := .cells #[.bool t316, .int .i64 t317, .int .i64 t318] 25 (0, 0)) (by (with_reducible repeat (first | refine blk_drewN ?_ _ | refine blk_drew ?_ | refine blk_alloc ?_ _)); refine blk_far ?_ NB322_323.out _; (with_reducible repeat (first | refine blk_drewN ?_ _ | refine blk_drew ?_ | refine blk_alloc ?_ _)); refine blk_far ?_ NB322_323.out _; (with_reducible repeat (first | refine blk_drewN ?_ _ | refine blk_drew ?_ | refine blk_alloc ?_ _)); refine blk_far ?_ NB322_323.out _; (with_reducible repeat (first | refine blk_drewN ?_ _ | refine blk_drew ?_ | refine blk_alloc ?_ _)); refine blk_put (cs := #[.bool t316, .int .i64 t317, .int .i64 0]) ?_ 2 _ rfl; (with_reducible repeat (first | refine blk_drewN ?_ _ | refine blk_drew ?_ | refine blk_alloc ?_ _)); refine blk_put (cs := #[.bool t316, .int .i64 0, .int .i64 0]) ?_ 1 _ rfl; (with_reducible repeat (first | refine blk_drewN ?_ _ | refine blk_drew ?_ | refine blk_alloc ?_ _)); refine blk_put (cs := #[.bool false, .int .i64 0, .int .i64 0]) ?_ 0 _ rfl; (with_reducible repeat (first | refine blk_drewN ?_ _ | refine blk_drew ?_ | refine blk_alloc ?_ _)); exact BK322.out) hb); have n3_ := Aside0.mk (blk_below (g := gb323) (o := .cells #[.bool t319, .int .i64 t320, .int .i64 t321] 25 (0, 0)) (by (with_reducible repeat (first | refine blk_drewN ?_ _ | refine blk_drew ?_ | refine blk_alloc ?_ _)); refine blk_put (cs := #[.bool t319, .int .i64 t320, .int .i64 0]) ?_ 2 _ rfl; (with_reducible repeat (first | refine blk_drewN ?_ _ | refine blk_drew ?_ | refine blk_alloc ?_ _)); refine blk_put (cs := #[.bool t319, .int .i64 0, .int .i64 0]) ?_ 1 _ rfl; (with_reducible repeat (first | refine blk_drewN ?_ _ | refine blk_drew ?_ | refine blk_alloc ?_ _)); refine blk_put (cs := #[.bool false, .int .i64 0, .int .i64 0]) ?_ 0 _ rfl; (with_reducible repeat (first | refine blk_drewN ?_ _ | refine blk_drew ?_ | refine blk_alloc ?_ _)); refine blk_far ?_ NB323_322.out _; (with_reducible repeat (first | refine blk_drewN ?_ _ | refine blk_drew ?_ | refine blk_alloc ?_ _)); refine blk_far ?_ NB323_322.out _; (with_reducible repeat (first | refine blk_drewN ?_ _ | refine blk_drew ?_ | refine blk_alloc ?_ _)); refine blk_far ?_ NB323_322.out _; (with_reducible repeat (first | refine blk_drewN ?_ _ | refine blk_drew ?_ | refine blk_alloc ?_ _)); exact BK323.out) hb); have n4_ := Aside0.mk (below_step (by repeat (first | (with_reducible first | exact HB.out | apply below_alloc | apply pw_below_drewN | apply below_drew1 | refine below_set ?_ GE314.out | refine below_set ?_ GE315.out | refine below_set ?_ GE322.out | refine below_set ?_ GE323.out) | exact HB.out)) hb); clear BK314; clear BK315; clear BK322; clear BK323; clear HB; have BK314 := n0_; have BK315 := n1_; have BK322 := n2_; have BK323 := n3_; have HB := n4_; clear n0_ n1_ n2_ n3_ n4_; (try clear hb); (try clear hb2); (try clear hk); (try clear hi)) | ((with_reducible refine gate_dst (N := 9) rfl ?_); (try (refine gate_guard (by rfl) ?_; dsimp only)); refine box_event ?hg (N := 9) ?hd (cs := #[.bool false, .int .i64 0, .int .i64 0]) (t := 25) ?hr ?_; (case hd => rfl); (case hg => rfl); (case hr => first | (go_simp; done) | (go_simp; rfl)); intro gb327 hg w29 hbox hb; have n0_ := Aside0.mk (bb_ BK314.out hb); have n1_ := Aside0.mk (bb_ BK315.out hb); have n2_ := Aside0.mk (bb_ BK322.out hb); have n3_ := Aside0.mk (bb_ BK323.out hb); have n4_ := Aside0.mk (below_step (by repeat (first | (with_reducible first | exact HB.out | apply below_alloc | apply pw_below_drewN | apply below_drew1 | refine below_set ?_ GE314.out | refine below_set ?_ GE315.out | refine below_set ?_ GE322.out | refine below_set ?_ GE323.out) | exact HB.out)) hb); have n5_ := Aside0.mk (hbox); have n6_ := Aside0.mk ((by rw [hg]; exact (below_size (by repeat (first | (with_reducible first | exact HB.out | apply below_alloc | apply pw_below_drewN | apply below_drew1 | refine below_set ?_ GE314.out | refine below_set ?_ GE315.out | refine below_set ?_ GE322.out | refine below_set ?_ GE323.out) | exact HB.out))) : w.heap.size ≤ gb327)); have n7_ := Aside0.mk ((by rw [hg]; exact (below_size (by repeat (first | (with_reducible first | exact HB.out | apply below_alloc | apply pw_below_drewN | apply below_drew1 | refine below_set ?_ GE314.out | refine below_set ?_ GE315.out | refine below_set ?_ GE322.out | refine below_set ?_ GE323.out) | exact HB.out))) : w.heap.size ≤ gb327)); have n8_ := Aside0.mk ((by rw [hg]; exact Nat.ne_of_lt (blk_lt (g := gb314) (o := .cells #[.bool t308, .int .i64 t309, .int .i64 t310] 25 (0, 0)) (bk_ BK314.out)) : gb314 ≠ gb327)); have n9_ := Aside0.mk ((by rw [hg]; exact Nat.ne_of_gt (blk_lt (g := gb314) (o := .cells #[.bool t308, .int .i64 t309, .int .i64 t310] 25 (0, 0)) (bk_ BK314.out)) : gb327 ≠ gb314)); have n10_ := Aside0.mk ((by rw [hg]; exact Nat.ne_of_lt (blk_lt (g := gb315) (o := .cells #[.bool t311, .int .i64 t312, .int .i64 t313] 25 (0, 0)) (bk_ BK315.out)) : gb315 ≠ gb327)); have n11_ := Aside0.mk ((by rw [hg]; exact Nat.ne_of_gt (blk_lt (g := gb315) (o := .cells #[.bool t311, .int .i64 t312, .int .i64 t313] 25 (0, 0)) (bk_ BK315.out)) : gb327 ≠ gb315)); have n12_ := Aside0.mk ((by rw [hg]; exact Nat.ne_of_lt (blk_lt (g := gb322) (o := .cells #[.bool t316, .int .i64 t317, .int .i64 t318] 25 (0, 0)) (bk_ BK322.out)) : gb322 ≠ gb327)); have n13_ := Aside0.mk ((by rw [hg]; exact Nat.ne_of_gt (blk_lt (g := gb322) (o := .cells #[.bool t316, .int .i64 t317, .int .i64 t318] 25 (0, 0)) (bk_ BK322.out)) : gb327 ≠ gb322)); have n14_ := Aside0.mk ((by rw [hg]; exact Nat.ne_of_lt (blk_lt (g := gb323) (o := .cells #[.bool t319, .int .i64 t320, .int .i64 t321] 25 (0, 0)) (bk_ BK323.out)) : gb323 ≠ gb327)); have n15_ := Aside0.mk ((by rw [hg]; exact Nat.ne_of_gt (blk_lt (g := gb323) (o := .cells #[.bool t319, .int .i64 t320, .int .i64 t321] 25 (0, 0)) (bk_ BK323.out)) : gb327 ≠ gb323)); clear BK314; clear BK315; clear BK322; clear BK323; clear HB; have BK314 := n0_; have BK315 := n1_; have BK322 := n2_; have BK323 := n3_; have HB := n4_; have BK327 := n5_; have GW327 := n6_; have GE327 := n7_; have NB314_327 := n8_; have NB327_314 := n9_; have NB315_327 := n10_; have NB327_315 := n11_; have NB322_327 := n12_; have NB327_322 := n13_; have NB323_327 := n14_; have NB327_323 := n15_; clear n0_ n1_ n2_ n3_ n4_ n5_ n6_ n7_ n8_ n9_ n10_ n11_ n12_ n13_ n14_ n15_; clear hb hbox hg; have hnb30 := NB327_314.out; have hnc30 := NB314_327.out; have hnb31 := NB327_315.out; have hnc31 := NB315_327.out; have hnb32 := NB327_322.out; have hnc32 := NB322_327.out; have hnb33 := NB327_323.out; have hnc33 := NB323_327.out; have hcz34_0 : w29.cell? ⟨gb327, 0, none⟩ = some (.bool false) := (blk_cell BK327.out 0).trans rfl; have hcz34_1 : w29.cell? ⟨gb327, 1, none⟩ = some (.int .i64 0) := (blk_cell BK327.out 1).trans rfl; have hcz34_2 : w29.cell? ⟨gb327, 2, none⟩ = some (.int .i64 0) := (blk_cell BK327.out 2).trans rfl; have hfz34_0 := blk_frozen BK327.out 0; have hfz34_1 := blk_frozen BK327.out 1; have hfz34_2 := blk_frozen BK327.out 2))
    (try simp only [Act.put, sA, sB, sC])
    go_cut [50] (fun v50 wc => ∃ (kq : Nat) (x50_8 : Bool), v50 = .bool x50_8 ∧ Aside0 (laws_FnSpanJoin.j1 kq x50_8 t308 t309 t310 t311 t312 t313 t316 t317 t318 t324 t325 t326 = some r) ∧ Aside0 (kq ≤ kj2) ∧ Aside0 (wc.heap[gb314]? = some (.cells #[.bool t308, .int .i64 t309, .int .i64 t310] 25 (0, 0))) ∧ Aside0 (wc.heap[gb315]? = some (.cells #[.bool t311, .int .i64 t312, .int .i64 t313] 25 (0, 0))) ∧ Aside0 (wc.heap[gb322]? = some (.cells #[.bool t316, .int .i64 t317, .int .i64 t318] 25 (0, 0))) ∧ Aside0 (wc.heap[gb323]? = some (.cells #[.bool t319, .int .i64 t320, .int .i64 t321] 25 (0, 0))) ∧ Aside0 (wc.heap[gb327]? = some (.cells #[.bool t324, .int .i64 t325, .int .i64 t326] 25 (0, 0))) ∧ Aside0 (Below w.heap.size w wc))
    case first =>
     have H := HC9.out
     clear HC9
     replace H := Option.bind_eq_some_iff.mp H
     obtain ⟨⟨t328, t329, t330⟩, A350, H⟩ := H
     replace H : (if (!(t324 == t328) || (!(t325 == t329) || (!(t326 == t330)))) = true then (laws_FnSpanJoin.j1 kj2 true t308 t309 t310 t311 t312 t313 t316 t317 t318 t324 t325 t326) else ((spec_SpanOk.f t308 t309 t310).bind fun t331 => (if t331 = true then ((spec_SpanOk.f t311 t312 t313).bind fun t332 => (if t332 = true then ((spec_SpanOk.f t316 t317 t318).bind fun t333 => (laws_FnSpanJoin.j1 kj2 (!t333) t308 t309 t310 t311 t312 t313 t316 t317 t318 t324 t325 t326)) else (laws_FnSpanJoin.j1 kj2 true t308 t309 t310 t311 t312 t313 t316 t317 t318 t324 t325 t326))) else (laws_FnSpanJoin.j1 kj2 true t308 t309 t310 t311 t312 t313 t316 t317 t318 t324 t325 t326)))) = some r := H
     have A35 := Aside0.mk A350
     clear A350
     by_cases c36 : (!(t324 == t328) || (!(t325 == t329) || (!(t326 == t330)))) = true
     ·rw [if_pos c36] at H
      have c36b0 : (!(t324 == t328) || (!(t325 == t329) || (!(t326 == t330)))) = true := c36
      clear c36
      (first | rw [c36b0] | (simp only [i64_w, i32_w]; rw [c36b0]) | skip)
      have H' := Aside0.mk H
      clear H
      try go_wp2
      have n0_ : Aside0 ((((w29.setCell ⟨gb327, 0, none⟩ (.bool t324)).setCell ⟨gb327, 1, none⟩ (.int .i64 t325)).setCell ⟨gb327, 2, none⟩ (.int .i64 t326)).heap[gb314]? = some (.cells #[.bool t308, .int .i64 t309, .int .i64 t310] 25 (0, 0))) := ⟨by (with_reducible repeat (first | refine blk_drewN ?_ _ | refine blk_drew ?_ | refine blk_alloc ?_ _)); refine blk_far ?_ NB314_327.out _; (with_reducible repeat (first | refine blk_drewN ?_ _ | refine blk_drew ?_ | refine blk_alloc ?_ _)); refine blk_far ?_ NB314_327.out _; (with_reducible repeat (first | refine blk_drewN ?_ _ | refine blk_drew ?_ | refine blk_alloc ?_ _)); refine blk_far ?_ NB314_327.out _; (with_reducible repeat (first | refine blk_drewN ?_ _ | refine blk_drew ?_ | refine blk_alloc ?_ _)); exact BK314.out⟩
      have n1_ : Aside0 ((((w29.setCell ⟨gb327, 0, none⟩ (.bool t324)).setCell ⟨gb327, 1, none⟩ (.int .i64 t325)).setCell ⟨gb327, 2, none⟩ (.int .i64 t326)).heap[gb315]? = some (.cells #[.bool t311, .int .i64 t312, .int .i64 t313] 25 (0, 0))) := ⟨by (with_reducible repeat (first | refine blk_drewN ?_ _ | refine blk_drew ?_ | refine blk_alloc ?_ _)); refine blk_far ?_ NB315_327.out _; (with_reducible repeat (first | refine blk_drewN ?_ _ | refine blk_drew ?_ | refine blk_alloc ?_ _)); refine blk_far ?_ NB315_327.out _; (with_reducible repeat (first | refine blk_drewN ?_ _ | refine blk_drew ?_ | refine blk_alloc ?_ _)); refine blk_far ?_ NB315_327.out _; (with_reducible repeat (first | refine blk_drewN ?_ _ | refine blk_drew ?_ | refine blk_alloc ?_ _)); exact BK315.out⟩
      have n2_ : Aside0 ((((w29.setCell ⟨gb327, 0, none⟩ (.bool t324)).setCell ⟨gb327, 1, none⟩ (.int .i64 t325)).setCell ⟨gb327, 2, none⟩ (.int .i64 t326)).heap[gb322]? = some (.cells #[.bool t316, .int .i64 t317, .int .i64 t318] 25 (0, 0))) := ⟨by (with_reducible repeat (first | refine blk_drewN ?_ _ | refine blk_drew ?_ | refine blk_alloc ?_ _)); refine blk_far ?_ NB322_327.out _; (with_reducible repeat (first | refine blk_drewN ?_ _ | refine blk_drew ?_ | refine blk_alloc ?_ _)); refine blk_far ?_ NB322_327.out _; (with_reducible repeat (first | refine blk_drewN ?_ _ | refine blk_drew ?_ | refine blk_alloc ?_ _)); refine blk_far ?_ NB322_327.out _; (with_reducible repeat (first | refine blk_drewN ?_ _ | refine blk_drew ?_ | refine blk_alloc ?_ _)); exact BK322.out⟩
      have n3_ : Aside0 ((((w29.setCell ⟨gb327, 0, none⟩ (.bool t324)).setCell ⟨gb327, 1, none⟩ (.int .i64 t325)).setCell ⟨gb327, 2, none⟩ (.int .i64 t326)).heap[gb323]? = some (.cells #[.bool t319, .int .i64 t320, .int .i64 t321] 25 (0, 0))) := ⟨by (with_reducible repeat (first | refine blk_drewN ?_ _ | refine blk_drew ?_ | refine blk_alloc ?_ _)); refine blk_far ?_ NB323_327.out _; (with_reducible repeat (first | refine blk_drewN ?_ _ | refine blk_drew ?_ | refine blk_alloc ?_ _)); refine blk_far ?_ NB323_327.out _; (with_reducible repeat (first | refine blk_drewN ?_ _ | refine blk_drew ?_ | refine blk_alloc ?_ _)); refine blk_far ?_ NB323_327.out _; (with_reducible repeat (first | refine blk_drewN ?_ _ | refine blk_drew ?_ | refine blk_alloc ?_ _)); exact BK323.out⟩
      have n4_ : Aside0 ((((w29.setCell ⟨gb327, 0, none⟩ (.bool t324)).setCell ⟨gb327, 1, none⟩ (.int .i64 t325)).setCell ⟨gb327, 2, none⟩ (.int .i64 t326)).heap[gb327]? = some (.cells #[.bool t324, .int .i64 t325, .int .i64 t326] 25 (0, 0))) := ⟨by (with_reducible repeat (first | refine blk_drewN ?_ _ | refine blk_drew ?_ | refine blk_alloc ?_ _)); refine blk_put (cs := #[.bool t324, .int .i64 t325, .int .i64 0]) ?_ 2 _ rfl; (with_reducible repeat (first | refine blk_drewN ?_ _ | refine blk_drew ?_ | refine blk_alloc ?_ _)); refine blk_put (cs := #[.bool t324, .int .i64 0, .int .i64 0]) ?_ 1 _ rfl; (with_reducible repeat (first | refine blk_drewN ?_ _ | refine blk_drew ?_ | refine blk_alloc ?_ _)); refine blk_put (cs := #[.bool false, .int .i64 0, .int .i64 0]) ?_ 0 _ rfl; (with_reducible repeat (first | refine blk_drewN ?_ _ | refine blk_drew ?_ | refine blk_alloc ?_ _)); exact BK327.out⟩
      have n5_ : Aside0 (Below w.heap.size w (((w29.setCell ⟨gb327, 0, none⟩ (.bool t324)).setCell ⟨gb327, 1, none⟩ (.int .i64 t325)).setCell ⟨gb327, 2, none⟩ (.int .i64 t326))) := ⟨by repeat (first | (with_reducible first | exact HB.out | apply below_alloc | apply pw_below_drewN | apply below_drew1 | refine below_set ?_ GE314.out | refine below_set ?_ GE315.out | refine below_set ?_ GE322.out | refine below_set ?_ GE323.out | refine below_set ?_ GE327.out) | exact HB.out)⟩
      (try clear BK314)
      (try clear BK315)
      (try clear BK322)
      (try clear BK323)
      (try clear BK327)
      (try clear HB)
      generalize (((w29.setCell ⟨gb327, 0, none⟩ (.bool t324)).setCell ⟨gb327, 1, none⟩ (.int .i64 t325)).setCell ⟨gb327, 2, none⟩ (.int .i64 t326)) = w37 at n0_ n1_ n2_ n3_ n4_ n5_ ⊢
      have BK314 := n0_
      have BK315 := n1_
      have BK322 := n2_
      have BK323 := n3_
      have BK327 := n4_
      have HB := n5_
      clear n0_ n1_ n2_ n3_ n4_ n5_
      have n0_ := Aside0.mk (blk_drew BK314.out)
      have n1_ := Aside0.mk (blk_drew BK315.out)
      have n2_ := Aside0.mk (blk_drew BK322.out)
      have n3_ := Aside0.mk (blk_drew BK323.out)
      have n4_ := Aside0.mk (blk_drew BK327.out)
      have n5_ := Aside0.mk (below_drew1 HB.out)
      clear BK314
      clear BK315
      clear BK322
      clear BK323
      clear BK327
      clear HB
      have BK314 := n0_
      have BK315 := n1_
      have BK322 := n2_
      have BK323 := n3_
      have BK327 := n4_
      have HB := n5_
      clear n0_ n1_ n2_ n3_ n4_ n5_
      refine start_ (n := 20) (S := fun w' => w'.cell? ⟨gb327, 0, none⟩ = some (.bool t324) ∧ w'.cell? ⟨gb327, 1, none⟩ = some (.int .i64 t325) ∧ w'.cell? ⟨gb327, 2, none⟩ = some (.int .i64 t326) ∧ w'.cell? ⟨gb314, 0, none⟩ = some (.bool t308) ∧ w'.cell? ⟨gb314, 1, none⟩ = some (.int .i64 t309) ∧ w'.cell? ⟨gb314, 2, none⟩ = some (.int .i64 t310) ∧ w'.cell? ⟨gb315, 0, none⟩ = some (.bool t311) ∧ w'.cell? ⟨gb315, 1, none⟩ = some (.int .i64 t312) ∧ w'.cell? ⟨gb315, 2, none⟩ = some (.int .i64 t313)) (ds := []) #[false, false, false, false, false, false, false, false, false, false, false, false, false, false, false, false, false, false, false, false] (by kernel_rfl) rfl rfl ⟨(blk_cell BK327.out 0).trans rfl, (blk_cell BK327.out 1).trans rfl, (blk_cell BK327.out 2).trans rfl, (blk_cell BK314.out 0).trans rfl, (blk_cell BK314.out 1).trans rfl, (blk_cell BK314.out 2).trans rfl, (blk_cell BK315.out 0).trans rfl, (blk_cell BK315.out 1).trans rfl, (blk_cell BK315.out 2).trans rfl⟩ (fun hHeld => ?_); refine with_tabW laws_FnSpanJoin.tab6 laws_FnSpanJoin.bits6 (fun HT_ HW_ => ?_)
      generalize w37.drew = w38 at BK314 BK315 BK322 BK323 BK327 HB hHeld ⊢
      refine take_ (i := 0) (N := some 31) (v := ?_) (a' := ?_) #[true, false, false, false, false, false, false, false, false, false, false, false, false, false, false, false, false, false, false, false] rfl rfl (take_ofW HT_.out HW_.out (by kernel_rfl)) (fun _ _ _ h => h) (Or.inl ⟨by rfl, ?_⟩) hHeld ?_ ?_
      rotate_left
      ·rintro w' ⟨s0, s1, s2, s3, s4, s5, s6, s7, s8⟩
       go_simp
       with_reducible rfl
      rotate_left
      ·simp only [Act.put, sA, sB, sC, i64_w, i32_w]
       rfl
      refine take_ (i := 1) (N := some 32) (v := ?_) (a' := ?_) #[true, true, false, false, false, false, false, false, false, false, false, false, false, false, false, false, false, false, false, false] rfl rfl (take_ofW HT_.out HW_.out (by kernel_rfl)) (fun _ _ _ h => h) (Or.inl ⟨by rfl, ?_⟩) hHeld ?_ ?_
      rotate_left
      ·rintro w' ⟨s0, s1, s2, s3, s4, s5, s6, s7, s8⟩
       go_simp
       with_reducible rfl
      rotate_left
      ·simp only [Act.put, sA, sB, sC, i64_w, i32_w]
       rfl
      refine take_ (i := 2) (N := some 33) (v := ?_) (a' := ?_) #[true, true, true, false, false, false, false, false, false, false, false, false, false, false, false, false, false, false, false, false] rfl rfl (take_ofW HT_.out HW_.out (by kernel_rfl)) (fun _ _ _ h => h) (Or.inl ⟨by rfl, ?_⟩) hHeld ?_ ?_
      rotate_left
      ·rintro w' ⟨s0, s1, s2, s3, s4, s5, s6, s7, s8⟩
       go_simp
       with_reducible rfl
      rotate_left
      ·simp only [Act.put, sA, sB, sC, i64_w, i32_w]
       rfl
      refine one_ (i := 3) (N := some 34) #[true, true, true, true, false, false, false, false, false, false, false, false, false, false, false, false, false, false, false, false] rfl rfl (one_of HT_.out (by kernel_rfl)) (by decide) (fun K hK => ?_)
      refine goes_ Try.func15 (by kernel_rfl) rfl #[.agg #[.bool t308, .int .i64 t309, .int .i64 t310], .agg #[.bool t311, .int .i64 t312, .int .i64 t313]] (by rfl) rfl rfl (by (try simp only [List.map_toArray, List.map_cons, List.map_nil]); first | done | rfl | (simp only [List.length_drop, List.length_take]; rfl)) ?_
      with_reducible refine (spec_SpanJoin.calls kj2 t308 t309 t310 t311 t312 t313 t328 t329 t330 _ A35.out).mono ?_
      rintro e w39 ⟨rfl, hb⟩
      refine ⟨_, rfl, ?_⟩
      have n0_ := Aside0.mk (bb_ BK314.out hb)
      have n1_ := Aside0.mk (bb_ BK315.out hb)
      have n2_ := Aside0.mk (bb_ BK322.out hb)
      have n3_ := Aside0.mk (bb_ BK323.out hb)
      have n4_ := Aside0.mk (bb_ BK327.out hb)
      have n5_ := Aside0.mk (below_step (by repeat (first | (with_reducible first | exact HB.out | apply below_alloc | apply pw_below_drewN | apply below_drew1 | refine below_set ?_ GE314.out | refine below_set ?_ GE315.out | refine below_set ?_ GE322.out | refine below_set ?_ GE323.out | refine below_set ?_ GE327.out) | exact HB.out)) hb)
      clear BK314
      clear BK315
      clear BK322
      clear BK323
      clear BK327
      clear HB
      have BK314 := n0_
      have BK315 := n1_
      have BK322 := n2_
      have BK323 := n3_
      have BK327 := n4_
      have HB := n5_
      clear n0_ n1_ n2_ n3_ n4_ n5_
      (try clear hb)
      (try clear hb2)
      (try clear hk)
      (try clear hi)
      refine hK.out _ _ ⟨(blk_cell BK327.out 0).trans rfl, (blk_cell BK327.out 1).trans rfl, (blk_cell BK327.out 2).trans rfl, (blk_cell BK314.out 0).trans rfl, (blk_cell BK314.out 1).trans rfl, (blk_cell BK314.out 2).trans rfl, (blk_cell BK315.out 0).trans rfl, (blk_cell BK315.out 1).trans rfl, (blk_cell BK315.out 2).trans rfl⟩ (fun hHeld => ?_)
      clear hK K
      refine norm_ (a' := ?_) ?_ ?_
      rotate_left
      ·show Act.put _ (some 34) _ = _
       simp only [Act.put, sA, sB, sC, i64_w, i32_w]
       rfl
      refine pure_ (i := 4) (N := some 35) (v := ?_) (a' := ?_) #[true, true, true, true, true, false, false, false, false, false, false, false, false, false, false, false, false, false, false, false] rfl rfl (any_of HT_.out (by kernel_rfl)) (fun _ _ _ h => h) (Or.inl ⟨by rfl, ?_⟩) ?_ ?_
      rotate_left
      ·intro w'
       go_simp
       with_reducible rfl
      rotate_left
      ·simp only [Act.put, sA, sB, sC, i64_w, i32_w]
       rfl
      refine pure_ (i := 5) (N := some 36) (v := ?_) (a' := ?_) #[true, true, true, true, true, true, false, false, false, false, false, false, false, false, false, false, false, false, false, false] rfl rfl (any_of HT_.out (by kernel_rfl)) (fun _ _ _ h => h) (Or.inl ⟨by rfl, ?_⟩) ?_ ?_
      rotate_left
      ·intro w'
       go_simp
       with_reducible rfl
      rotate_left
      ·simp only [Act.put, sA, sB, sC, i64_w, i32_w]
       rfl
      refine pure_ (i := 6) (N := some 37) (v := undef) (a' := ?_) #[true, true, true, true, true, true, true, false, false, false, false, false, false, false, false, false, false, false, false, false] rfl rfl (any_of HT_.out (by kernel_rfl)) (fun _ _ _ h => h) (Or.inr ⟨by rfl, rfl⟩) ?_ ?_
      rotate_left
      ·simp only [Act.put, sA, sB, sC, i64_w, i32_w]
       rfl
      refine pure_ (i := 7) (N := some 38) (v := undef) (a' := ?_) #[true, true, true, true, true, true, true, true, false, false, false, false, false, false, false, false, false, false, false, false] rfl rfl (any_of HT_.out (by kernel_rfl)) (fun _ _ _ h => h) (Or.inr ⟨by rfl, rfl⟩) ?_ ?_
      rotate_left
      ·simp only [Act.put, sA, sB, sC, i64_w, i32_w]
       rfl
      refine pure_ (i := 8) (N := some 39) (v := undef) (a' := ?_) #[true, true, true, true, true, true, true, true, true, false, false, false, false, false, false, false, false, false, false, false] rfl rfl (any_of HT_.out (by kernel_rfl)) (fun _ _ _ h => h) (Or.inr ⟨by rfl, rfl⟩) ?_ ?_
      rotate_left
      ·simp only [Act.put, sA, sB, sC, i64_w, i32_w]
       rfl
      refine pure_ (i := 9) (N := some 40) (v := ?_) (a' := ?_) #[true, true, true, true, true, true, true, true, true, true, false, false, false, false, false, false, false, false, false, false] rfl rfl (any_of HT_.out (by kernel_rfl)) (fun _ _ _ h => h) (Or.inl ⟨by rfl, ?_⟩) ?_ ?_
      rotate_left
      ·intro w'
       go_simp
       with_reducible rfl
      rotate_left
      ·simp only [Act.put, sA, sB, sC, i64_w, i32_w]
       rfl
      refine pure_ (i := 10) (N := some 41) (v := ?_) (a' := ?_) #[true, true, true, true, true, true, true, true, true, true, true, false, false, false, false, false, false, false, false, false] rfl rfl (any_of HT_.out (by kernel_rfl)) (fun _ _ _ h => h) (Or.inl ⟨by rfl, ?_⟩) ?_ ?_
      rotate_left
      ·intro w'
       go_simp
       with_reducible rfl
      rotate_left
      ·simp only [Act.put, sA, sB, sC, i64_w, i32_w]
       rfl
      refine pure_ (i := 11) (N := some 42) (v := undef) (a' := ?_) #[true, true, true, true, true, true, true, true, true, true, true, true, false, false, false, false, false, false, false, false] rfl rfl (any_of HT_.out (by kernel_rfl)) (fun _ _ _ h => h) (Or.inr ⟨by rfl, rfl⟩) ?_ ?_
      rotate_left
      ·simp only [Act.put, sA, sB, sC, i64_w, i32_w]
       rfl
      refine pure_ (i := 12) (N := some 43) (v := undef) (a' := ?_) #[true, true, true, true, true, true, true, true, true, true, true, true, true, false, false, false, false, false, false, false] rfl rfl (any_of HT_.out (by kernel_rfl)) (fun _ _ _ h => h) (Or.inr ⟨by rfl, rfl⟩) ?_ ?_
      rotate_left
      ·simp only [Act.put, sA, sB, sC, i64_w, i32_w]
       rfl
      refine pure_ (i := 13) (N := some 44) (v := undef) (a' := ?_) #[true, true, true, true, true, true, true, true, true, true, true, true, true, true, false, false, false, false, false, false] rfl rfl (any_of HT_.out (by kernel_rfl)) (fun _ _ _ h => h) (Or.inr ⟨by rfl, rfl⟩) ?_ ?_
      rotate_left
      ·simp only [Act.put, sA, sB, sC, i64_w, i32_w]
       rfl
      refine pure_ (i := 14) (N := some 45) (v := ?_) (a' := ?_) #[true, true, true, true, true, true, true, true, true, true, true, true, true, true, true, false, false, false, false, false] rfl rfl (any_of HT_.out (by kernel_rfl)) (fun _ _ _ h => h) (Or.inl ⟨by rfl, ?_⟩) ?_ ?_
      rotate_left
      ·intro w'
       go_simp
       with_reducible rfl
      rotate_left
      ·simp only [Act.put, sA, sB, sC, i64_w, i32_w]
       rfl
      refine pure_ (i := 15) (N := some 46) (v := ?_) (a' := ?_) #[true, true, true, true, true, true, true, true, true, true, true, true, true, true, true, true, false, false, false, false] rfl rfl (any_of HT_.out (by kernel_rfl)) (fun _ _ _ h => h) (Or.inl ⟨by rfl, ?_⟩) ?_ ?_
      rotate_left
      ·intro w'
       go_simp
       with_reducible rfl
      rotate_left
      ·simp only [Act.put, sA, sB, sC, i64_w, i32_w]
       rfl
      refine pure_ (i := 16) (N := some 47) (v := undef) (a' := ?_) #[true, true, true, true, true, true, true, true, true, true, true, true, true, true, true, true, true, false, false, false] rfl rfl (any_of HT_.out (by kernel_rfl)) (fun _ _ _ h => h) (Or.inr ⟨by rfl, rfl⟩) ?_ ?_
      rotate_left
      ·simp only [Act.put, sA, sB, sC, i64_w, i32_w]
       rfl
      refine pure_ (i := 17) (N := some 48) (v := undef) (a' := ?_) #[true, true, true, true, true, true, true, true, true, true, true, true, true, true, true, true, true, true, false, false] rfl rfl (any_of HT_.out (by kernel_rfl)) (fun _ _ _ h => h) (Or.inr ⟨by rfl, rfl⟩) ?_ ?_
      rotate_left
      ·simp only [Act.put, sA, sB, sC, i64_w, i32_w]
       rfl
      refine pure_ (i := 18) (N := some 49) (v := undef) (a' := ?_) #[true, true, true, true, true, true, true, true, true, true, true, true, true, true, true, true, true, true, true, false] rfl rfl (any_of HT_.out (by kernel_rfl)) (fun _ _ _ h => h) (Or.inr ⟨by rfl, rfl⟩) ?_ ?_
      rotate_left
      ·simp only [Act.put, sA, sB, sC, i64_w, i32_w]
       rfl
      refine pure_ (i := 19) (N := some 50) (v := ?_) (a' := ?_) #[true, true, true, true, true, true, true, true, true, true, true, true, true, true, true, true, true, true, true, true] rfl rfl (any_of HT_.out (by kernel_rfl)) (fun _ _ _ h => h) (Or.inl ⟨by rfl, ?_⟩) ?_ ?_
      rotate_left
      ·intro w'
       go_simp
       with_reducible rfl
      rotate_left
      ·simp only [Act.put, sA, sB, sC, i64_w, i32_w]
       rfl
      refine done_ (done_of HT_.out (by kernel_rfl)) ?_
      try go_wp2
      go_meet
      case rel => exact ⟨_, (true), (by first | rfl | (simp; done) | (simp [*]; done)), H', ⟨by have := HJ2.out; first | omega | exact Nat.le_refl _⟩, ⟨bk_ BK314.out⟩, ⟨bk_ BK315.out⟩, ⟨bk_ BK322.out⟩, ⟨bk_ BK323.out⟩, ⟨bk_ BK327.out⟩, ⟨by repeat (first | (with_reducible first | exact HB.out | apply below_alloc | apply pw_below_drewN | apply below_drew1 | refine below_set ?_ GE314.out | refine below_set ?_ GE315.out | refine below_set ?_ GE322.out | refine below_set ?_ GE323.out | refine below_set ?_ GE327.out) | exact HB.out)⟩⟩
     ·rw [if_neg c36] at H
      have c36b0 : (!(t324 == t328) || (!(t325 == t329) || (!(t326 == t330)))) = false := by simpa using c36
      clear c36
      (first | rw [c36b0] | (simp only [i64_w, i32_w]; rw [c36b0]) | skip)
      replace H := Option.bind_eq_some_iff.mp H
      obtain ⟨t331, A400, H⟩ := H
      replace H : (if t331 = true then ((spec_SpanOk.f t311 t312 t313).bind fun t332 => (if t332 = true then ((spec_SpanOk.f t316 t317 t318).bind fun t333 => (laws_FnSpanJoin.j1 kj2 (!t333) t308 t309 t310 t311 t312 t313 t316 t317 t318 t324 t325 t326)) else (laws_FnSpanJoin.j1 kj2 true t308 t309 t310 t311 t312 t313 t316 t317 t318 t324 t325 t326))) else (laws_FnSpanJoin.j1 kj2 true t308 t309 t310 t311 t312 t313 t316 t317 t318 t324 t325 t326)) = some r := H
      have A40 := Aside0.mk A400
      clear A400
      by_cases c41 : t331 = true
      ·subst c41
       have H1 : ((spec_SpanOk.f t311 t312 t313).bind fun t332 => (if t332 = true then ((spec_SpanOk.f t316 t317 t318).bind fun t333 => (laws_FnSpanJoin.j1 kj2 (!t333) t308 t309 t310 t311 t312 t313 t316 t317 t318 t324 t325 t326)) else (laws_FnSpanJoin.j1 kj2 true t308 t309 t310 t311 t312 t313 t316 t317 t318 t324 t325 t326))) = some r := by rw [if_pos rfl] at H; exact H
       clear H
       have H := H1
       clear H1
       replace H := Option.bind_eq_some_iff.mp H
       obtain ⟨t332, A420, H⟩ := H
       replace H : (if t332 = true then ((spec_SpanOk.f t316 t317 t318).bind fun t333 => (laws_FnSpanJoin.j1 kj2 (!t333) t308 t309 t310 t311 t312 t313 t316 t317 t318 t324 t325 t326)) else (laws_FnSpanJoin.j1 kj2 true t308 t309 t310 t311 t312 t313 t316 t317 t318 t324 t325 t326)) = some r := H
       have A42 := Aside0.mk A420
       clear A420
       by_cases c43 : t332 = true
       ·subst c43
        have H1 : ((spec_SpanOk.f t316 t317 t318).bind fun t333 => (laws_FnSpanJoin.j1 kj2 (!t333) t308 t309 t310 t311 t312 t313 t316 t317 t318 t324 t325 t326)) = some r := by rw [if_pos rfl] at H; exact H
        clear H
        have H := H1
        clear H1
        replace H := Option.bind_eq_some_iff.mp H
        obtain ⟨t333, A440, H⟩ := H
        replace H : (laws_FnSpanJoin.j1 kj2 (!t333) t308 t309 t310 t311 t312 t313 t316 t317 t318 t324 t325 t326) = some r := H
        have A44 := Aside0.mk A440
        clear A440
        have H' := Aside0.mk H
        clear H
        try go_wp2
        have n0_ : Aside0 ((((w29.setCell ⟨gb327, 0, none⟩ (.bool t324)).setCell ⟨gb327, 1, none⟩ (.int .i64 t325)).setCell ⟨gb327, 2, none⟩ (.int .i64 t326)).heap[gb314]? = some (.cells #[.bool t308, .int .i64 t309, .int .i64 t310] 25 (0, 0))) := ⟨by (with_reducible repeat (first | refine blk_drewN ?_ _ | refine blk_drew ?_ | refine blk_alloc ?_ _)); refine blk_far ?_ NB314_327.out _; (with_reducible repeat (first | refine blk_drewN ?_ _ | refine blk_drew ?_ | refine blk_alloc ?_ _)); refine blk_far ?_ NB314_327.out _; (with_reducible repeat (first | refine blk_drewN ?_ _ | refine blk_drew ?_ | refine blk_alloc ?_ _)); refine blk_far ?_ NB314_327.out _; (with_reducible repeat (first | refine blk_drewN ?_ _ | refine blk_drew ?_ | refine blk_alloc ?_ _)); exact BK314.out⟩
        have n1_ : Aside0 ((((w29.setCell ⟨gb327, 0, none⟩ (.bool t324)).setCell ⟨gb327, 1, none⟩ (.int .i64 t325)).setCell ⟨gb327, 2, none⟩ (.int .i64 t326)).heap[gb315]? = some (.cells #[.bool t311, .int .i64 t312, .int .i64 t313] 25 (0, 0))) := ⟨by (with_reducible repeat (first | refine blk_drewN ?_ _ | refine blk_drew ?_ | refine blk_alloc ?_ _)); refine blk_far ?_ NB315_327.out _; (with_reducible repeat (first | refine blk_drewN ?_ _ | refine blk_drew ?_ | refine blk_alloc ?_ _)); refine blk_far ?_ NB315_327.out _; (with_reducible repeat (first | refine blk_drewN ?_ _ | refine blk_drew ?_ | refine blk_alloc ?_ _)); refine blk_far ?_ NB315_327.out _; (with_reducible repeat (first | refine blk_drewN ?_ _ | refine blk_drew ?_ | refine blk_alloc ?_ _)); exact BK315.out⟩
        have n2_ : Aside0 ((((w29.setCell ⟨gb327, 0, none⟩ (.bool t324)).setCell ⟨gb327, 1, none⟩ (.int .i64 t325)).setCell ⟨gb327, 2, none⟩ (.int .i64 t326)).heap[gb322]? = some (.cells #[.bool t316, .int .i64 t317, .int .i64 t318] 25 (0, 0))) := ⟨by (with_reducible repeat (first | refine blk_drewN ?_ _ | refine blk_drew ?_ | refine blk_alloc ?_ _)); refine blk_far ?_ NB322_327.out _; (with_reducible repeat (first | refine blk_drewN ?_ _ | refine blk_drew ?_ | refine blk_alloc ?_ _)); refine blk_far ?_ NB322_327.out _; (with_reducible repeat (first | refine blk_drewN ?_ _ | refine blk_drew ?_ | refine blk_alloc ?_ _)); refine blk_far ?_ NB322_327.out _; (with_reducible repeat (first | refine blk_drewN ?_ _ | refine blk_drew ?_ | refine blk_alloc ?_ _)); exact BK322.out⟩
        have n3_ : Aside0 ((((w29.setCell ⟨gb327, 0, none⟩ (.bool t324)).setCell ⟨gb327, 1, none⟩ (.int .i64 t325)).setCell ⟨gb327, 2, none⟩ (.int .i64 t326)).heap[gb323]? = some (.cells #[.bool t319, .int .i64 t320, .int .i64 t321] 25 (0, 0))) := ⟨by (with_reducible repeat (first | refine blk_drewN ?_ _ | refine blk_drew ?_ | refine blk_alloc ?_ _)); refine blk_far ?_ NB323_327.out _; (with_reducible repeat (first | refine blk_drewN ?_ _ | refine blk_drew ?_ | refine blk_alloc ?_ _)); refine blk_far ?_ NB323_327.out _; (with_reducible repeat (first | refine blk_drewN ?_ _ | refine blk_drew ?_ | refine blk_alloc ?_ _)); refine blk_far ?_ NB323_327.out _; (with_reducible repeat (first | refine blk_drewN ?_ _ | refine blk_drew ?_ | refine blk_alloc ?_ _)); exact BK323.out⟩
        have n4_ : Aside0 ((((w29.setCell ⟨gb327, 0, none⟩ (.bool t324)).setCell ⟨gb327, 1, none⟩ (.int .i64 t325)).setCell ⟨gb327, 2, none⟩ (.int .i64 t326)).heap[gb327]? = some (.cells #[.bool t324, .int .i64 t325, .int .i64 t326] 25 (0, 0))) := ⟨by (with_reducible repeat (first | refine blk_drewN ?_ _ | refine blk_drew ?_ | refine blk_alloc ?_ _)); refine blk_put (cs := #[.bool t324, .int .i64 t325, .int .i64 0]) ?_ 2 _ rfl; (with_reducible repeat (first | refine blk_drewN ?_ _ | refine blk_drew ?_ | refine blk_alloc ?_ _)); refine blk_put (cs := #[.bool t324, .int .i64 0, .int .i64 0]) ?_ 1 _ rfl; (with_reducible repeat (first | refine blk_drewN ?_ _ | refine blk_drew ?_ | refine blk_alloc ?_ _)); refine blk_put (cs := #[.bool false, .int .i64 0, .int .i64 0]) ?_ 0 _ rfl; (with_reducible repeat (first | refine blk_drewN ?_ _ | refine blk_drew ?_ | refine blk_alloc ?_ _)); exact BK327.out⟩
        have n5_ : Aside0 (Below w.heap.size w (((w29.setCell ⟨gb327, 0, none⟩ (.bool t324)).setCell ⟨gb327, 1, none⟩ (.int .i64 t325)).setCell ⟨gb327, 2, none⟩ (.int .i64 t326))) := ⟨by repeat (first | (with_reducible first | exact HB.out | apply below_alloc | apply pw_below_drewN | apply below_drew1 | refine below_set ?_ GE314.out | refine below_set ?_ GE315.out | refine below_set ?_ GE322.out | refine below_set ?_ GE323.out | refine below_set ?_ GE327.out) | exact HB.out)⟩
        (try clear BK314)
        (try clear BK315)
        (try clear BK322)
        (try clear BK323)
        (try clear BK327)
        (try clear HB)
        generalize (((w29.setCell ⟨gb327, 0, none⟩ (.bool t324)).setCell ⟨gb327, 1, none⟩ (.int .i64 t325)).setCell ⟨gb327, 2, none⟩ (.int .i64 t326)) = w45 at n0_ n1_ n2_ n3_ n4_ n5_ ⊢
        have BK314 := n0_
        have BK315 := n1_
        have BK322 := n2_
        have BK323 := n3_
        have BK327 := n4_
        have HB := n5_
        clear n0_ n1_ n2_ n3_ n4_ n5_
        have n0_ := Aside0.mk (blk_drew BK314.out)
        have n1_ := Aside0.mk (blk_drew BK315.out)
        have n2_ := Aside0.mk (blk_drew BK322.out)
        have n3_ := Aside0.mk (blk_drew BK323.out)
        have n4_ := Aside0.mk (blk_drew BK327.out)
        have n5_ := Aside0.mk (below_drew1 HB.out)
        clear BK314
        clear BK315
        clear BK322
        clear BK323
        clear BK327
        clear HB
        have BK314 := n0_
        have BK315 := n1_
        have BK322 := n2_
        have BK323 := n3_
        have BK327 := n4_
        have HB := n5_
        clear n0_ n1_ n2_ n3_ n4_ n5_
        refine start_ (n := 20) (S := fun w' => w'.cell? ⟨gb327, 0, none⟩ = some (.bool t324) ∧ w'.cell? ⟨gb327, 1, none⟩ = some (.int .i64 t325) ∧ w'.cell? ⟨gb327, 2, none⟩ = some (.int .i64 t326) ∧ w'.cell? ⟨gb314, 0, none⟩ = some (.bool t308) ∧ w'.cell? ⟨gb314, 1, none⟩ = some (.int .i64 t309) ∧ w'.cell? ⟨gb314, 2, none⟩ = some (.int .i64 t310) ∧ w'.cell? ⟨gb315, 0, none⟩ = some (.bool t311) ∧ w'.cell? ⟨gb315, 1, none⟩ = some (.int .i64 t312) ∧ w'.cell? ⟨gb315, 2, none⟩ = some (.int .i64 t313) ∧ w'.cell? ⟨gb322, 0, none⟩ = some (.bool t316) ∧ w'.cell? ⟨gb322, 1, none⟩ = some (.int .i64 t317) ∧ w'.cell? ⟨gb322, 2, none⟩ = some (.int .i64 t318)) (ds := []) #[false, false, false, false, false, false, false, false, false, false, false, false, false, false, false, false, false, false, false, false] (by kernel_rfl) rfl rfl ⟨(blk_cell BK327.out 0).trans rfl, (blk_cell BK327.out 1).trans rfl, (blk_cell BK327.out 2).trans rfl, (blk_cell BK314.out 0).trans rfl, (blk_cell BK314.out 1).trans rfl, (blk_cell BK314.out 2).trans rfl, (blk_cell BK315.out 0).trans rfl, (blk_cell BK315.out 1).trans rfl, (blk_cell BK315.out 2).trans rfl, (blk_cell BK322.out 0).trans rfl, (blk_cell BK322.out 1).trans rfl, (blk_cell BK322.out 2).trans rfl⟩ (fun hHeld => ?_); refine with_tabW laws_FnSpanJoin.tab6 laws_FnSpanJoin.bits6 (fun HT_ HW_ => ?_)
        generalize w45.drew = w46 at BK314 BK315 BK322 BK323 BK327 HB hHeld ⊢
        refine take_ (i := 0) (N := some 31) (v := ?_) (a' := ?_) #[true, false, false, false, false, false, false, false, false, false, false, false, false, false, false, false, false, false, false, false] rfl rfl (take_ofW HT_.out HW_.out (by kernel_rfl)) (fun _ _ _ h => h) (Or.inl ⟨by rfl, ?_⟩) hHeld ?_ ?_
        rotate_left
        ·rintro w' ⟨s0, s1, s2, s3, s4, s5, s6, s7, s8, s9, s10, s11⟩
         go_simp
         with_reducible rfl
        rotate_left
        ·simp only [Act.put, sA, sB, sC, i64_w, i32_w]
         rfl
        refine take_ (i := 1) (N := some 32) (v := ?_) (a' := ?_) #[true, true, false, false, false, false, false, false, false, false, false, false, false, false, false, false, false, false, false, false] rfl rfl (take_ofW HT_.out HW_.out (by kernel_rfl)) (fun _ _ _ h => h) (Or.inl ⟨by rfl, ?_⟩) hHeld ?_ ?_
        rotate_left
        ·rintro w' ⟨s0, s1, s2, s3, s4, s5, s6, s7, s8, s9, s10, s11⟩
         go_simp
         with_reducible rfl
        rotate_left
        ·simp only [Act.put, sA, sB, sC, i64_w, i32_w]
         rfl
        refine take_ (i := 2) (N := some 33) (v := ?_) (a' := ?_) #[true, true, true, false, false, false, false, false, false, false, false, false, false, false, false, false, false, false, false, false] rfl rfl (take_ofW HT_.out HW_.out (by kernel_rfl)) (fun _ _ _ h => h) (Or.inl ⟨by rfl, ?_⟩) hHeld ?_ ?_
        rotate_left
        ·rintro w' ⟨s0, s1, s2, s3, s4, s5, s6, s7, s8, s9, s10, s11⟩
         go_simp
         with_reducible rfl
        rotate_left
        ·simp only [Act.put, sA, sB, sC, i64_w, i32_w]
         rfl
        refine one_ (i := 3) (N := some 34) #[true, true, true, true, false, false, false, false, false, false, false, false, false, false, false, false, false, false, false, false] rfl rfl (one_of HT_.out (by kernel_rfl)) (by decide) (fun K hK => ?_)
        refine goes_ Try.func15 (by kernel_rfl) rfl #[.agg #[.bool t308, .int .i64 t309, .int .i64 t310], .agg #[.bool t311, .int .i64 t312, .int .i64 t313]] (by rfl) rfl rfl (by (try simp only [List.map_toArray, List.map_cons, List.map_nil]); first | done | rfl | (simp only [List.length_drop, List.length_take]; rfl)) ?_
        with_reducible refine (spec_SpanJoin.calls kj2 t308 t309 t310 t311 t312 t313 t328 t329 t330 _ A35.out).mono ?_
        rintro e w47 ⟨rfl, hb⟩
        refine ⟨_, rfl, ?_⟩
        have n0_ := Aside0.mk (bb_ BK314.out hb)
        have n1_ := Aside0.mk (bb_ BK315.out hb)
        have n2_ := Aside0.mk (bb_ BK322.out hb)
        have n3_ := Aside0.mk (bb_ BK323.out hb)
        have n4_ := Aside0.mk (bb_ BK327.out hb)
        have n5_ := Aside0.mk (below_step (by repeat (first | (with_reducible first | exact HB.out | apply below_alloc | apply pw_below_drewN | apply below_drew1 | refine below_set ?_ GE314.out | refine below_set ?_ GE315.out | refine below_set ?_ GE322.out | refine below_set ?_ GE323.out | refine below_set ?_ GE327.out) | exact HB.out)) hb)
        clear BK314
        clear BK315
        clear BK322
        clear BK323
        clear BK327
        clear HB
        have BK314 := n0_
        have BK315 := n1_
        have BK322 := n2_
        have BK323 := n3_
        have BK327 := n4_
        have HB := n5_
        clear n0_ n1_ n2_ n3_ n4_ n5_
        (try clear hb)
        (try clear hb2)
        (try clear hk)
        (try clear hi)
        refine hK.out _ _ ⟨(blk_cell BK327.out 0).trans rfl, (blk_cell BK327.out 1).trans rfl, (blk_cell BK327.out 2).trans rfl, (blk_cell BK314.out 0).trans rfl, (blk_cell BK314.out 1).trans rfl, (blk_cell BK314.out 2).trans rfl, (blk_cell BK315.out 0).trans rfl, (blk_cell BK315.out 1).trans rfl, (blk_cell BK315.out 2).trans rfl, (blk_cell BK322.out 0).trans rfl, (blk_cell BK322.out 1).trans rfl, (blk_cell BK322.out 2).trans rfl⟩ (fun hHeld => ?_)
        clear hK K
        refine norm_ (a' := ?_) ?_ ?_
        rotate_left
        ·show Act.put _ (some 34) _ = _
         simp only [Act.put, sA, sB, sC, i64_w, i32_w]
         rfl
        refine pure_ (i := 4) (N := some 35) (v := ?_) (a' := ?_) #[true, true, true, true, true, false, false, false, false, false, false, false, false, false, false, false, false, false, false, false] rfl rfl (any_of HT_.out (by kernel_rfl)) (fun _ _ _ h => h) (Or.inl ⟨by rfl, ?_⟩) ?_ ?_
        rotate_left
        ·intro w'
         go_simp
         with_reducible rfl
        rotate_left
        ·simp only [Act.put, sA, sB, sC, i64_w, i32_w]
         rfl
        refine pure_ (i := 5) (N := some 36) (v := ?_) (a' := ?_) #[true, true, true, true, true, true, false, false, false, false, false, false, false, false, false, false, false, false, false, false] rfl rfl (any_of HT_.out (by kernel_rfl)) (fun _ _ _ h => h) (Or.inl ⟨by rfl, ?_⟩) ?_ ?_
        rotate_left
        ·intro w'
         go_simp
         with_reducible rfl
        rotate_left
        ·simp only [Act.put, sA, sB, sC, i64_w, i32_w]
         rfl
        refine take_ (i := 6) (N := some 37) (v := ?_) (a' := ?_) #[true, true, true, true, true, true, true, false, false, false, false, false, false, false, false, false, false, false, false, false] rfl rfl (take_ofW HT_.out HW_.out (by kernel_rfl)) (fun _ _ _ h => h) (Or.inl ⟨by rfl, ?_⟩) hHeld ?_ ?_
        rotate_left
        ·rintro w' ⟨s0, s1, s2, s3, s4, s5, s6, s7, s8, s9, s10, s11⟩
         go_simp
         with_reducible rfl
        rotate_left
        ·simp only [Act.put, sA, sB, sC, i64_w, i32_w]
         rfl
        refine one_ (i := 7) (N := some 38) #[true, true, true, true, true, true, true, true, false, false, false, false, false, false, false, false, false, false, false, false] rfl rfl (one_of HT_.out (by kernel_rfl)) (by decide) (fun K hK => ?_)
        refine goes_ Try.func22 (by kernel_rfl) rfl #[.agg #[.bool t308, .int .i64 t309, .int .i64 t310]] (by rfl) rfl rfl (by (try simp only [List.map_toArray, List.map_cons, List.map_nil]); first | done | rfl | (simp only [List.length_drop, List.length_take]; rfl)) ?_
        with_reducible refine (spec_SpanOk.calls t308 t309 t310 true _ A40.out).mono ?_
        rintro e w48 ⟨rfl, hb⟩
        refine ⟨_, rfl, ?_⟩
        have n0_ := Aside0.mk (bb_ BK314.out hb)
        have n1_ := Aside0.mk (bb_ BK315.out hb)
        have n2_ := Aside0.mk (bb_ BK322.out hb)
        have n3_ := Aside0.mk (bb_ BK323.out hb)
        have n4_ := Aside0.mk (bb_ BK327.out hb)
        have n5_ := Aside0.mk (below_step (by repeat (first | (with_reducible first | exact HB.out | apply below_alloc | apply pw_below_drewN | apply below_drew1 | refine below_set ?_ GE314.out | refine below_set ?_ GE315.out | refine below_set ?_ GE322.out | refine below_set ?_ GE323.out | refine below_set ?_ GE327.out) | exact HB.out)) hb)
        clear BK314
        clear BK315
        clear BK322
        clear BK323
        clear BK327
        clear HB
        have BK314 := n0_
        have BK315 := n1_
        have BK322 := n2_
        have BK323 := n3_
        have BK327 := n4_
        have HB := n5_
        clear n0_ n1_ n2_ n3_ n4_ n5_
        (try clear hb)
        (try clear hb2)
        (try clear hk)
        (try clear hi)
        refine hK.out _ _ ⟨(blk_cell BK327.out 0).trans rfl, (blk_cell BK327.out 1).trans rfl, (blk_cell BK327.out 2).trans rfl, (blk_cell BK314.out 0).trans rfl, (blk_cell BK314.out 1).trans rfl, (blk_cell BK314.out 2).trans rfl, (blk_cell BK315.out 0).trans rfl, (blk_cell BK315.out 1).trans rfl, (blk_cell BK315.out 2).trans rfl, (blk_cell BK322.out 0).trans rfl, (blk_cell BK322.out 1).trans rfl, (blk_cell BK322.out 2).trans rfl⟩ (fun hHeld => ?_)
        clear hK K
        refine norm_ (a' := ?_) ?_ ?_
        rotate_left
        ·show Act.put _ (some 38) _ = _
         simp only [Act.put, sA, sB, sC, i64_w, i32_w]
         rfl
        refine pure_ (i := 8) (N := some 39) (v := ?_) (a' := ?_) #[true, true, true, true, true, true, true, true, true, false, false, false, false, false, false, false, false, false, false, false] rfl rfl (any_of HT_.out (by kernel_rfl)) (fun _ _ _ h => h) (Or.inl ⟨by rfl, ?_⟩) ?_ ?_
        rotate_left
        ·intro w'
         go_simp
         with_reducible rfl
        rotate_left
        ·simp only [Act.put, sA, sB, sC, i64_w, i32_w]
         rfl
        refine pure_ (i := 9) (N := some 40) (v := ?_) (a' := ?_) #[true, true, true, true, true, true, true, true, true, true, false, false, false, false, false, false, false, false, false, false] rfl rfl (any_of HT_.out (by kernel_rfl)) (fun _ _ _ h => h) (Or.inl ⟨by rfl, ?_⟩) ?_ ?_
        rotate_left
        ·intro w'
         go_simp
         with_reducible rfl
        rotate_left
        ·simp only [Act.put, sA, sB, sC, i64_w, i32_w]
         rfl
        refine pure_ (i := 10) (N := some 41) (v := ?_) (a' := ?_) #[true, true, true, true, true, true, true, true, true, true, true, false, false, false, false, false, false, false, false, false] rfl rfl (any_of HT_.out (by kernel_rfl)) (fun _ _ _ h => h) (Or.inl ⟨by rfl, ?_⟩) ?_ ?_
        rotate_left
        ·intro w'
         go_simp
         with_reducible rfl
        rotate_left
        ·simp only [Act.put, sA, sB, sC, i64_w, i32_w]
         rfl
        refine take_ (i := 11) (N := some 42) (v := ?_) (a' := ?_) #[true, true, true, true, true, true, true, true, true, true, true, true, false, false, false, false, false, false, false, false] rfl rfl (take_ofW HT_.out HW_.out (by kernel_rfl)) (fun _ _ _ h => h) (Or.inl ⟨by rfl, ?_⟩) hHeld ?_ ?_
        rotate_left
        ·rintro w' ⟨s0, s1, s2, s3, s4, s5, s6, s7, s8, s9, s10, s11⟩
         go_simp
         with_reducible rfl
        rotate_left
        ·simp only [Act.put, sA, sB, sC, i64_w, i32_w]
         rfl
        refine one_ (i := 12) (N := some 43) #[true, true, true, true, true, true, true, true, true, true, true, true, true, false, false, false, false, false, false, false] rfl rfl (one_of HT_.out (by kernel_rfl)) (by decide) (fun K hK => ?_)
        refine goes_ Try.func22 (by kernel_rfl) rfl #[.agg #[.bool t311, .int .i64 t312, .int .i64 t313]] (by rfl) rfl rfl (by (try simp only [List.map_toArray, List.map_cons, List.map_nil]); first | done | rfl | (simp only [List.length_drop, List.length_take]; rfl)) ?_
        with_reducible refine (spec_SpanOk.calls t311 t312 t313 true _ A42.out).mono ?_
        rintro e w49 ⟨rfl, hb⟩
        refine ⟨_, rfl, ?_⟩
        have n0_ := Aside0.mk (bb_ BK314.out hb)
        have n1_ := Aside0.mk (bb_ BK315.out hb)
        have n2_ := Aside0.mk (bb_ BK322.out hb)
        have n3_ := Aside0.mk (bb_ BK323.out hb)
        have n4_ := Aside0.mk (bb_ BK327.out hb)
        have n5_ := Aside0.mk (below_step (by repeat (first | (with_reducible first | exact HB.out | apply below_alloc | apply pw_below_drewN | apply below_drew1 | refine below_set ?_ GE314.out | refine below_set ?_ GE315.out | refine below_set ?_ GE322.out | refine below_set ?_ GE323.out | refine below_set ?_ GE327.out) | exact HB.out)) hb)
        clear BK314
        clear BK315
        clear BK322
        clear BK323
        clear BK327
        clear HB
        have BK314 := n0_
        have BK315 := n1_
        have BK322 := n2_
        have BK323 := n3_
        have BK327 := n4_
        have HB := n5_
        clear n0_ n1_ n2_ n3_ n4_ n5_
        (try clear hb)
        (try clear hb2)
        (try clear hk)
        (try clear hi)
        refine hK.out _ _ ⟨(blk_cell BK327.out 0).trans rfl, (blk_cell BK327.out 1).trans rfl, (blk_cell BK327.out 2).trans rfl, (blk_cell BK314.out 0).trans rfl, (blk_cell BK314.out 1).trans rfl, (blk_cell BK314.out 2).trans rfl, (blk_cell BK315.out 0).trans rfl, (blk_cell BK315.out 1).trans rfl, (blk_cell BK315.out 2).trans rfl, (blk_cell BK322.out 0).trans rfl, (blk_cell BK322.out 1).trans rfl, (blk_cell BK322.out 2).trans rfl⟩ (fun hHeld => ?_)
        clear hK K
        refine norm_ (a' := ?_) ?_ ?_
        rotate_left
        ·show Act.put _ (some 43) _ = _
         simp only [Act.put, sA, sB, sC, i64_w, i32_w]
         rfl
        refine pure_ (i := 13) (N := some 44) (v := ?_) (a' := ?_) #[true, true, true, true, true, true, true, true, true, true, true, true, true, true, false, false, false, false, false, false] rfl rfl (any_of HT_.out (by kernel_rfl)) (fun _ _ _ h => h) (Or.inl ⟨by rfl, ?_⟩) ?_ ?_
        rotate_left
        ·intro w'
         go_simp
         with_reducible rfl
        rotate_left
        ·simp only [Act.put, sA, sB, sC, i64_w, i32_w]
         rfl
        refine pure_ (i := 14) (N := some 45) (v := ?_) (a' := ?_) #[true, true, true, true, true, true, true, true, true, true, true, true, true, true, true, false, false, false, false, false] rfl rfl (any_of HT_.out (by kernel_rfl)) (fun _ _ _ h => h) (Or.inl ⟨by rfl, ?_⟩) ?_ ?_
        rotate_left
        ·intro w'
         go_simp
         with_reducible rfl
        rotate_left
        ·simp only [Act.put, sA, sB, sC, i64_w, i32_w]
         rfl
        refine pure_ (i := 15) (N := some 46) (v := ?_) (a' := ?_) #[true, true, true, true, true, true, true, true, true, true, true, true, true, true, true, true, false, false, false, false] rfl rfl (any_of HT_.out (by kernel_rfl)) (fun _ _ _ h => h) (Or.inl ⟨by rfl, ?_⟩) ?_ ?_
        rotate_left
        ·intro w'
         go_simp
         with_reducible rfl
        rotate_left
        ·simp only [Act.put, sA, sB, sC, i64_w, i32_w]
         rfl
        refine take_ (i := 16) (N := some 47) (v := ?_) (a' := ?_) #[true, true, true, true, true, true, true, true, true, true, true, true, true, true, true, true, true, false, false, false] rfl rfl (take_ofW HT_.out HW_.out (by kernel_rfl)) (fun _ _ _ h => h) (Or.inl ⟨by rfl, ?_⟩) hHeld ?_ ?_
        rotate_left
        ·rintro w' ⟨s0, s1, s2, s3, s4, s5, s6, s7, s8, s9, s10, s11⟩
         go_simp
         with_reducible rfl
        rotate_left
        ·simp only [Act.put, sA, sB, sC, i64_w, i32_w]
         rfl
        refine one_ (i := 17) (N := some 48) #[true, true, true, true, true, true, true, true, true, true, true, true, true, true, true, true, true, true, false, false] rfl rfl (one_of HT_.out (by kernel_rfl)) (by decide) (fun K hK => ?_)
        refine goes_ Try.func22 (by kernel_rfl) rfl #[.agg #[.bool t316, .int .i64 t317, .int .i64 t318]] (by rfl) rfl rfl (by (try simp only [List.map_toArray, List.map_cons, List.map_nil]); first | done | rfl | (simp only [List.length_drop, List.length_take]; rfl)) ?_
        with_reducible refine (spec_SpanOk.calls t316 t317 t318 t333 _ A44.out).mono ?_
        rintro e w50 ⟨rfl, hb⟩
        refine ⟨_, rfl, ?_⟩
        have n0_ := Aside0.mk (bb_ BK314.out hb)
        have n1_ := Aside0.mk (bb_ BK315.out hb)
        have n2_ := Aside0.mk (bb_ BK322.out hb)
        have n3_ := Aside0.mk (bb_ BK323.out hb)
        have n4_ := Aside0.mk (bb_ BK327.out hb)
        have n5_ := Aside0.mk (below_step (by repeat (first | (with_reducible first | exact HB.out | apply below_alloc | apply pw_below_drewN | apply below_drew1 | refine below_set ?_ GE314.out | refine below_set ?_ GE315.out | refine below_set ?_ GE322.out | refine below_set ?_ GE323.out | refine below_set ?_ GE327.out) | exact HB.out)) hb)
        clear BK314
        clear BK315
        clear BK322
        clear BK323
        clear BK327
        clear HB
        have BK314 := n0_
        have BK315 := n1_
        have BK322 := n2_
        have BK323 := n3_
        have BK327 := n4_
        have HB := n5_
        clear n0_ n1_ n2_ n3_ n4_ n5_
        (try clear hb)
        (try clear hb2)
        (try clear hk)
        (try clear hi)
        refine hK.out _ _ ⟨(blk_cell BK327.out 0).trans rfl, (blk_cell BK327.out 1).trans rfl, (blk_cell BK327.out 2).trans rfl, (blk_cell BK314.out 0).trans rfl, (blk_cell BK314.out 1).trans rfl, (blk_cell BK314.out 2).trans rfl, (blk_cell BK315.out 0).trans rfl, (blk_cell BK315.out 1).trans rfl, (blk_cell BK315.out 2).trans rfl, (blk_cell BK322.out 0).trans rfl, (blk_cell BK322.out 1).trans rfl, (blk_cell BK322.out 2).trans rfl⟩ (fun hHeld => ?_)
        clear hK K
        refine norm_ (a' := ?_) ?_ ?_
        rotate_left
        ·show Act.put _ (some 48) _ = _
         simp only [Act.put, sA, sB, sC, i64_w, i32_w]
         rfl
        refine pure_ (i := 18) (N := some 49) (v := ?_) (a' := ?_) #[true, true, true, true, true, true, true, true, true, true, true, true, true, true, true, true, true, true, true, false] rfl rfl (any_of HT_.out (by kernel_rfl)) (fun _ _ _ h => h) (Or.inl ⟨by rfl, ?_⟩) ?_ ?_
        rotate_left
        ·intro w'
         go_simp
         with_reducible rfl
        rotate_left
        ·simp only [Act.put, sA, sB, sC, i64_w, i32_w]
         rfl
        refine pure_ (i := 19) (N := some 50) (v := ?_) (a' := ?_) #[true, true, true, true, true, true, true, true, true, true, true, true, true, true, true, true, true, true, true, true] rfl rfl (any_of HT_.out (by kernel_rfl)) (fun _ _ _ h => h) (Or.inl ⟨by rfl, ?_⟩) ?_ ?_
        rotate_left
        ·intro w'
         go_simp
         with_reducible rfl
        rotate_left
        ·simp only [Act.put, sA, sB, sC, i64_w, i32_w]
         rfl
        refine done_ (done_of HT_.out (by kernel_rfl)) ?_
        try go_wp2
        go_meet
        case rel => exact ⟨_, (!t333), (by first | rfl | (simp; done) | (simp [*]; done)), H', ⟨by have := HJ2.out; first | omega | exact Nat.le_refl _⟩, ⟨bk_ BK314.out⟩, ⟨bk_ BK315.out⟩, ⟨bk_ BK322.out⟩, ⟨bk_ BK323.out⟩, ⟨bk_ BK327.out⟩, ⟨by repeat (first | (with_reducible first | exact HB.out | apply below_alloc | apply pw_below_drewN | apply below_drew1 | refine below_set ?_ GE314.out | refine below_set ?_ GE315.out | refine below_set ?_ GE322.out | refine below_set ?_ GE323.out | refine below_set ?_ GE327.out) | exact HB.out)⟩⟩
       ·replace c43 := Bool.eq_false_iff.mpr c43
        subst c43
        have H1 : (laws_FnSpanJoin.j1 kj2 true t308 t309 t310 t311 t312 t313 t316 t317 t318 t324 t325 t326) = some r := by rw [if_neg (show ¬ (false = true) by decide)] at H; exact H
        clear H
        have H := H1
        clear H1
        have H' := Aside0.mk H
        clear H
        try go_wp2
        have n0_ : Aside0 ((((w29.setCell ⟨gb327, 0, none⟩ (.bool t324)).setCell ⟨gb327, 1, none⟩ (.int .i64 t325)).setCell ⟨gb327, 2, none⟩ (.int .i64 t326)).heap[gb314]? = some (.cells #[.bool t308, .int .i64 t309, .int .i64 t310] 25 (0, 0))) := ⟨by (with_reducible repeat (first | refine blk_drewN ?_ _ | refine blk_drew ?_ | refine blk_alloc ?_ _)); refine blk_far ?_ NB314_327.out _; (with_reducible repeat (first | refine blk_drewN ?_ _ | refine blk_drew ?_ | refine blk_alloc ?_ _)); refine blk_far ?_ NB314_327.out _; (with_reducible repeat (first | refine blk_drewN ?_ _ | refine blk_drew ?_ | refine blk_alloc ?_ _)); refine blk_far ?_ NB314_327.out _; (with_reducible repeat (first | refine blk_drewN ?_ _ | refine blk_drew ?_ | refine blk_alloc ?_ _)); exact BK314.out⟩
        have n1_ : Aside0 ((((w29.setCell ⟨gb327, 0, none⟩ (.bool t324)).setCell ⟨gb327, 1, none⟩ (.int .i64 t325)).setCell ⟨gb327, 2, none⟩ (.int .i64 t326)).heap[gb315]? = some (.cells #[.bool t311, .int .i64 t312, .int .i64 t313] 25 (0, 0))) := ⟨by (with_reducible repeat (first | refine blk_drewN ?_ _ | refine blk_drew ?_ | refine blk_alloc ?_ _)); refine blk_far ?_ NB315_327.out _; (with_reducible repeat (first | refine blk_drewN ?_ _ | refine blk_drew ?_ | refine blk_alloc ?_ _)); refine blk_far ?_ NB315_327.out _; (with_reducible repeat (first | refine blk_drewN ?_ _ | refine blk_drew ?_ | refine blk_alloc ?_ _)); refine blk_far ?_ NB315_327.out _; (with_reducible repeat (first | refine blk_drewN ?_ _ | refine blk_drew ?_ | refine blk_alloc ?_ _)); exact BK315.out⟩
        have n2_ : Aside0 ((((w29.setCell ⟨gb327, 0, none⟩ (.bool t324)).setCell ⟨gb327, 1, none⟩ (.int .i64 t325)).setCell ⟨gb327, 2, none⟩ (.int .i64 t326)).heap[gb322]? = some (.cells #[.bool t316, .int .i64 t317, .int .i64 t318] 25 (0, 0))) := ⟨by (with_reducible repeat (first | refine blk_drewN ?_ _ | refine blk_drew ?_ | refine blk_alloc ?_ _)); refine blk_far ?_ NB322_327.out _; (with_reducible repeat (first | refine blk_drewN ?_ _ | refine blk_drew ?_ | refine blk_alloc ?_ _)); refine blk_far ?_ NB322_327.out _; (with_reducible repeat (first | refine blk_drewN ?_ _ | refine blk_drew ?_ | refine blk_alloc ?_ _)); refine blk_far ?_ NB322_327.out _; (with_reducible repeat (first | refine blk_drewN ?_ _ | refine blk_drew ?_ | refine blk_alloc ?_ _)); exact BK322.out⟩
        have n3_ : Aside0 ((((w29.setCell ⟨gb327, 0, none⟩ (.bool t324)).setCell ⟨gb327, 1, none⟩ (.int .i64 t325)).setCell ⟨gb327, 2, none⟩ (.int .i64 t326)).heap[gb323]? = some (.cells #[.bool t319, .int .i64 t320, .int .i64 t321] 25 (0, 0))) := ⟨by (with_reducible repeat (first | refine blk_drewN ?_ _ | refine blk_drew ?_ | refine blk_alloc ?_ _)); refine blk_far ?_ NB323_327.out _; (with_reducible repeat (first | refine blk_drewN ?_ _ | refine blk_drew ?_ | refine blk_alloc ?_ _)); refine blk_far ?_ NB323_327.out _; (with_reducible repeat (first | refine blk_drewN ?_ _ | refine blk_drew ?_ | refine blk_alloc ?_ _)); refine blk_far ?_ NB323_327.out _; (with_reducible repeat (first | refine blk_drewN ?_ _ | refine blk_drew ?_ | refine blk_alloc ?_ _)); exact BK323.out⟩
        have n4_ : Aside0 ((((w29.setCell ⟨gb327, 0, none⟩ (.bool t324)).setCell ⟨gb327, 1, none⟩ (.int .i64 t325)).setCell ⟨gb327, 2, none⟩ (.int .i64 t326)).heap[gb327]? = some (.cells #[.bool t324, .int .i64 t325, .int .i64 t326] 25 (0, 0))) := ⟨by (with_reducible repeat (first | refine blk_drewN ?_ _ | refine blk_drew ?_ | refine blk_alloc ?_ _)); refine blk_put (cs := #[.bool t324, .int .i64 t325, .int .i64 0]) ?_ 2 _ rfl; (with_reducible repeat (first | refine blk_drewN ?_ _ | refine blk_drew ?_ | refine blk_alloc ?_ _)); refine blk_put (cs := #[.bool t324, .int .i64 0, .int .i64 0]) ?_ 1 _ rfl; (with_reducible repeat (first | refine blk_drewN ?_ _ | refine blk_drew ?_ | refine blk_alloc ?_ _)); refine blk_put (cs := #[.bool false, .int .i64 0, .int .i64 0]) ?_ 0 _ rfl; (with_reducible repeat (first | refine blk_drewN ?_ _ | refine blk_drew ?_ | refine blk_alloc ?_ _)); exact BK327.out⟩
        have n5_ : Aside0 (Below w.heap.size w (((w29.setCell ⟨gb327, 0, none⟩ (.bool t324)).setCell ⟨gb327, 1, none⟩ (.int .i64 t325)).setCell ⟨gb327, 2, none⟩ (.int .i64 t326))) := ⟨by repeat (first | (with_reducible first | exact HB.out | apply below_alloc | apply pw_below_drewN | apply below_drew1 | refine below_set ?_ GE314.out | refine below_set ?_ GE315.out | refine below_set ?_ GE322.out | refine below_set ?_ GE323.out | refine below_set ?_ GE327.out) | exact HB.out)⟩
        (try clear BK314)
        (try clear BK315)
        (try clear BK322)
        (try clear BK323)
        (try clear BK327)
        (try clear HB)
        generalize (((w29.setCell ⟨gb327, 0, none⟩ (.bool t324)).setCell ⟨gb327, 1, none⟩ (.int .i64 t325)).setCell ⟨gb327, 2, none⟩ (.int .i64 t326)) = w51 at n0_ n1_ n2_ n3_ n4_ n5_ ⊢
        have BK314 := n0_
        have BK315 := n1_
        have BK322 := n2_
        have BK323 := n3_
        have BK327 := n4_
        have HB := n5_
        clear n0_ n1_ n2_ n3_ n4_ n5_
        have n0_ := Aside0.mk (blk_drew BK314.out)
        have n1_ := Aside0.mk (blk_drew BK315.out)
        have n2_ := Aside0.mk (blk_drew BK322.out)
        have n3_ := Aside0.mk (blk_drew BK323.out)
        have n4_ := Aside0.mk (blk_drew BK327.out)
        have n5_ := Aside0.mk (below_drew1 HB.out)
        clear BK314
        clear BK315
        clear BK322
        clear BK323
        clear BK327
        clear HB
        have BK314 := n0_
        have BK315 := n1_
        have BK322 := n2_
        have BK323 := n3_
        have BK327 := n4_
        have HB := n5_
        clear n0_ n1_ n2_ n3_ n4_ n5_
        refine start_ (n := 20) (S := fun w' => w'.cell? ⟨gb327, 0, none⟩ = some (.bool t324) ∧ w'.cell? ⟨gb327, 1, none⟩ = some (.int .i64 t325) ∧ w'.cell? ⟨gb327, 2, none⟩ = some (.int .i64 t326) ∧ w'.cell? ⟨gb314, 0, none⟩ = some (.bool t308) ∧ w'.cell? ⟨gb314, 1, none⟩ = some (.int .i64 t309) ∧ w'.cell? ⟨gb314, 2, none⟩ = some (.int .i64 t310) ∧ w'.cell? ⟨gb315, 0, none⟩ = some (.bool t311) ∧ w'.cell? ⟨gb315, 1, none⟩ = some (.int .i64 t312) ∧ w'.cell? ⟨gb315, 2, none⟩ = some (.int .i64 t313)) (ds := []) #[false, false, false, false, false, false, false, false, false, false, false, false, false, false, false, false, false, false, false, false] (by kernel_rfl) rfl rfl ⟨(blk_cell BK327.out 0).trans rfl, (blk_cell BK327.out 1).trans rfl, (blk_cell BK327.out 2).trans rfl, (blk_cell BK314.out 0).trans rfl, (blk_cell BK314.out 1).trans rfl, (blk_cell BK314.out 2).trans rfl, (blk_cell BK315.out 0).trans rfl, (blk_cell BK315.out 1).trans rfl, (blk_cell BK315.out 2).trans rfl⟩ (fun hHeld => ?_); refine with_tabW laws_FnSpanJoin.tab6 laws_FnSpanJoin.bits6 (fun HT_ HW_ => ?_)
        generalize w51.drew = w52 at BK314 BK315 BK322 BK323 BK327 HB hHeld ⊢
        refine take_ (i := 0) (N := some 31) (v := ?_) (a' := ?_) #[true, false, false, false, false, false, false, false, false, false, false, false, false, false, false, false, false, false, false, false] rfl rfl (take_ofW HT_.out HW_.out (by kernel_rfl)) (fun _ _ _ h => h) (Or.inl ⟨by rfl, ?_⟩) hHeld ?_ ?_
        rotate_left
        ·rintro w' ⟨s0, s1, s2, s3, s4, s5, s6, s7, s8⟩
         go_simp
         with_reducible rfl
        rotate_left
        ·simp only [Act.put, sA, sB, sC, i64_w, i32_w]
         rfl
        refine take_ (i := 1) (N := some 32) (v := ?_) (a' := ?_) #[true, true, false, false, false, false, false, false, false, false, false, false, false, false, false, false, false, false, false, false] rfl rfl (take_ofW HT_.out HW_.out (by kernel_rfl)) (fun _ _ _ h => h) (Or.inl ⟨by rfl, ?_⟩) hHeld ?_ ?_
        rotate_left
        ·rintro w' ⟨s0, s1, s2, s3, s4, s5, s6, s7, s8⟩
         go_simp
         with_reducible rfl
        rotate_left
        ·simp only [Act.put, sA, sB, sC, i64_w, i32_w]
         rfl
        refine take_ (i := 2) (N := some 33) (v := ?_) (a' := ?_) #[true, true, true, false, false, false, false, false, false, false, false, false, false, false, false, false, false, false, false, false] rfl rfl (take_ofW HT_.out HW_.out (by kernel_rfl)) (fun _ _ _ h => h) (Or.inl ⟨by rfl, ?_⟩) hHeld ?_ ?_
        rotate_left
        ·rintro w' ⟨s0, s1, s2, s3, s4, s5, s6, s7, s8⟩
         go_simp
         with_reducible rfl
        rotate_left
        ·simp only [Act.put, sA, sB, sC, i64_w, i32_w]
         rfl
        refine one_ (i := 3) (N := some 34) #[true, true, true, true, false, false, false, false, false, false, false, false, false, false, false, false, false, false, false, false] rfl rfl (one_of HT_.out (by kernel_rfl)) (by decide) (fun K hK => ?_)
        refine goes_ Try.func15 (by kernel_rfl) rfl #[.agg #[.bool t308, .int .i64 t309, .int .i64 t310], .agg #[.bool t311, .int .i64 t312, .int .i64 t313]] (by rfl) rfl rfl (by (try simp only [List.map_toArray, List.map_cons, List.map_nil]); first | done | rfl | (simp only [List.length_drop, List.length_take]; rfl)) ?_
        with_reducible refine (spec_SpanJoin.calls kj2 t308 t309 t310 t311 t312 t313 t328 t329 t330 _ A35.out).mono ?_
        rintro e w53 ⟨rfl, hb⟩
        refine ⟨_, rfl, ?_⟩
        have n0_ := Aside0.mk (bb_ BK314.out hb)
        have n1_ := Aside0.mk (bb_ BK315.out hb)
        have n2_ := Aside0.mk (bb_ BK322.out hb)
        have n3_ := Aside0.mk (bb_ BK323.out hb)
        have n4_ := Aside0.mk (bb_ BK327.out hb)
        have n5_ := Aside0.mk (below_step (by repeat (first | (with_reducible first | exact HB.out | apply below_alloc | apply pw_below_drewN | apply below_drew1 | refine below_set ?_ GE314.out | refine below_set ?_ GE315.out | refine below_set ?_ GE322.out | refine below_set ?_ GE323.out | refine below_set ?_ GE327.out) | exact HB.out)) hb)
        clear BK314
        clear BK315
        clear BK322
        clear BK323
        clear BK327
        clear HB
        have BK314 := n0_
        have BK315 := n1_
        have BK322 := n2_
        have BK323 := n3_
        have BK327 := n4_
        have HB := n5_
        clear n0_ n1_ n2_ n3_ n4_ n5_
        (try clear hb)
        (try clear hb2)
        (try clear hk)
        (try clear hi)
        refine hK.out _ _ ⟨(blk_cell BK327.out 0).trans rfl, (blk_cell BK327.out 1).trans rfl, (blk_cell BK327.out 2).trans rfl, (blk_cell BK314.out 0).trans rfl, (blk_cell BK314.out 1).trans rfl, (blk_cell BK314.out 2).trans rfl, (blk_cell BK315.out 0).trans rfl, (blk_cell BK315.out 1).trans rfl, (blk_cell BK315.out 2).trans rfl⟩ (fun hHeld => ?_)
        clear hK K
        refine norm_ (a' := ?_) ?_ ?_
        rotate_left
        ·show Act.put _ (some 34) _ = _
         simp only [Act.put, sA, sB, sC, i64_w, i32_w]
         rfl
        refine pure_ (i := 4) (N := some 35) (v := ?_) (a' := ?_) #[true, true, true, true, true, false, false, false, false, false, false, false, false, false, false, false, false, false, false, false] rfl rfl (any_of HT_.out (by kernel_rfl)) (fun _ _ _ h => h) (Or.inl ⟨by rfl, ?_⟩) ?_ ?_
        rotate_left
        ·intro w'
         go_simp
         with_reducible rfl
        rotate_left
        ·simp only [Act.put, sA, sB, sC, i64_w, i32_w]
         rfl
        refine pure_ (i := 5) (N := some 36) (v := ?_) (a' := ?_) #[true, true, true, true, true, true, false, false, false, false, false, false, false, false, false, false, false, false, false, false] rfl rfl (any_of HT_.out (by kernel_rfl)) (fun _ _ _ h => h) (Or.inl ⟨by rfl, ?_⟩) ?_ ?_
        rotate_left
        ·intro w'
         go_simp
         with_reducible rfl
        rotate_left
        ·simp only [Act.put, sA, sB, sC, i64_w, i32_w]
         rfl
        refine take_ (i := 6) (N := some 37) (v := ?_) (a' := ?_) #[true, true, true, true, true, true, true, false, false, false, false, false, false, false, false, false, false, false, false, false] rfl rfl (take_ofW HT_.out HW_.out (by kernel_rfl)) (fun _ _ _ h => h) (Or.inl ⟨by rfl, ?_⟩) hHeld ?_ ?_
        rotate_left
        ·rintro w' ⟨s0, s1, s2, s3, s4, s5, s6, s7, s8⟩
         go_simp
         with_reducible rfl
        rotate_left
        ·simp only [Act.put, sA, sB, sC, i64_w, i32_w]
         rfl
        refine one_ (i := 7) (N := some 38) #[true, true, true, true, true, true, true, true, false, false, false, false, false, false, false, false, false, false, false, false] rfl rfl (one_of HT_.out (by kernel_rfl)) (by decide) (fun K hK => ?_)
        refine goes_ Try.func22 (by kernel_rfl) rfl #[.agg #[.bool t308, .int .i64 t309, .int .i64 t310]] (by rfl) rfl rfl (by (try simp only [List.map_toArray, List.map_cons, List.map_nil]); first | done | rfl | (simp only [List.length_drop, List.length_take]; rfl)) ?_
        with_reducible refine (spec_SpanOk.calls t308 t309 t310 true _ A40.out).mono ?_
        rintro e w54 ⟨rfl, hb⟩
        refine ⟨_, rfl, ?_⟩
        have n0_ := Aside0.mk (bb_ BK314.out hb)
        have n1_ := Aside0.mk (bb_ BK315.out hb)
        have n2_ := Aside0.mk (bb_ BK322.out hb)
        have n3_ := Aside0.mk (bb_ BK323.out hb)
        have n4_ := Aside0.mk (bb_ BK327.out hb)
        have n5_ := Aside0.mk (below_step (by repeat (first | (with_reducible first | exact HB.out | apply below_alloc | apply pw_below_drewN | apply below_drew1 | refine below_set ?_ GE314.out | refine below_set ?_ GE315.out | refine below_set ?_ GE322.out | refine below_set ?_ GE323.out | refine below_set ?_ GE327.out) | exact HB.out)) hb)
        clear BK314
        clear BK315
        clear BK322
        clear BK323
        clear BK327
        clear HB
        have BK314 := n0_
        have BK315 := n1_
        have BK322 := n2_
        have BK323 := n3_
        have BK327 := n4_
        have HB := n5_
        clear n0_ n1_ n2_ n3_ n4_ n5_
        (try clear hb)
        (try clear hb2)
        (try clear hk)
        (try clear hi)
        refine hK.out _ _ ⟨(blk_cell BK327.out 0).trans rfl, (blk_cell BK327.out 1).trans rfl, (blk_cell BK327.out 2).trans rfl, (blk_cell BK314.out 0).trans rfl, (blk_cell BK314.out 1).trans rfl, (blk_cell BK314.out 2).trans rfl, (blk_cell BK315.out 0).trans rfl, (blk_cell BK315.out 1).trans rfl, (blk_cell BK315.out 2).trans rfl⟩ (fun hHeld => ?_)
        clear hK K
        refine norm_ (a' := ?_) ?_ ?_
        rotate_left
        ·show Act.put _ (some 38) _ = _
         simp only [Act.put, sA, sB, sC, i64_w, i32_w]
         rfl
        refine pure_ (i := 8) (N := some 39) (v := ?_) (a' := ?_) #[true, true, true, true, true, true, true, true, true, false, false, false, false, false, false, false, false, false, false, false] rfl rfl (any_of HT_.out (by kernel_rfl)) (fun _ _ _ h => h) (Or.inl ⟨by rfl, ?_⟩) ?_ ?_
        rotate_left
        ·intro w'
         go_simp
         with_reducible rfl
        rotate_left
        ·simp only [Act.put, sA, sB, sC, i64_w, i32_w]
         rfl
        refine pure_ (i := 9) (N := some 40) (v := ?_) (a' := ?_) #[true, true, true, true, true, true, true, true, true, true, false, false, false, false, false, false, false, false, false, false] rfl rfl (any_of HT_.out (by kernel_rfl)) (fun _ _ _ h => h) (Or.inl ⟨by rfl, ?_⟩) ?_ ?_
        rotate_left
        ·intro w'
         go_simp
         with_reducible rfl
        rotate_left
        ·simp only [Act.put, sA, sB, sC, i64_w, i32_w]
         rfl
        refine pure_ (i := 10) (N := some 41) (v := ?_) (a' := ?_) #[true, true, true, true, true, true, true, true, true, true, true, false, false, false, false, false, false, false, false, false] rfl rfl (any_of HT_.out (by kernel_rfl)) (fun _ _ _ h => h) (Or.inl ⟨by rfl, ?_⟩) ?_ ?_
        rotate_left
        ·intro w'
         go_simp
         with_reducible rfl
        rotate_left
        ·simp only [Act.put, sA, sB, sC, i64_w, i32_w]
         rfl
        refine take_ (i := 11) (N := some 42) (v := ?_) (a' := ?_) #[true, true, true, true, true, true, true, true, true, true, true, true, false, false, false, false, false, false, false, false] rfl rfl (take_ofW HT_.out HW_.out (by kernel_rfl)) (fun _ _ _ h => h) (Or.inl ⟨by rfl, ?_⟩) hHeld ?_ ?_
        rotate_left
        ·rintro w' ⟨s0, s1, s2, s3, s4, s5, s6, s7, s8⟩
         go_simp
         with_reducible rfl
        rotate_left
        ·simp only [Act.put, sA, sB, sC, i64_w, i32_w]
         rfl
        refine one_ (i := 12) (N := some 43) #[true, true, true, true, true, true, true, true, true, true, true, true, true, false, false, false, false, false, false, false] rfl rfl (one_of HT_.out (by kernel_rfl)) (by decide) (fun K hK => ?_)
        refine goes_ Try.func22 (by kernel_rfl) rfl #[.agg #[.bool t311, .int .i64 t312, .int .i64 t313]] (by rfl) rfl rfl (by (try simp only [List.map_toArray, List.map_cons, List.map_nil]); first | done | rfl | (simp only [List.length_drop, List.length_take]; rfl)) ?_
        with_reducible refine (spec_SpanOk.calls t311 t312 t313 false _ A42.out).mono ?_
        rintro e w55 ⟨rfl, hb⟩
        refine ⟨_, rfl, ?_⟩
        have n0_ := Aside0.mk (bb_ BK314.out hb)
        have n1_ := Aside0.mk (bb_ BK315.out hb)
        have n2_ := Aside0.mk (bb_ BK322.out hb)
        have n3_ := Aside0.mk (bb_ BK323.out hb)
        have n4_ := Aside0.mk (bb_ BK327.out hb)
        have n5_ := Aside0.mk (below_step (by repeat (first | (with_reducible first | exact HB.out | apply below_alloc | apply pw_below_drewN | apply below_drew1 | refine below_set ?_ GE314.out | refine below_set ?_ GE315.out | refine below_set ?_ GE322.out | refine below_set ?_ GE323.out | refine below_set ?_ GE327.out) | exact HB.out)) hb)
        clear BK314
        clear BK315
        clear BK322
        clear BK323
        clear BK327
        clear HB
        have BK314 := n0_
        have BK315 := n1_
        have BK322 := n2_
        have BK323 := n3_
        have BK327 := n4_
        have HB := n5_
        clear n0_ n1_ n2_ n3_ n4_ n5_
        (try clear hb)
        (try clear hb2)
        (try clear hk)
        (try clear hi)
        refine hK.out _ _ ⟨(blk_cell BK327.out 0).trans rfl, (blk_cell BK327.out 1).trans rfl, (blk_cell BK327.out 2).trans rfl, (blk_cell BK314.out 0).trans rfl, (blk_cell BK314.out 1).trans rfl, (blk_cell BK314.out 2).trans rfl, (blk_cell BK315.out 0).trans rfl, (blk_cell BK315.out 1).trans rfl, (blk_cell BK315.out 2).trans rfl⟩ (fun hHeld => ?_)
        clear hK K
        refine norm_ (a' := ?_) ?_ ?_
        rotate_left
        ·show Act.put _ (some 43) _ = _
         simp only [Act.put, sA, sB, sC, i64_w, i32_w]
         rfl
        refine pure_ (i := 13) (N := some 44) (v := ?_) (a' := ?_) #[true, true, true, true, true, true, true, true, true, true, true, true, true, true, false, false, false, false, false, false] rfl rfl (any_of HT_.out (by kernel_rfl)) (fun _ _ _ h => h) (Or.inl ⟨by rfl, ?_⟩) ?_ ?_
        rotate_left
        ·intro w'
         go_simp
         with_reducible rfl
        rotate_left
        ·simp only [Act.put, sA, sB, sC, i64_w, i32_w]
         rfl
        refine pure_ (i := 14) (N := some 45) (v := ?_) (a' := ?_) #[true, true, true, true, true, true, true, true, true, true, true, true, true, true, true, false, false, false, false, false] rfl rfl (any_of HT_.out (by kernel_rfl)) (fun _ _ _ h => h) (Or.inl ⟨by rfl, ?_⟩) ?_ ?_
        rotate_left
        ·intro w'
         go_simp
         with_reducible rfl
        rotate_left
        ·simp only [Act.put, sA, sB, sC, i64_w, i32_w]
         rfl
        refine pure_ (i := 15) (N := some 46) (v := ?_) (a' := ?_) #[true, true, true, true, true, true, true, true, true, true, true, true, true, true, true, true, false, false, false, false] rfl rfl (any_of HT_.out (by kernel_rfl)) (fun _ _ _ h => h) (Or.inl ⟨by rfl, ?_⟩) ?_ ?_
        rotate_left
        ·intro w'
         go_simp
         with_reducible rfl
        rotate_left
        ·simp only [Act.put, sA, sB, sC, i64_w, i32_w]
         rfl
        refine pure_ (i := 16) (N := some 47) (v := undef) (a' := ?_) #[true, true, true, true, true, true, true, true, true, true, true, true, true, true, true, true, true, false, false, false] rfl rfl (any_of HT_.out (by kernel_rfl)) (fun _ _ _ h => h) (Or.inr ⟨by rfl, rfl⟩) ?_ ?_
        rotate_left
        ·simp only [Act.put, sA, sB, sC, i64_w, i32_w]
         rfl
        refine pure_ (i := 17) (N := some 48) (v := undef) (a' := ?_) #[true, true, true, true, true, true, true, true, true, true, true, true, true, true, true, true, true, true, false, false] rfl rfl (any_of HT_.out (by kernel_rfl)) (fun _ _ _ h => h) (Or.inr ⟨by rfl, rfl⟩) ?_ ?_
        rotate_left
        ·simp only [Act.put, sA, sB, sC, i64_w, i32_w]
         rfl
        refine pure_ (i := 18) (N := some 49) (v := undef) (a' := ?_) #[true, true, true, true, true, true, true, true, true, true, true, true, true, true, true, true, true, true, true, false] rfl rfl (any_of HT_.out (by kernel_rfl)) (fun _ _ _ h => h) (Or.inr ⟨by rfl, rfl⟩) ?_ ?_
        rotate_left
        ·simp only [Act.put, sA, sB, sC, i64_w, i32_w]
         rfl
        refine pure_ (i := 19) (N := some 50) (v := ?_) (a' := ?_) #[true, true, true, true, true, true, true, true, true, true, true, true, true, true, true, true, true, true, true, true] rfl rfl (any_of HT_.out (by kernel_rfl)) (fun _ _ _ h => h) (Or.inl ⟨by rfl, ?_⟩) ?_ ?_
        rotate_left
        ·intro w'
         go_simp
         with_reducible rfl
        rotate_left
        ·simp only [Act.put, sA, sB, sC, i64_w, i32_w]
         rfl
        refine done_ (done_of HT_.out (by kernel_rfl)) ?_
        try go_wp2
        go_meet
        case rel => exact ⟨_, (true), (by first | rfl | (simp; done) | (simp [*]; done)), H', ⟨by have := HJ2.out; first | omega | exact Nat.le_refl _⟩, ⟨bk_ BK314.out⟩, ⟨bk_ BK315.out⟩, ⟨bk_ BK322.out⟩, ⟨bk_ BK323.out⟩, ⟨bk_ BK327.out⟩, ⟨by repeat (first | (with_reducible first | exact HB.out | apply below_alloc | apply pw_below_drewN | apply below_drew1 | refine below_set ?_ GE314.out | refine below_set ?_ GE315.out | refine below_set ?_ GE322.out | refine below_set ?_ GE323.out | refine below_set ?_ GE327.out) | exact HB.out)⟩⟩
      ·replace c41 := Bool.eq_false_iff.mpr c41
       subst c41
       have H1 : (laws_FnSpanJoin.j1 kj2 true t308 t309 t310 t311 t312 t313 t316 t317 t318 t324 t325 t326) = some r := by rw [if_neg (show ¬ (false = true) by decide)] at H; exact H
       clear H
       have H := H1
       clear H1
       have H' := Aside0.mk H
       clear H
       try go_wp2
       have n0_ : Aside0 ((((w29.setCell ⟨gb327, 0, none⟩ (.bool t324)).setCell ⟨gb327, 1, none⟩ (.int .i64 t325)).setCell ⟨gb327, 2, none⟩ (.int .i64 t326)).heap[gb314]? = some (.cells #[.bool t308, .int .i64 t309, .int .i64 t310] 25 (0, 0))) := ⟨by (with_reducible repeat (first | refine blk_drewN ?_ _ | refine blk_drew ?_ | refine blk_alloc ?_ _)); refine blk_far ?_ NB314_327.out _; (with_reducible repeat (first | refine blk_drewN ?_ _ | refine blk_drew ?_ | refine blk_alloc ?_ _)); refine blk_far ?_ NB314_327.out _; (with_reducible repeat (first | refine blk_drewN ?_ _ | refine blk_drew ?_ | refine blk_alloc ?_ _)); refine blk_far ?_ NB314_327.out _; (with_reducible repeat (first | refine blk_drewN ?_ _ | refine blk_drew ?_ | refine blk_alloc ?_ _)); exact BK314.out⟩
       have n1_ : Aside0 ((((w29.setCell ⟨gb327, 0, none⟩ (.bool t324)).setCell ⟨gb327, 1, none⟩ (.int .i64 t325)).setCell ⟨gb327, 2, none⟩ (.int .i64 t326)).heap[gb315]? = some (.cells #[.bool t311, .int .i64 t312, .int .i64 t313] 25 (0, 0))) := ⟨by (with_reducible repeat (first | refine blk_drewN ?_ _ | refine blk_drew ?_ | refine blk_alloc ?_ _)); refine blk_far ?_ NB315_327.out _; (with_reducible repeat (first | refine blk_drewN ?_ _ | refine blk_drew ?_ | refine blk_alloc ?_ _)); refine blk_far ?_ NB315_327.out _; (with_reducible repeat (first | refine blk_drewN ?_ _ | refine blk_drew ?_ | refine blk_alloc ?_ _)); refine blk_far ?_ NB315_327.out _; (with_reducible repeat (first | refine blk_drewN ?_ _ | refine blk_drew ?_ | refine blk_alloc ?_ _)); exact BK315.out⟩
       have n2_ : Aside0 ((((w29.setCell ⟨gb327, 0, none⟩ (.bool t324)).setCell ⟨gb327, 1, none⟩ (.int .i64 t325)).setCell ⟨gb327, 2, none⟩ (.int .i64 t326)).heap[gb322]? = some (.cells #[.bool t316, .int .i64 t317, .int .i64 t318] 25 (0, 0))) := ⟨by (with_reducible repeat (first | refine blk_drewN ?_ _ | refine blk_drew ?_ | refine blk_alloc ?_ _)); refine blk_far ?_ NB322_327.out _; (with_reducible repeat (first | refine blk_drewN ?_ _ | refine blk_drew ?_ | refine blk_alloc ?_ _)); refine blk_far ?_ NB322_327.out _; (with_reducible repeat (first | refine blk_drewN ?_ _ | refine blk_drew ?_ | refine blk_alloc ?_ _)); refine blk_far ?_ NB322_327.out _; (with_reducible repeat (first | refine blk_drewN ?_ _ | refine blk_drew ?_ | refine blk_alloc ?_ _)); exact BK322.out⟩
       have n3_ : Aside0 ((((w29.setCell ⟨gb327, 0, none⟩ (.bool t324)).setCell ⟨gb327, 1, none⟩ (.int .i64 t325)).setCell ⟨gb327, 2, none⟩ (.int .i64 t326)).heap[gb323]? = some (.cells #[.bool t319, .int .i64 t320, .int .i64 t321] 25 (0, 0))) := ⟨by (with_reducible repeat (first | refine blk_drewN ?_ _ | refine blk_drew ?_ | refine blk_alloc ?_ _)); refine blk_far ?_ NB323_327.out _; (with_reducible repeat (first | refine blk_drewN ?_ _ | refine blk_drew ?_ | refine blk_alloc ?_ _)); refine blk_far ?_ NB323_327.out _; (with_reducible repeat (first | refine blk_drewN ?_ _ | refine blk_drew ?_ | refine blk_alloc ?_ _)); refine blk_far ?_ NB323_327.out _; (with_reducible repeat (first | refine blk_drewN ?_ _ | refine blk_drew ?_ | refine blk_alloc ?_ _)); exact BK323.out⟩
       have n4_ : Aside0 ((((w29.setCell ⟨gb327, 0, none⟩ (.bool t324)).setCell ⟨gb327, 1, none⟩ (.int .i64 t325)).setCell ⟨gb327, 2, none⟩ (.int .i64 t326)).heap[gb327]? = some (.cells #[.bool t324, .int .i64 t325, .int .i64 t326] 25 (0, 0))) := ⟨by (with_reducible repeat (first | refine blk_drewN ?_ _ | refine blk_drew ?_ | refine blk_alloc ?_ _)); refine blk_put (cs := #[.bool t324, .int .i64 t325, .int .i64 0]) ?_ 2 _ rfl; (with_reducible repeat (first | refine blk_drewN ?_ _ | refine blk_drew ?_ | refine blk_alloc ?_ _)); refine blk_put (cs := #[.bool t324, .int .i64 0, .int .i64 0]) ?_ 1 _ rfl; (with_reducible repeat (first | refine blk_drewN ?_ _ | refine blk_drew ?_ | refine blk_alloc ?_ _)); refine blk_put (cs := #[.bool false, .int .i64 0, .int .i64 0]) ?_ 0 _ rfl; (with_reducible repeat (first | refine blk_drewN ?_ _ | refine blk_drew ?_ | refine blk_alloc ?_ _)); exact BK327.out⟩
       have n5_ : Aside0 (Below w.heap.size w (((w29.setCell ⟨gb327, 0, none⟩ (.bool t324)).setCell ⟨gb327, 1, none⟩ (.int .i64 t325)).setCell ⟨gb327, 2, none⟩ (.int .i64 t326))) := ⟨by repeat (first | (with_reducible first | exact HB.out | apply below_alloc | apply pw_below_drewN | apply below_drew1 | refine below_set ?_ GE314.out | refine below_set ?_ GE315.out | refine below_set ?_ GE322.out | refine below_set ?_ GE323.out | refine below_set ?_ GE327.out) | exact HB.out)⟩
       (try clear BK314)
       (try clear BK315)
       (try clear BK322)
       (try clear BK323)
       (try clear BK327)
       (try clear HB)
       generalize (((w29.setCell ⟨gb327, 0, none⟩ (.bool t324)).setCell ⟨gb327, 1, none⟩ (.int .i64 t325)).setCell ⟨gb327, 2, none⟩ (.int .i64 t326)) = w56 at n0_ n1_ n2_ n3_ n4_ n5_ ⊢
       have BK314 := n0_
       have BK315 := n1_
       have BK322 := n2_
       have BK323 := n3_
       have BK327 := n4_
       have HB := n5_
       clear n0_ n1_ n2_ n3_ n4_ n5_
       have n0_ := Aside0.mk (blk_drew BK314.out)
       have n1_ := Aside0.mk (blk_drew BK315.out)
       have n2_ := Aside0.mk (blk_drew BK322.out)
       have n3_ := Aside0.mk (blk_drew BK323.out)
       have n4_ := Aside0.mk (blk_drew BK327.out)
       have n5_ := Aside0.mk (below_drew1 HB.out)
       clear BK314
       clear BK315
       clear BK322
       clear BK323
       clear BK327
       clear HB
       have BK314 := n0_
       have BK315 := n1_
       have BK322 := n2_
       have BK323 := n3_
       have BK327 := n4_
       have HB := n5_
       clear n0_ n1_ n2_ n3_ n4_ n5_
       refine start_ (n := 20) (S := fun w' => w'.cell? ⟨gb327, 0, none⟩ = some (.bool t324) ∧ w'.cell? ⟨gb327, 1, none⟩ = some (.int .i64 t325) ∧ w'.cell? ⟨gb327, 2, none⟩ = some (.int .i64 t326) ∧ w'.cell? ⟨gb314, 0, none⟩ = some (.bool t308) ∧ w'.cell? ⟨gb314, 1, none⟩ = some (.int .i64 t309) ∧ w'.cell? ⟨gb314, 2, none⟩ = some (.int .i64 t310) ∧ w'.cell? ⟨gb315, 0, none⟩ = some (.bool t311) ∧ w'.cell? ⟨gb315, 1, none⟩ = some (.int .i64 t312) ∧ w'.cell? ⟨gb315, 2, none⟩ = some (.int .i64 t313)) (ds := []) #[false, false, false, false, false, false, false, false, false, false, false, false, false, false, false, false, false, false, false, false] (by kernel_rfl) rfl rfl ⟨(blk_cell BK327.out 0).trans rfl, (blk_cell BK327.out 1).trans rfl, (blk_cell BK327.out 2).trans rfl, (blk_cell BK314.out 0).trans rfl, (blk_cell BK314.out 1).trans rfl, (blk_cell BK314.out 2).trans rfl, (blk_cell BK315.out 0).trans rfl, (blk_cell BK315.out 1).trans rfl, (blk_cell BK315.out 2).trans rfl⟩ (fun hHeld => ?_); refine with_tabW laws_FnSpanJoin.tab6 laws_FnSpanJoin.bits6 (fun HT_ HW_ => ?_)
       generalize w56.drew = w57 at BK314 BK315 BK322 BK323 BK327 HB hHeld ⊢
       refine take_ (i := 0) (N := some 31) (v := ?_) (a' := ?_) #[true, false, false, false, false, false, false, false, false, false, false, false, false, false, false, false, false, false, false, false] rfl rfl (take_ofW HT_.out HW_.out (by kernel_rfl)) (fun _ _ _ h => h) (Or.inl ⟨by rfl, ?_⟩) hHeld ?_ ?_
       rotate_left
       ·rintro w' ⟨s0, s1, s2, s3, s4, s5, s6, s7, s8⟩
        go_simp
        with_reducible rfl
       rotate_left
       ·simp only [Act.put, sA, sB, sC, i64_w, i32_w]
        rfl
       refine take_ (i := 1) (N := some 32) (v := ?_) (a' := ?_) #[true, true, false, false, false, false, false, false, false, false, false, false, false, false, false, false, false, false, false, false] rfl rfl (take_ofW HT_.out HW_.out (by kernel_rfl)) (fun _ _ _ h => h) (Or.inl ⟨by rfl, ?_⟩) hHeld ?_ ?_
       rotate_left
       ·rintro w' ⟨s0, s1, s2, s3, s4, s5, s6, s7, s8⟩
        go_simp
        with_reducible rfl
       rotate_left
       ·simp only [Act.put, sA, sB, sC, i64_w, i32_w]
        rfl
       refine take_ (i := 2) (N := some 33) (v := ?_) (a' := ?_) #[true, true, true, false, false, false, false, false, false, false, false, false, false, false, false, false, false, false, false, false] rfl rfl (take_ofW HT_.out HW_.out (by kernel_rfl)) (fun _ _ _ h => h) (Or.inl ⟨by rfl, ?_⟩) hHeld ?_ ?_
       rotate_left
       ·rintro w' ⟨s0, s1, s2, s3, s4, s5, s6, s7, s8⟩
        go_simp
        with_reducible rfl
       rotate_left
       ·simp only [Act.put, sA, sB, sC, i64_w, i32_w]
        rfl
       refine one_ (i := 3) (N := some 34) #[true, true, true, true, false, false, false, false, false, false, false, false, false, false, false, false, false, false, false, false] rfl rfl (one_of HT_.out (by kernel_rfl)) (by decide) (fun K hK => ?_)
       refine goes_ Try.func15 (by kernel_rfl) rfl #[.agg #[.bool t308, .int .i64 t309, .int .i64 t310], .agg #[.bool t311, .int .i64 t312, .int .i64 t313]] (by rfl) rfl rfl (by (try simp only [List.map_toArray, List.map_cons, List.map_nil]); first | done | rfl | (simp only [List.length_drop, List.length_take]; rfl)) ?_
       with_reducible refine (spec_SpanJoin.calls kj2 t308 t309 t310 t311 t312 t313 t328 t329 t330 _ A35.out).mono ?_
       rintro e w58 ⟨rfl, hb⟩
       refine ⟨_, rfl, ?_⟩
       have n0_ := Aside0.mk (bb_ BK314.out hb)
       have n1_ := Aside0.mk (bb_ BK315.out hb)
       have n2_ := Aside0.mk (bb_ BK322.out hb)
       have n3_ := Aside0.mk (bb_ BK323.out hb)
       have n4_ := Aside0.mk (bb_ BK327.out hb)
       have n5_ := Aside0.mk (below_step (by repeat (first | (with_reducible first | exact HB.out | apply below_alloc | apply pw_below_drewN | apply below_drew1 | refine below_set ?_ GE314.out | refine below_set ?_ GE315.out | refine below_set ?_ GE322.out | refine below_set ?_ GE323.out | refine below_set ?_ GE327.out) | exact HB.out)) hb)
       clear BK314
       clear BK315
       clear BK322
       clear BK323
       clear BK327
       clear HB
       have BK314 := n0_
       have BK315 := n1_
       have BK322 := n2_
       have BK323 := n3_
       have BK327 := n4_
       have HB := n5_
       clear n0_ n1_ n2_ n3_ n4_ n5_
       (try clear hb)
       (try clear hb2)
       (try clear hk)
       (try clear hi)
       refine hK.out _ _ ⟨(blk_cell BK327.out 0).trans rfl, (blk_cell BK327.out 1).trans rfl, (blk_cell BK327.out 2).trans rfl, (blk_cell BK314.out 0).trans rfl, (blk_cell BK314.out 1).trans rfl, (blk_cell BK314.out 2).trans rfl, (blk_cell BK315.out 0).trans rfl, (blk_cell BK315.out 1).trans rfl, (blk_cell BK315.out 2).trans rfl⟩ (fun hHeld => ?_)
       clear hK K
       refine norm_ (a' := ?_) ?_ ?_
       rotate_left
       ·show Act.put _ (some 34) _ = _
        simp only [Act.put, sA, sB, sC, i64_w, i32_w]
        rfl
       refine pure_ (i := 4) (N := some 35) (v := ?_) (a' := ?_) #[true, true, true, true, true, false, false, false, false, false, false, false, false, false, false, false, false, false, false, false] rfl rfl (any_of HT_.out (by kernel_rfl)) (fun _ _ _ h => h) (Or.inl ⟨by rfl, ?_⟩) ?_ ?_
       rotate_left
       ·intro w'
        go_simp
        with_reducible rfl
       rotate_left
       ·simp only [Act.put, sA, sB, sC, i64_w, i32_w]
        rfl
       refine pure_ (i := 5) (N := some 36) (v := ?_) (a' := ?_) #[true, true, true, true, true, true, false, false, false, false, false, false, false, false, false, false, false, false, false, false] rfl rfl (any_of HT_.out (by kernel_rfl)) (fun _ _ _ h => h) (Or.inl ⟨by rfl, ?_⟩) ?_ ?_
       rotate_left
       ·intro w'
        go_simp
        with_reducible rfl
       rotate_left
       ·simp only [Act.put, sA, sB, sC, i64_w, i32_w]
        rfl
       refine take_ (i := 6) (N := some 37) (v := ?_) (a' := ?_) #[true, true, true, true, true, true, true, false, false, false, false, false, false, false, false, false, false, false, false, false] rfl rfl (take_ofW HT_.out HW_.out (by kernel_rfl)) (fun _ _ _ h => h) (Or.inl ⟨by rfl, ?_⟩) hHeld ?_ ?_
       rotate_left
       ·rintro w' ⟨s0, s1, s2, s3, s4, s5, s6, s7, s8⟩
        go_simp
        with_reducible rfl
       rotate_left
       ·simp only [Act.put, sA, sB, sC, i64_w, i32_w]
        rfl
       refine one_ (i := 7) (N := some 38) #[true, true, true, true, true, true, true, true, false, false, false, false, false, false, false, false, false, false, false, false] rfl rfl (one_of HT_.out (by kernel_rfl)) (by decide) (fun K hK => ?_)
       refine goes_ Try.func22 (by kernel_rfl) rfl #[.agg #[.bool t308, .int .i64 t309, .int .i64 t310]] (by rfl) rfl rfl (by (try simp only [List.map_toArray, List.map_cons, List.map_nil]); first | done | rfl | (simp only [List.length_drop, List.length_take]; rfl)) ?_
       with_reducible refine (spec_SpanOk.calls t308 t309 t310 false _ A40.out).mono ?_
       rintro e w59 ⟨rfl, hb⟩
       refine ⟨_, rfl, ?_⟩
       have n0_ := Aside0.mk (bb_ BK314.out hb)
       have n1_ := Aside0.mk (bb_ BK315.out hb)
       have n2_ := Aside0.mk (bb_ BK322.out hb)
       have n3_ := Aside0.mk (bb_ BK323.out hb)
       have n4_ := Aside0.mk (bb_ BK327.out hb)
       have n5_ := Aside0.mk (below_step (by repeat (first | (with_reducible first | exact HB.out | apply below_alloc | apply pw_below_drewN | apply below_drew1 | refine below_set ?_ GE314.out | refine below_set ?_ GE315.out | refine below_set ?_ GE322.out | refine below_set ?_ GE323.out | refine below_set ?_ GE327.out) | exact HB.out)) hb)
       clear BK314
       clear BK315
       clear BK322
       clear BK323
       clear BK327
       clear HB
       have BK314 := n0_
       have BK315 := n1_
       have BK322 := n2_
       have BK323 := n3_
       have BK327 := n4_
       have HB := n5_
       clear n0_ n1_ n2_ n3_ n4_ n5_
       (try clear hb)
       (try clear hb2)
       (try clear hk)
       (try clear hi)
       refine hK.out _ _ ⟨(blk_cell BK327.out 0).trans rfl, (blk_cell BK327.out 1).trans rfl, (blk_cell BK327.out 2).trans rfl, (blk_cell BK314.out 0).trans rfl, (blk_cell BK314.out 1).trans rfl, (blk_cell BK314.out 2).trans rfl, (blk_cell BK315.out 0).trans rfl, (blk_cell BK315.out 1).trans rfl, (blk_cell BK315.out 2).trans rfl⟩ (fun hHeld => ?_)
       clear hK K
       refine norm_ (a' := ?_) ?_ ?_
       rotate_left
       ·show Act.put _ (some 38) _ = _
        simp only [Act.put, sA, sB, sC, i64_w, i32_w]
        rfl
       refine pure_ (i := 8) (N := some 39) (v := ?_) (a' := ?_) #[true, true, true, true, true, true, true, true, true, false, false, false, false, false, false, false, false, false, false, false] rfl rfl (any_of HT_.out (by kernel_rfl)) (fun _ _ _ h => h) (Or.inl ⟨by rfl, ?_⟩) ?_ ?_
       rotate_left
       ·intro w'
        go_simp
        with_reducible rfl
       rotate_left
       ·simp only [Act.put, sA, sB, sC, i64_w, i32_w]
        rfl
       refine pure_ (i := 9) (N := some 40) (v := ?_) (a' := ?_) #[true, true, true, true, true, true, true, true, true, true, false, false, false, false, false, false, false, false, false, false] rfl rfl (any_of HT_.out (by kernel_rfl)) (fun _ _ _ h => h) (Or.inl ⟨by rfl, ?_⟩) ?_ ?_
       rotate_left
       ·intro w'
        go_simp
        with_reducible rfl
       rotate_left
       ·simp only [Act.put, sA, sB, sC, i64_w, i32_w]
        rfl
       refine pure_ (i := 10) (N := some 41) (v := ?_) (a' := ?_) #[true, true, true, true, true, true, true, true, true, true, true, false, false, false, false, false, false, false, false, false] rfl rfl (any_of HT_.out (by kernel_rfl)) (fun _ _ _ h => h) (Or.inl ⟨by rfl, ?_⟩) ?_ ?_
       rotate_left
       ·intro w'
        go_simp
        with_reducible rfl
       rotate_left
       ·simp only [Act.put, sA, sB, sC, i64_w, i32_w]
        rfl
       refine pure_ (i := 11) (N := some 42) (v := undef) (a' := ?_) #[true, true, true, true, true, true, true, true, true, true, true, true, false, false, false, false, false, false, false, false] rfl rfl (any_of HT_.out (by kernel_rfl)) (fun _ _ _ h => h) (Or.inr ⟨by rfl, rfl⟩) ?_ ?_
       rotate_left
       ·simp only [Act.put, sA, sB, sC, i64_w, i32_w]
        rfl
       refine pure_ (i := 12) (N := some 43) (v := undef) (a' := ?_) #[true, true, true, true, true, true, true, true, true, true, true, true, true, false, false, false, false, false, false, false] rfl rfl (any_of HT_.out (by kernel_rfl)) (fun _ _ _ h => h) (Or.inr ⟨by rfl, rfl⟩) ?_ ?_
       rotate_left
       ·simp only [Act.put, sA, sB, sC, i64_w, i32_w]
        rfl
       refine pure_ (i := 13) (N := some 44) (v := undef) (a' := ?_) #[true, true, true, true, true, true, true, true, true, true, true, true, true, true, false, false, false, false, false, false] rfl rfl (any_of HT_.out (by kernel_rfl)) (fun _ _ _ h => h) (Or.inr ⟨by rfl, rfl⟩) ?_ ?_
       rotate_left
       ·simp only [Act.put, sA, sB, sC, i64_w, i32_w]
        rfl
       refine pure_ (i := 14) (N := some 45) (v := ?_) (a' := ?_) #[true, true, true, true, true, true, true, true, true, true, true, true, true, true, true, false, false, false, false, false] rfl rfl (any_of HT_.out (by kernel_rfl)) (fun _ _ _ h => h) (Or.inl ⟨by rfl, ?_⟩) ?_ ?_
       rotate_left
       ·intro w'
        go_simp
        with_reducible rfl
       rotate_left
       ·simp only [Act.put, sA, sB, sC, i64_w, i32_w]
        rfl
       refine pure_ (i := 15) (N := some 46) (v := ?_) (a' := ?_) #[true, true, true, true, true, true, true, true, true, true, true, true, true, true, true, true, false, false, false, false] rfl rfl (any_of HT_.out (by kernel_rfl)) (fun _ _ _ h => h) (Or.inl ⟨by rfl, ?_⟩) ?_ ?_
       rotate_left
       ·intro w'
        go_simp
        with_reducible rfl
       rotate_left
       ·simp only [Act.put, sA, sB, sC, i64_w, i32_w]
        rfl
       refine pure_ (i := 16) (N := some 47) (v := undef) (a' := ?_) #[true, true, true, true, true, true, true, true, true, true, true, true, true, true, true, true, true, false, false, false] rfl rfl (any_of HT_.out (by kernel_rfl)) (fun _ _ _ h => h) (Or.inr ⟨by rfl, rfl⟩) ?_ ?_
       rotate_left
       ·simp only [Act.put, sA, sB, sC, i64_w, i32_w]
        rfl
       refine pure_ (i := 17) (N := some 48) (v := undef) (a' := ?_) #[true, true, true, true, true, true, true, true, true, true, true, true, true, true, true, true, true, true, false, false] rfl rfl (any_of HT_.out (by kernel_rfl)) (fun _ _ _ h => h) (Or.inr ⟨by rfl, rfl⟩) ?_ ?_
       rotate_left
       ·simp only [Act.put, sA, sB, sC, i64_w, i32_w]
        rfl
       refine pure_ (i := 18) (N := some 49) (v := undef) (a' := ?_) #[true, true, true, true, true, true, true, true, true, true, true, true, true, true, true, true, true, true, true, false] rfl rfl (any_of HT_.out (by kernel_rfl)) (fun _ _ _ h => h) (Or.inr ⟨by rfl, rfl⟩) ?_ ?_
       rotate_left
       ·simp only [Act.put, sA, sB, sC, i64_w, i32_w]
        rfl
       refine pure_ (i := 19) (N := some 50) (v := ?_) (a' := ?_) #[true, true, true, true, true, true, true, true, true, true, true, true, true, true, true, true, true, true, true, true] rfl rfl (any_of HT_.out (by kernel_rfl)) (fun _ _ _ h => h) (Or.inl ⟨by rfl, ?_⟩) ?_ ?_
       rotate_left
       ·intro w'
        go_simp
        with_reducible rfl
       rotate_left
       ·simp only [Act.put, sA, sB, sC, i64_w, i32_w]
        rfl
       refine done_ (done_of HT_.out (by kernel_rfl)) ?_
       try go_wp2
       go_meet
       case rel => exact ⟨_, (true), (by first | rfl | (simp; done) | (simp [*]; done)), H', ⟨by have := HJ2.out; first | omega | exact Nat.le_refl _⟩, ⟨bk_ BK314.out⟩, ⟨bk_ BK315.out⟩, ⟨bk_ BK322.out⟩, ⟨bk_ BK323.out⟩, ⟨bk_ BK327.out⟩, ⟨by repeat (first | (with_reducible first | exact HB.out | apply below_alloc | apply pw_below_drewN | apply below_drew1 | refine below_set ?_ GE314.out | refine below_set ?_ GE315.out | refine below_set ?_ GE322.out | refine below_set ?_ GE323.out | refine below_set ?_ GE327.out) | exact HB.out)⟩⟩
    case rest =>
     clear HC9
     try clear c1
     try clear c2
     try clear p2
     try clear c4
     try clear c15
     try clear c22
     try clear c41
     try clear c43
     obtain ⟨kq, x50_8, rfl, HA, HJ8, BK314, BK315, BK322, BK323, BK327, HB⟩ := hcut
     cases kq with
     | zero => exact absurd HA.out (by simp [laws_FnSpanJoin.j1])
     | succ kj8 =>
      have H := HA.out
      clear HA
      simp only [laws_FnSpanJoin.j1] at H
      by_cases c60 : x50_8 = true
      ·subst c60
       have H1 : ((spec_SpanJoin.f kj8 t308 t309 t310 t311 t312 t313).bind fun bt334 => (some (t324 == bt334.1 && (t325 == bt334.2.1 && (t326 == bt334.2.2))))) = some r := by rw [if_pos rfl] at H; exact H
       clear H
       have H := H1
       clear H1
       replace H := Option.bind_eq_some_iff.mp H
       obtain ⟨⟨t334, t335, t336⟩, A610, H⟩ := H
       replace H : (some (t324 == t334 && (t325 == t335 && (t326 == t336)))) = some r := H
       have A61 := Aside0.mk A610
       clear A610
       obtain rfl := Option.some.inj H
       try go_wp2
       have n0_ := Aside0.mk (blk_drew BK314.out)
       have n1_ := Aside0.mk (blk_drew BK315.out)
       have n2_ := Aside0.mk (blk_drew BK322.out)
       have n3_ := Aside0.mk (blk_drew BK323.out)
       have n4_ := Aside0.mk (blk_drew BK327.out)
       have n5_ := Aside0.mk (below_drew1 HB.out)
       clear BK314
       clear BK315
       clear BK322
       clear BK323
       clear BK327
       clear HB
       have BK314 := n0_
       have BK315 := n1_
       have BK322 := n2_
       have BK323 := n3_
       have BK327 := n4_
       have HB := n5_
       clear n0_ n1_ n2_ n3_ n4_ n5_
       refine start_ (n := 6) (S := fun w' => w'.cell? ⟨gb327, 0, none⟩ = some (.bool t324) ∧ w'.cell? ⟨gb327, 1, none⟩ = some (.int .i64 t325) ∧ w'.cell? ⟨gb327, 2, none⟩ = some (.int .i64 t326) ∧ w'.cell? ⟨gb314, 0, none⟩ = some (.bool t308) ∧ w'.cell? ⟨gb314, 1, none⟩ = some (.int .i64 t309) ∧ w'.cell? ⟨gb314, 2, none⟩ = some (.int .i64 t310) ∧ w'.cell? ⟨gb315, 0, none⟩ = some (.bool t311) ∧ w'.cell? ⟨gb315, 1, none⟩ = some (.int .i64 t312) ∧ w'.cell? ⟨gb315, 2, none⟩ = some (.int .i64 t313)) (ds := []) #[false, false, false, false, false, false] (by kernel_rfl) rfl rfl ⟨(blk_cell BK327.out 0).trans rfl, (blk_cell BK327.out 1).trans rfl, (blk_cell BK327.out 2).trans rfl, (blk_cell BK314.out 0).trans rfl, (blk_cell BK314.out 1).trans rfl, (blk_cell BK314.out 2).trans rfl, (blk_cell BK315.out 0).trans rfl, (blk_cell BK315.out 1).trans rfl, (blk_cell BK315.out 2).trans rfl⟩ (fun hHeld => ?_)
       generalize wc.drew = w62 at BK314 BK315 BK322 BK323 BK327 HB hHeld ⊢
       refine take_ (i := 0) (N := some 51) (v := ?_) (a' := ?_) #[true, false, false, false, false, false] rfl rfl (by kernel_rfl) (fun _ _ _ h => h) (Or.inl ⟨by rfl, ?_⟩) hHeld ?_ ?_
       rotate_left
       ·rintro w' ⟨s0, s1, s2, s3, s4, s5, s6, s7, s8⟩
        go_simp
        with_reducible rfl
       rotate_left
       ·simp only [Act.put, sA, sB, sC, i64_w, i32_w]
        rfl
       refine take_ (i := 1) (N := some 52) (v := ?_) (a' := ?_) #[true, true, false, false, false, false] rfl rfl (by kernel_rfl) (fun _ _ _ h => h) (Or.inl ⟨by rfl, ?_⟩) hHeld ?_ ?_
       rotate_left
       ·rintro w' ⟨s0, s1, s2, s3, s4, s5, s6, s7, s8⟩
        go_simp
        with_reducible rfl
       rotate_left
       ·simp only [Act.put, sA, sB, sC, i64_w, i32_w]
        rfl
       refine take_ (i := 2) (N := some 53) (v := ?_) (a' := ?_) #[true, true, true, false, false, false] rfl rfl (by kernel_rfl) (fun _ _ _ h => h) (Or.inl ⟨by rfl, ?_⟩) hHeld ?_ ?_
       rotate_left
       ·rintro w' ⟨s0, s1, s2, s3, s4, s5, s6, s7, s8⟩
        go_simp
        with_reducible rfl
       rotate_left
       ·simp only [Act.put, sA, sB, sC, i64_w, i32_w]
        rfl
       refine one_ (i := 3) (N := some 54) #[true, true, true, true, false, false] rfl rfl (by kernel_rfl) (by decide) (fun K hK => ?_)
       refine goes_ Try.func15 (by kernel_rfl) rfl #[.agg #[.bool t308, .int .i64 t309, .int .i64 t310], .agg #[.bool t311, .int .i64 t312, .int .i64 t313]] (by rfl) rfl rfl (by (try simp only [List.map_toArray, List.map_cons, List.map_nil]); first | done | rfl | (simp only [List.length_drop, List.length_take]; rfl)) ?_
       with_reducible refine (spec_SpanJoin.calls kj8 t308 t309 t310 t311 t312 t313 t334 t335 t336 _ A61.out).mono ?_
       rintro e w63 ⟨rfl, hb⟩
       refine ⟨_, rfl, ?_⟩
       have n0_ := Aside0.mk (bb_ BK314.out hb)
       have n1_ := Aside0.mk (bb_ BK315.out hb)
       have n2_ := Aside0.mk (bb_ BK322.out hb)
       have n3_ := Aside0.mk (bb_ BK323.out hb)
       have n4_ := Aside0.mk (bb_ BK327.out hb)
       have n5_ := Aside0.mk (below_step (by repeat (first | (with_reducible first | exact HB.out | apply below_alloc | apply pw_below_drewN | apply below_drew1 | refine below_set ?_ GE314.out | refine below_set ?_ GE315.out | refine below_set ?_ GE322.out | refine below_set ?_ GE323.out | refine below_set ?_ GE327.out) | exact HB.out)) hb)
       clear BK314
       clear BK315
       clear BK322
       clear BK323
       clear BK327
       clear HB
       have BK314 := n0_
       have BK315 := n1_
       have BK322 := n2_
       have BK323 := n3_
       have BK327 := n4_
       have HB := n5_
       clear n0_ n1_ n2_ n3_ n4_ n5_
       (try clear hb)
       (try clear hb2)
       (try clear hk)
       (try clear hi)
       refine hK.out _ _ ⟨(blk_cell BK327.out 0).trans rfl, (blk_cell BK327.out 1).trans rfl, (blk_cell BK327.out 2).trans rfl, (blk_cell BK314.out 0).trans rfl, (blk_cell BK314.out 1).trans rfl, (blk_cell BK314.out 2).trans rfl, (blk_cell BK315.out 0).trans rfl, (blk_cell BK315.out 1).trans rfl, (blk_cell BK315.out 2).trans rfl⟩ (fun hHeld => ?_)
       clear hK K
       refine norm_ (a' := ?_) ?_ ?_
       rotate_left
       ·show Act.put _ (some 54) _ = _
        simp only [Act.put, sA, sB, sC, i64_w, i32_w]
        rfl
       refine pure_ (i := 4) (N := some 55) (v := ?_) (a' := ?_) #[true, true, true, true, true, false] rfl rfl (by kernel_rfl) (fun _ _ _ h => h) (Or.inl ⟨by rfl, ?_⟩) ?_ ?_
       rotate_left
       ·intro w'
        go_simp
        with_reducible rfl
       rotate_left
       ·simp only [Act.put, sA, sB, sC, i64_w, i32_w]
        rfl
       refine pure_ (i := 5) (N := some 4) (v := ?_) (a' := ?_) #[true, true, true, true, true, true] rfl rfl (by kernel_rfl) (fun _ _ _ h => h) (Or.inl ⟨by rfl, ?_⟩) ?_ ?_
       rotate_left
       ·intro w'
        go_simp
        with_reducible rfl
       rotate_left
       ·simp only [Act.put, sA, sB, sC, i64_w, i32_w]
        rfl
       refine done_ (by kernel_rfl) ?_
       try go_wp2
       go_ret
       exact ⟨by first | rfl | (simp [errW_none, errW_some] <;> rfl) | (simp [*, errW_none, errW_some] <;> rfl), by repeat (first | (with_reducible first | exact HB.out | apply below_alloc | apply pw_below_drewN | apply below_drew1 | refine below_set ?_ GE314.out | refine below_set ?_ GE315.out | refine below_set ?_ GE322.out | refine below_set ?_ GE323.out | refine below_set ?_ GE327.out) | exact HB.out)⟩
      ·replace c60 := Bool.eq_false_iff.mpr c60
       subst c60
       have H1 : ((impl_SpanIn.f t308 t309 t310 t324 t325 t326).bind fun t337 => (if t337 = true then ((impl_SpanIn.f t311 t312 t313 t324 t325 t326).bind fun t338 => (if t338 = true then ((impl_SpanJoin.f kj8 t311 t312 t313 t308 t309 t310).bind fun bt339 => (if (!(bt339.1 == t324) || (!(bt339.2.1 == t325) || (!(bt339.2.2 == t326)))) = true then (laws_FnSpanJoin.j2 kj8 true t308 t309 t310 t311 t312 t313 t316 t317 t318 t324 t325 t326) else ((impl_SpanJoin.f kj8 t324 t325 t326 t308 t309 t310).bind fun bt342 => (laws_FnSpanJoin.j2 kj8 (!(bt342.1 == t324) || (!(bt342.2.1 == t325) || (!(bt342.2.2 == t326)))) t308 t309 t310 t311 t312 t313 t316 t317 t318 t324 t325 t326)))) else (laws_FnSpanJoin.j2 kj8 true t308 t309 t310 t311 t312 t313 t316 t317 t318 t324 t325 t326))) else (laws_FnSpanJoin.j2 kj8 true t308 t309 t310 t311 t312 t313 t316 t317 t318 t324 t325 t326))) = some r := by rw [if_neg (show ¬ (false = true) by decide)] at H; exact H
       clear H
       have H := H1
       clear H1
       have HC64 := Aside0.mk H
       clear H
       go_upto_region 8 with (fail)
       go_cut [79] (fun v79 wc => ∃ (kq : Nat) (x79_63 : Bool), v79 = .bool x79_63 ∧ Aside0 (laws_FnSpanJoin.j2 kq x79_63 t308 t309 t310 t311 t312 t313 t316 t317 t318 t324 t325 t326 = some r) ∧ Aside0 (kq ≤ kj8) ∧ Aside0 (wc.heap[gb314]? = some (.cells #[.bool t308, .int .i64 t309, .int .i64 t310] 25 (0, 0))) ∧ Aside0 (wc.heap[gb315]? = some (.cells #[.bool t311, .int .i64 t312, .int .i64 t313] 25 (0, 0))) ∧ Aside0 (wc.heap[gb322]? = some (.cells #[.bool t316, .int .i64 t317, .int .i64 t318] 25 (0, 0))) ∧ Aside0 (wc.heap[gb323]? = some (.cells #[.bool t319, .int .i64 t320, .int .i64 t321] 25 (0, 0))) ∧ Aside0 (wc.heap[gb327]? = some (.cells #[.bool t324, .int .i64 t325, .int .i64 t326] 25 (0, 0))) ∧ Aside0 (Below w.heap.size w wc))
       case first =>
        have H := HC64.out
        clear HC64
        replace H := Option.bind_eq_some_iff.mp H
        obtain ⟨t337, A650, H⟩ := H
        replace H : (if t337 = true then ((impl_SpanIn.f t311 t312 t313 t324 t325 t326).bind fun t338 => (if t338 = true then ((impl_SpanJoin.f kj8 t311 t312 t313 t308 t309 t310).bind fun bt339 => (if (!(bt339.1 == t324) || (!(bt339.2.1 == t325) || (!(bt339.2.2 == t326)))) = true then (laws_FnSpanJoin.j2 kj8 true t308 t309 t310 t311 t312 t313 t316 t317 t318 t324 t325 t326) else ((impl_SpanJoin.f kj8 t324 t325 t326 t308 t309 t310).bind fun bt342 => (laws_FnSpanJoin.j2 kj8 (!(bt342.1 == t324) || (!(bt342.2.1 == t325) || (!(bt342.2.2 == t326)))) t308 t309 t310 t311 t312 t313 t316 t317 t318 t324 t325 t326)))) else (laws_FnSpanJoin.j2 kj8 true t308 t309 t310 t311 t312 t313 t316 t317 t318 t324 t325 t326))) else (laws_FnSpanJoin.j2 kj8 true t308 t309 t310 t311 t312 t313 t316 t317 t318 t324 t325 t326)) = some r := H
        have A65 := Aside0.mk A650
        clear A650
        by_cases c66 : t337 = true
        ·subst c66
         have H1 : ((impl_SpanIn.f t311 t312 t313 t324 t325 t326).bind fun t338 => (if t338 = true then ((impl_SpanJoin.f kj8 t311 t312 t313 t308 t309 t310).bind fun bt339 => (if (!(bt339.1 == t324) || (!(bt339.2.1 == t325) || (!(bt339.2.2 == t326)))) = true then (laws_FnSpanJoin.j2 kj8 true t308 t309 t310 t311 t312 t313 t316 t317 t318 t324 t325 t326) else ((impl_SpanJoin.f kj8 t324 t325 t326 t308 t309 t310).bind fun bt342 => (laws_FnSpanJoin.j2 kj8 (!(bt342.1 == t324) || (!(bt342.2.1 == t325) || (!(bt342.2.2 == t326)))) t308 t309 t310 t311 t312 t313 t316 t317 t318 t324 t325 t326)))) else (laws_FnSpanJoin.j2 kj8 true t308 t309 t310 t311 t312 t313 t316 t317 t318 t324 t325 t326))) = some r := by rw [if_pos rfl] at H; exact H
         clear H
         have H := H1
         clear H1
         replace H := Option.bind_eq_some_iff.mp H
         obtain ⟨t338, A670, H⟩ := H
         replace H : (if t338 = true then ((impl_SpanJoin.f kj8 t311 t312 t313 t308 t309 t310).bind fun bt339 => (if (!(bt339.1 == t324) || (!(bt339.2.1 == t325) || (!(bt339.2.2 == t326)))) = true then (laws_FnSpanJoin.j2 kj8 true t308 t309 t310 t311 t312 t313 t316 t317 t318 t324 t325 t326) else ((impl_SpanJoin.f kj8 t324 t325 t326 t308 t309 t310).bind fun bt342 => (laws_FnSpanJoin.j2 kj8 (!(bt342.1 == t324) || (!(bt342.2.1 == t325) || (!(bt342.2.2 == t326)))) t308 t309 t310 t311 t312 t313 t316 t317 t318 t324 t325 t326)))) else (laws_FnSpanJoin.j2 kj8 true t308 t309 t310 t311 t312 t313 t316 t317 t318 t324 t325 t326)) = some r := H
         have A67 := Aside0.mk A670
         clear A670
         by_cases c68 : t338 = true
         ·subst c68
          have H1 : ((impl_SpanJoin.f kj8 t311 t312 t313 t308 t309 t310).bind fun bt339 => (if (!(bt339.1 == t324) || (!(bt339.2.1 == t325) || (!(bt339.2.2 == t326)))) = true then (laws_FnSpanJoin.j2 kj8 true t308 t309 t310 t311 t312 t313 t316 t317 t318 t324 t325 t326) else ((impl_SpanJoin.f kj8 t324 t325 t326 t308 t309 t310).bind fun bt342 => (laws_FnSpanJoin.j2 kj8 (!(bt342.1 == t324) || (!(bt342.2.1 == t325) || (!(bt342.2.2 == t326)))) t308 t309 t310 t311 t312 t313 t316 t317 t318 t324 t325 t326)))) = some r := by rw [if_pos rfl] at H; exact H
          clear H
          have H := H1
          clear H1
          replace H := Option.bind_eq_some_iff.mp H
          obtain ⟨⟨t339, t340, t341⟩, A690, H⟩ := H
          replace H : (if (!(t339 == t324) || (!(t340 == t325) || (!(t341 == t326)))) = true then (laws_FnSpanJoin.j2 kj8 true t308 t309 t310 t311 t312 t313 t316 t317 t318 t324 t325 t326) else ((impl_SpanJoin.f kj8 t324 t325 t326 t308 t309 t310).bind fun bt342 => (laws_FnSpanJoin.j2 kj8 (!(bt342.1 == t324) || (!(bt342.2.1 == t325) || (!(bt342.2.2 == t326)))) t308 t309 t310 t311 t312 t313 t316 t317 t318 t324 t325 t326))) = some r := H
          have A69 := Aside0.mk A690
          clear A690
          by_cases c70 : (!(t339 == t324) || (!(t340 == t325) || (!(t341 == t326)))) = true
          ·rw [if_pos c70] at H
           have c70b0 : (!(t339 == t324) || (!(t340 == t325) || (!(t341 == t326)))) = true := c70
           clear c70
           (first | rw [c70b0] | (simp only [i64_w, i32_w]; rw [c70b0]) | skip)
           have H' := Aside0.mk H
           clear H
           try go_wp2
           have n0_ := Aside0.mk (blk_drew BK314.out)
           have n1_ := Aside0.mk (blk_drew BK315.out)
           have n2_ := Aside0.mk (blk_drew BK322.out)
           have n3_ := Aside0.mk (blk_drew BK323.out)
           have n4_ := Aside0.mk (blk_drew BK327.out)
           have n5_ := Aside0.mk (below_drew1 HB.out)
           clear BK314
           clear BK315
           clear BK322
           clear BK323
           clear BK327
           clear HB
           have BK314 := n0_
           have BK315 := n1_
           have BK322 := n2_
           have BK323 := n3_
           have BK327 := n4_
           have HB := n5_
           clear n0_ n1_ n2_ n3_ n4_ n5_
           refine start_ (n := 24) (S := fun w' => w'.cell? ⟨gb314, 0, none⟩ = some (.bool t308) ∧ w'.cell? ⟨gb314, 1, none⟩ = some (.int .i64 t309) ∧ w'.cell? ⟨gb314, 2, none⟩ = some (.int .i64 t310) ∧ w'.cell? ⟨gb327, 0, none⟩ = some (.bool t324) ∧ w'.cell? ⟨gb327, 1, none⟩ = some (.int .i64 t325) ∧ w'.cell? ⟨gb327, 2, none⟩ = some (.int .i64 t326) ∧ w'.cell? ⟨gb315, 0, none⟩ = some (.bool t311) ∧ w'.cell? ⟨gb315, 1, none⟩ = some (.int .i64 t312) ∧ w'.cell? ⟨gb315, 2, none⟩ = some (.int .i64 t313)) (ds := []) #[false, false, false, false, false, false, false, false, false, false, false, false, false, false, false, false, false, false, false, false, false, false, false, false] (by kernel_rfl) rfl rfl ⟨(blk_cell BK314.out 0).trans rfl, (blk_cell BK314.out 1).trans rfl, (blk_cell BK314.out 2).trans rfl, (blk_cell BK327.out 0).trans rfl, (blk_cell BK327.out 1).trans rfl, (blk_cell BK327.out 2).trans rfl, (blk_cell BK315.out 0).trans rfl, (blk_cell BK315.out 1).trans rfl, (blk_cell BK315.out 2).trans rfl⟩ (fun hHeld => ?_); refine with_tabW laws_FnSpanJoin.tab8 laws_FnSpanJoin.bits8 (fun HT_ HW_ => ?_)
           generalize wc.drew = w71 at BK314 BK315 BK322 BK323 BK327 HB hHeld ⊢
           refine take_ (i := 0) (N := some 56) (v := ?_) (a' := ?_) #[true, false, false, false, false, false, false, false, false, false, false, false, false, false, false, false, false, false, false, false, false, false, false, false] rfl rfl (take_ofW HT_.out HW_.out (by kernel_rfl)) (fun _ _ _ h => h) (Or.inl ⟨by rfl, ?_⟩) hHeld ?_ ?_
           rotate_left
           ·rintro w' ⟨s0, s1, s2, s3, s4, s5, s6, s7, s8⟩
            go_simp
            with_reducible rfl
           rotate_left
           ·simp only [Act.put, sA, sB, sC, i64_w, i32_w]
            rfl
           refine take_ (i := 1) (N := some 57) (v := ?_) (a' := ?_) #[true, true, false, false, false, false, false, false, false, false, false, false, false, false, false, false, false, false, false, false, false, false, false, false] rfl rfl (take_ofW HT_.out HW_.out (by kernel_rfl)) (fun _ _ _ h => h) (Or.inl ⟨by rfl, ?_⟩) hHeld ?_ ?_
           rotate_left
           ·rintro w' ⟨s0, s1, s2, s3, s4, s5, s6, s7, s8⟩
            go_simp
            with_reducible rfl
           rotate_left
           ·simp only [Act.put, sA, sB, sC, i64_w, i32_w]
            rfl
           refine one_ (i := 2) (N := some 58) #[true, true, true, false, false, false, false, false, false, false, false, false, false, false, false, false, false, false, false, false, false, false, false, false] rfl rfl (one_of HT_.out (by kernel_rfl)) (by decide) (fun K hK => ?_)
           refine goes_ Try.func20 (by kernel_rfl) rfl #[.agg #[.bool t308, .int .i64 t309, .int .i64 t310], .agg #[.bool t324, .int .i64 t325, .int .i64 t326]] (by rfl) rfl rfl (by (try simp only [List.map_toArray, List.map_cons, List.map_nil]); first | done | rfl | (simp only [List.length_drop, List.length_take]; rfl)) ?_
           with_reducible refine (impl_SpanIn.calls t308 t309 t310 t324 t325 t326 true _ A65.out).mono ?_
           rintro e w72 ⟨rfl, hb⟩
           refine ⟨_, rfl, ?_⟩
           have n0_ := Aside0.mk (bb_ BK314.out hb)
           have n1_ := Aside0.mk (bb_ BK315.out hb)
           have n2_ := Aside0.mk (bb_ BK322.out hb)
           have n3_ := Aside0.mk (bb_ BK323.out hb)
           have n4_ := Aside0.mk (bb_ BK327.out hb)
           have n5_ := Aside0.mk (below_step (by repeat (first | (with_reducible first | exact HB.out | apply below_alloc | apply pw_below_drewN | apply below_drew1 | refine below_set ?_ GE314.out | refine below_set ?_ GE315.out | refine below_set ?_ GE322.out | refine below_set ?_ GE323.out | refine below_set ?_ GE327.out) | exact HB.out)) hb)
           clear BK314
           clear BK315
           clear BK322
           clear BK323
           clear BK327
           clear HB
           have BK314 := n0_
           have BK315 := n1_
           have BK322 := n2_
           have BK323 := n3_
           have BK327 := n4_
           have HB := n5_
           clear n0_ n1_ n2_ n3_ n4_ n5_
           (try clear hb)
           (try clear hb2)
           (try clear hk)
           (try clear hi)
           refine hK.out _ _ ⟨(blk_cell BK314.out 0).trans rfl, (blk_cell BK314.out 1).trans rfl, (blk_cell BK314.out 2).trans rfl, (blk_cell BK327.out 0).trans rfl, (blk_cell BK327.out 1).trans rfl, (blk_cell BK327.out 2).trans rfl, (blk_cell BK315.out 0).trans rfl, (blk_cell BK315.out 1).trans rfl, (blk_cell BK315.out 2).trans rfl⟩ (fun hHeld => ?_)
           clear hK K
           refine norm_ (a' := ?_) ?_ ?_
           rotate_left
           ·show Act.put _ (some 58) _ = _
            simp only [Act.put, sA, sB, sC, i64_w, i32_w]
            rfl
           refine pure_ (i := 3) (N := some 59) (v := ?_) (a' := ?_) #[true, true, true, true, false, false, false, false, false, false, false, false, false, false, false, false, false, false, false, false, false, false, false, false] rfl rfl (any_of HT_.out (by kernel_rfl)) (fun _ _ _ h => h) (Or.inl ⟨by rfl, ?_⟩) ?_ ?_
           rotate_left
           ·intro w'
            go_simp
            with_reducible rfl
           rotate_left
           ·simp only [Act.put, sA, sB, sC, i64_w, i32_w]
            rfl
           refine pure_ (i := 4) (N := some 60) (v := ?_) (a' := ?_) #[true, true, true, true, true, false, false, false, false, false, false, false, false, false, false, false, false, false, false, false, false, false, false, false] rfl rfl (any_of HT_.out (by kernel_rfl)) (fun _ _ _ h => h) (Or.inl ⟨by rfl, ?_⟩) ?_ ?_
           rotate_left
           ·intro w'
            go_simp
            with_reducible rfl
           rotate_left
           ·simp only [Act.put, sA, sB, sC, i64_w, i32_w]
            rfl
           refine take_ (i := 5) (N := some 61) (v := ?_) (a' := ?_) #[true, true, true, true, true, true, false, false, false, false, false, false, false, false, false, false, false, false, false, false, false, false, false, false] rfl rfl (take_ofW HT_.out HW_.out (by kernel_rfl)) (fun _ _ _ h => h) (Or.inl ⟨by rfl, ?_⟩) hHeld ?_ ?_
           rotate_left
           ·rintro w' ⟨s0, s1, s2, s3, s4, s5, s6, s7, s8⟩
            go_simp
            with_reducible rfl
           rotate_left
           ·simp only [Act.put, sA, sB, sC, i64_w, i32_w]
            rfl
           refine take_ (i := 6) (N := some 62) (v := ?_) (a' := ?_) #[true, true, true, true, true, true, true, false, false, false, false, false, false, false, false, false, false, false, false, false, false, false, false, false] rfl rfl (take_ofW HT_.out HW_.out (by kernel_rfl)) (fun _ _ _ h => h) (Or.inl ⟨by rfl, ?_⟩) hHeld ?_ ?_
           rotate_left
           ·rintro w' ⟨s0, s1, s2, s3, s4, s5, s6, s7, s8⟩
            go_simp
            with_reducible rfl
           rotate_left
           ·simp only [Act.put, sA, sB, sC, i64_w, i32_w]
            rfl
           refine one_ (i := 7) (N := some 63) #[true, true, true, true, true, true, true, true, false, false, false, false, false, false, false, false, false, false, false, false, false, false, false, false] rfl rfl (one_of HT_.out (by kernel_rfl)) (by decide) (fun K hK => ?_)
           refine goes_ Try.func20 (by kernel_rfl) rfl #[.agg #[.bool t311, .int .i64 t312, .int .i64 t313], .agg #[.bool t324, .int .i64 t325, .int .i64 t326]] (by rfl) rfl rfl (by (try simp only [List.map_toArray, List.map_cons, List.map_nil]); first | done | rfl | (simp only [List.length_drop, List.length_take]; rfl)) ?_
           with_reducible refine (impl_SpanIn.calls t311 t312 t313 t324 t325 t326 true _ A67.out).mono ?_
           rintro e w73 ⟨rfl, hb⟩
           refine ⟨_, rfl, ?_⟩
           have n0_ := Aside0.mk (bb_ BK314.out hb)
           have n1_ := Aside0.mk (bb_ BK315.out hb)
           have n2_ := Aside0.mk (bb_ BK322.out hb)
           have n3_ := Aside0.mk (bb_ BK323.out hb)
           have n4_ := Aside0.mk (bb_ BK327.out hb)
           have n5_ := Aside0.mk (below_step (by repeat (first | (with_reducible first | exact HB.out | apply below_alloc | apply pw_below_drewN | apply below_drew1 | refine below_set ?_ GE314.out | refine below_set ?_ GE315.out | refine below_set ?_ GE322.out | refine below_set ?_ GE323.out | refine below_set ?_ GE327.out) | exact HB.out)) hb)
           clear BK314
           clear BK315
           clear BK322
           clear BK323
           clear BK327
           clear HB
           have BK314 := n0_
           have BK315 := n1_
           have BK322 := n2_
           have BK323 := n3_
           have BK327 := n4_
           have HB := n5_
           clear n0_ n1_ n2_ n3_ n4_ n5_
           (try clear hb)
           (try clear hb2)
           (try clear hk)
           (try clear hi)
           refine hK.out _ _ ⟨(blk_cell BK314.out 0).trans rfl, (blk_cell BK314.out 1).trans rfl, (blk_cell BK314.out 2).trans rfl, (blk_cell BK327.out 0).trans rfl, (blk_cell BK327.out 1).trans rfl, (blk_cell BK327.out 2).trans rfl, (blk_cell BK315.out 0).trans rfl, (blk_cell BK315.out 1).trans rfl, (blk_cell BK315.out 2).trans rfl⟩ (fun hHeld => ?_)
           clear hK K
           refine norm_ (a' := ?_) ?_ ?_
           rotate_left
           ·show Act.put _ (some 63) _ = _
            simp only [Act.put, sA, sB, sC, i64_w, i32_w]
            rfl
           refine pure_ (i := 8) (N := some 64) (v := ?_) (a' := ?_) #[true, true, true, true, true, true, true, true, true, false, false, false, false, false, false, false, false, false, false, false, false, false, false, false] rfl rfl (any_of HT_.out (by kernel_rfl)) (fun _ _ _ h => h) (Or.inl ⟨by rfl, ?_⟩) ?_ ?_
           rotate_left
           ·intro w'
            go_simp
            with_reducible rfl
           rotate_left
           ·simp only [Act.put, sA, sB, sC, i64_w, i32_w]
            rfl
           refine pure_ (i := 9) (N := some 65) (v := ?_) (a' := ?_) #[true, true, true, true, true, true, true, true, true, true, false, false, false, false, false, false, false, false, false, false, false, false, false, false] rfl rfl (any_of HT_.out (by kernel_rfl)) (fun _ _ _ h => h) (Or.inl ⟨by rfl, ?_⟩) ?_ ?_
           rotate_left
           ·intro w'
            go_simp
            with_reducible rfl
           rotate_left
           ·simp only [Act.put, sA, sB, sC, i64_w, i32_w]
            rfl
           refine pure_ (i := 10) (N := some 66) (v := ?_) (a' := ?_) #[true, true, true, true, true, true, true, true, true, true, true, false, false, false, false, false, false, false, false, false, false, false, false, false] rfl rfl (any_of HT_.out (by kernel_rfl)) (fun _ _ _ h => h) (Or.inl ⟨by rfl, ?_⟩) ?_ ?_
           rotate_left
           ·intro w'
            go_simp
            with_reducible rfl
           rotate_left
           ·simp only [Act.put, sA, sB, sC, i64_w, i32_w]
            rfl
           refine take_ (i := 11) (N := some 67) (v := ?_) (a' := ?_) #[true, true, true, true, true, true, true, true, true, true, true, true, false, false, false, false, false, false, false, false, false, false, false, false] rfl rfl (take_ofW HT_.out HW_.out (by kernel_rfl)) (fun _ _ _ h => h) (Or.inl ⟨by rfl, ?_⟩) hHeld ?_ ?_
           rotate_left
           ·rintro w' ⟨s0, s1, s2, s3, s4, s5, s6, s7, s8⟩
            go_simp
            with_reducible rfl
           rotate_left
           ·simp only [Act.put, sA, sB, sC, i64_w, i32_w]
            rfl
           refine take_ (i := 12) (N := some 68) (v := ?_) (a' := ?_) #[true, true, true, true, true, true, true, true, true, true, true, true, true, false, false, false, false, false, false, false, false, false, false, false] rfl rfl (take_ofW HT_.out HW_.out (by kernel_rfl)) (fun _ _ _ h => h) (Or.inl ⟨by rfl, ?_⟩) hHeld ?_ ?_
           rotate_left
           ·rintro w' ⟨s0, s1, s2, s3, s4, s5, s6, s7, s8⟩
            go_simp
            with_reducible rfl
           rotate_left
           ·simp only [Act.put, sA, sB, sC, i64_w, i32_w]
            rfl
           refine take_ (i := 14) (N := some 70) (v := ?_) (a' := ?_) #[true, true, true, true, true, true, true, true, true, true, true, true, true, false, true, false, false, false, false, false, false, false, false, false] rfl rfl (take_ofW HT_.out HW_.out (by kernel_rfl)) (fun _ _ _ h => h) (Or.inl ⟨by rfl, ?_⟩) hHeld ?_ ?_
           rotate_left
           ·rintro w' ⟨s0, s1, s2, s3, s4, s5, s6, s7, s8⟩
            go_simp
            with_reducible rfl
           rotate_left
           ·simp only [Act.put, sA, sB, sC, i64_w, i32_w]
            rfl
           refine one_ (i := 13) (N := some 69) #[true, true, true, true, true, true, true, true, true, true, true, true, true, true, true, false, false, false, false, false, false, false, false, false] rfl rfl (one_of HT_.out (by kernel_rfl)) (by decide) (fun K hK => ?_)
           refine goes_ Try.func17 (by kernel_rfl) rfl #[.agg #[.bool t311, .int .i64 t312, .int .i64 t313], .agg #[.bool t308, .int .i64 t309, .int .i64 t310]] (by rfl) rfl rfl (by (try simp only [List.map_toArray, List.map_cons, List.map_nil]); first | done | rfl | (simp only [List.length_drop, List.length_take]; rfl)) ?_
           with_reducible refine (impl_SpanJoin.calls kj8 t311 t312 t313 t308 t309 t310 t339 t340 t341 _ A69.out).mono ?_
           rintro e w74 ⟨rfl, hb⟩
           refine ⟨_, rfl, ?_⟩
           have n0_ := Aside0.mk (bb_ BK314.out hb)
           have n1_ := Aside0.mk (bb_ BK315.out hb)
           have n2_ := Aside0.mk (bb_ BK322.out hb)
           have n3_ := Aside0.mk (bb_ BK323.out hb)
           have n4_ := Aside0.mk (bb_ BK327.out hb)
           have n5_ := Aside0.mk (below_step (by repeat (first | (with_reducible first | exact HB.out | apply below_alloc | apply pw_below_drewN | apply below_drew1 | refine below_set ?_ GE314.out | refine below_set ?_ GE315.out | refine below_set ?_ GE322.out | refine below_set ?_ GE323.out | refine below_set ?_ GE327.out) | exact HB.out)) hb)
           clear BK314
           clear BK315
           clear BK322
           clear BK323
           clear BK327
           clear HB
           have BK314 := n0_
           have BK315 := n1_
           have BK322 := n2_
           have BK323 := n3_
           have BK327 := n4_
           have HB := n5_
           clear n0_ n1_ n2_ n3_ n4_ n5_
           (try clear hb)
           (try clear hb2)
           (try clear hk)
           (try clear hi)
           refine hK.out _ _ ⟨(blk_cell BK314.out 0).trans rfl, (blk_cell BK314.out 1).trans rfl, (blk_cell BK314.out 2).trans rfl, (blk_cell BK327.out 0).trans rfl, (blk_cell BK327.out 1).trans rfl, (blk_cell BK327.out 2).trans rfl, (blk_cell BK315.out 0).trans rfl, (blk_cell BK315.out 1).trans rfl, (blk_cell BK315.out 2).trans rfl⟩ (fun hHeld => ?_)
           clear hK K
           refine norm_ (a' := ?_) ?_ ?_
           rotate_left
           ·show Act.put _ (some 69) _ = _
            simp only [Act.put, sA, sB, sC, i64_w, i32_w]
            rfl
           refine pure_ (i := 15) (N := some 71) (v := ?_) (a' := ?_) #[true, true, true, true, true, true, true, true, true, true, true, true, true, true, true, true, false, false, false, false, false, false, false, false] rfl rfl (any_of HT_.out (by kernel_rfl)) (fun _ _ _ h => h) (Or.inl ⟨by rfl, ?_⟩) ?_ ?_
           rotate_left
           ·intro w'
            go_simp
            with_reducible rfl
           rotate_left
           ·simp only [Act.put, sA, sB, sC, i64_w, i32_w]
            rfl
           refine pure_ (i := 16) (N := some 72) (v := ?_) (a' := ?_) #[true, true, true, true, true, true, true, true, true, true, true, true, true, true, true, true, true, false, false, false, false, false, false, false] rfl rfl (any_of HT_.out (by kernel_rfl)) (fun _ _ _ h => h) (Or.inl ⟨by rfl, ?_⟩) ?_ ?_
           rotate_left
           ·intro w'
            go_simp
            with_reducible rfl
           rotate_left
           ·simp only [Act.put, sA, sB, sC, i64_w, i32_w]
            rfl
           refine pure_ (i := 17) (N := some 73) (v := ?_) (a' := ?_) #[true, true, true, true, true, true, true, true, true, true, true, true, true, true, true, true, true, true, false, false, false, false, false, false] rfl rfl (any_of HT_.out (by kernel_rfl)) (fun _ _ _ h => h) (Or.inl ⟨by rfl, ?_⟩) ?_ ?_
           rotate_left
           ·intro w'
            go_simp
            with_reducible rfl
           rotate_left
           ·simp only [Act.put, sA, sB, sC, i64_w, i32_w]
            rfl
           refine pure_ (i := 18) (N := some 74) (v := undef) (a' := ?_) #[true, true, true, true, true, true, true, true, true, true, true, true, true, true, true, true, true, true, true, false, false, false, false, false] rfl rfl (any_of HT_.out (by kernel_rfl)) (fun _ _ _ h => h) (Or.inr ⟨by rfl, rfl⟩) ?_ ?_
           rotate_left
           ·simp only [Act.put, sA, sB, sC, i64_w, i32_w]
            rfl
           refine pure_ (i := 19) (N := some 75) (v := undef) (a' := ?_) #[true, true, true, true, true, true, true, true, true, true, true, true, true, true, true, true, true, true, true, true, false, false, false, false] rfl rfl (any_of HT_.out (by kernel_rfl)) (fun _ _ _ h => h) (Or.inr ⟨by rfl, rfl⟩) ?_ ?_
           rotate_left
           ·simp only [Act.put, sA, sB, sC, i64_w, i32_w]
            rfl
           refine pure_ (i := 20) (N := some 76) (v := undef) (a' := ?_) #[true, true, true, true, true, true, true, true, true, true, true, true, true, true, true, true, true, true, true, true, true, false, false, false] rfl rfl (any_of HT_.out (by kernel_rfl)) (fun _ _ _ h => h) (Or.inr ⟨by rfl, rfl⟩) ?_ ?_
           rotate_left
           ·simp only [Act.put, sA, sB, sC, i64_w, i32_w]
            rfl
           refine pure_ (i := 21) (N := some 77) (v := undef) (a' := ?_) #[true, true, true, true, true, true, true, true, true, true, true, true, true, true, true, true, true, true, true, true, true, true, false, false] rfl rfl (any_of HT_.out (by kernel_rfl)) (fun _ _ _ h => h) (Or.inr ⟨by rfl, rfl⟩) ?_ ?_
           rotate_left
           ·simp only [Act.put, sA, sB, sC, i64_w, i32_w]
            rfl
           refine pure_ (i := 22) (N := some 78) (v := undef) (a' := ?_) #[true, true, true, true, true, true, true, true, true, true, true, true, true, true, true, true, true, true, true, true, true, true, true, false] rfl rfl (any_of HT_.out (by kernel_rfl)) (fun _ _ _ h => h) (Or.inr ⟨by rfl, rfl⟩) ?_ ?_
           rotate_left
           ·simp only [Act.put, sA, sB, sC, i64_w, i32_w]
            rfl
           refine pure_ (i := 23) (N := some 79) (v := ?_) (a' := ?_) #[true, true, true, true, true, true, true, true, true, true, true, true, true, true, true, true, true, true, true, true, true, true, true, true] rfl rfl (any_of HT_.out (by kernel_rfl)) (fun _ _ _ h => h) (Or.inl ⟨by rfl, ?_⟩) ?_ ?_
           rotate_left
           ·intro w'
            go_simp
            with_reducible rfl
           rotate_left
           ·simp only [Act.put, sA, sB, sC, i64_w, i32_w]
            rfl
           refine done_ (done_of HT_.out (by kernel_rfl)) ?_
           try go_wp2
           go_meet
           case rel => exact ⟨_, (true), (by first | rfl | (simp; done) | (simp [*]; done)), H', ⟨by have := HJ2.out; have := HJ8.out; first | omega | exact Nat.le_refl _⟩, ⟨bk_ BK314.out⟩, ⟨bk_ BK315.out⟩, ⟨bk_ BK322.out⟩, ⟨bk_ BK323.out⟩, ⟨bk_ BK327.out⟩, ⟨by repeat (first | (with_reducible first | exact HB.out | apply below_alloc | apply pw_below_drewN | apply below_drew1 | refine below_set ?_ GE314.out | refine below_set ?_ GE315.out | refine below_set ?_ GE322.out | refine below_set ?_ GE323.out | refine below_set ?_ GE327.out) | exact HB.out)⟩⟩
          ·rw [if_neg c70] at H
           have c70b0 : (!(t339 == t324) || (!(t340 == t325) || (!(t341 == t326)))) = false := by simpa using c70
           clear c70
           (first | rw [c70b0] | (simp only [i64_w, i32_w]; rw [c70b0]) | skip)
           replace H := Option.bind_eq_some_iff.mp H
           obtain ⟨⟨t342, t343, t344⟩, A750, H⟩ := H
           replace H : (laws_FnSpanJoin.j2 kj8 (!(t342 == t324) || (!(t343 == t325) || (!(t344 == t326)))) t308 t309 t310 t311 t312 t313 t316 t317 t318 t324 t325 t326) = some r := H
           have A75 := Aside0.mk A750
           clear A750
           have H' := Aside0.mk H
           clear H
           try go_wp2
           have n0_ := Aside0.mk (blk_drew BK314.out)
           have n1_ := Aside0.mk (blk_drew BK315.out)
           have n2_ := Aside0.mk (blk_drew BK322.out)
           have n3_ := Aside0.mk (blk_drew BK323.out)
           have n4_ := Aside0.mk (blk_drew BK327.out)
           have n5_ := Aside0.mk (below_drew1 HB.out)
           clear BK314
           clear BK315
           clear BK322
           clear BK323
           clear BK327
           clear HB
           have BK314 := n0_
           have BK315 := n1_
           have BK322 := n2_
           have BK323 := n3_
           have BK327 := n4_
           have HB := n5_
           clear n0_ n1_ n2_ n3_ n4_ n5_
           refine start_ (n := 24) (S := fun w' => w'.cell? ⟨gb314, 0, none⟩ = some (.bool t308) ∧ w'.cell? ⟨gb314, 1, none⟩ = some (.int .i64 t309) ∧ w'.cell? ⟨gb314, 2, none⟩ = some (.int .i64 t310) ∧ w'.cell? ⟨gb327, 0, none⟩ = some (.bool t324) ∧ w'.cell? ⟨gb327, 1, none⟩ = some (.int .i64 t325) ∧ w'.cell? ⟨gb327, 2, none⟩ = some (.int .i64 t326) ∧ w'.cell? ⟨gb315, 0, none⟩ = some (.bool t311) ∧ w'.cell? ⟨gb315, 1, none⟩ = some (.int .i64 t312) ∧ w'.cell? ⟨gb315, 2, none⟩ = some (.int .i64 t313)) (ds := []) #[false, false, false, false, false, false, false, false, false, false, false, false, false, false, false, false, false, false, false, false, false, false, false, false] (by kernel_rfl) rfl rfl ⟨(blk_cell BK314.out 0).trans rfl, (blk_cell BK314.out 1).trans rfl, (blk_cell BK314.out 2).trans rfl, (blk_cell BK327.out 0).trans rfl, (blk_cell BK327.out 1).trans rfl, (blk_cell BK327.out 2).trans rfl, (blk_cell BK315.out 0).trans rfl, (blk_cell BK315.out 1).trans rfl, (blk_cell BK315.out 2).trans rfl⟩ (fun hHeld => ?_); refine with_tabW laws_FnSpanJoin.tab8 laws_FnSpanJoin.bits8 (fun HT_ HW_ => ?_)
           generalize wc.drew = w76 at BK314 BK315 BK322 BK323 BK327 HB hHeld ⊢
           refine take_ (i := 0) (N := some 56) (v := ?_) (a' := ?_) #[true, false, false, false, false, false, false, false, false, false, false, false, false, false, false, false, false, false, false, false, false, false, false, false] rfl rfl (take_ofW HT_.out HW_.out (by kernel_rfl)) (fun _ _ _ h => h) (Or.inl ⟨by rfl, ?_⟩) hHeld ?_ ?_
           rotate_left
           ·rintro w' ⟨s0, s1, s2, s3, s4, s5, s6, s7, s8⟩
            go_simp
            with_reducible rfl
           rotate_left
           ·simp only [Act.put, sA, sB, sC, i64_w, i32_w]
            rfl
           refine take_ (i := 1) (N := some 57) (v := ?_) (a' := ?_) #[true, true, false, false, false, false, false, false, false, false, false, false, false, false, false, false, false, false, false, false, false, false, false, false] rfl rfl (take_ofW HT_.out HW_.out (by kernel_rfl)) (fun _ _ _ h => h) (Or.inl ⟨by rfl, ?_⟩) hHeld ?_ ?_
           rotate_left
           ·rintro w' ⟨s0, s1, s2, s3, s4, s5, s6, s7, s8⟩
            go_simp
            with_reducible rfl
           rotate_left
           ·simp only [Act.put, sA, sB, sC, i64_w, i32_w]
            rfl
           refine one_ (i := 2) (N := some 58) #[true, true, true, false, false, false, false, false, false, false, false, false, false, false, false, false, false, false, false, false, false, false, false, false] rfl rfl (one_of HT_.out (by kernel_rfl)) (by decide) (fun K hK => ?_)
           refine goes_ Try.func20 (by kernel_rfl) rfl #[.agg #[.bool t308, .int .i64 t309, .int .i64 t310], .agg #[.bool t324, .int .i64 t325, .int .i64 t326]] (by rfl) rfl rfl (by (try simp only [List.map_toArray, List.map_cons, List.map_nil]); first | done | rfl | (simp only [List.length_drop, List.length_take]; rfl)) ?_
           with_reducible refine (impl_SpanIn.calls t308 t309 t310 t324 t325 t326 true _ A65.out).mono ?_
           rintro e w77 ⟨rfl, hb⟩
           refine ⟨_, rfl, ?_⟩
           have n0_ := Aside0.mk (bb_ BK314.out hb)
           have n1_ := Aside0.mk (bb_ BK315.out hb)
           have n2_ := Aside0.mk (bb_ BK322.out hb)
           have n3_ := Aside0.mk (bb_ BK323.out hb)
           have n4_ := Aside0.mk (bb_ BK327.out hb)
           have n5_ := Aside0.mk (below_step (by repeat (first | (with_reducible first | exact HB.out | apply below_alloc | apply pw_below_drewN | apply below_drew1 | refine below_set ?_ GE314.out | refine below_set ?_ GE315.out | refine below_set ?_ GE322.out | refine below_set ?_ GE323.out | refine below_set ?_ GE327.out) | exact HB.out)) hb)
           clear BK314
           clear BK315
           clear BK322
           clear BK323
           clear BK327
           clear HB
           have BK314 := n0_
           have BK315 := n1_
           have BK322 := n2_
           have BK323 := n3_
           have BK327 := n4_
           have HB := n5_
           clear n0_ n1_ n2_ n3_ n4_ n5_
           (try clear hb)
           (try clear hb2)
           (try clear hk)
           (try clear hi)
           refine hK.out _ _ ⟨(blk_cell BK314.out 0).trans rfl, (blk_cell BK314.out 1).trans rfl, (blk_cell BK314.out 2).trans rfl, (blk_cell BK327.out 0).trans rfl, (blk_cell BK327.out 1).trans rfl, (blk_cell BK327.out 2).trans rfl, (blk_cell BK315.out 0).trans rfl, (blk_cell BK315.out 1).trans rfl, (blk_cell BK315.out 2).trans rfl⟩ (fun hHeld => ?_)
           clear hK K
           refine norm_ (a' := ?_) ?_ ?_
           rotate_left
           ·show Act.put _ (some 58) _ = _
            simp only [Act.put, sA, sB, sC, i64_w, i32_w]
            rfl
           refine pure_ (i := 3) (N := some 59) (v := ?_) (a' := ?_) #[true, true, true, true, false, false, false, false, false, false, false, false, false, false, false, false, false, false, false, false, false, false, false, false] rfl rfl (any_of HT_.out (by kernel_rfl)) (fun _ _ _ h => h) (Or.inl ⟨by rfl, ?_⟩) ?_ ?_
           rotate_left
           ·intro w'
            go_simp
            with_reducible rfl
           rotate_left
           ·simp only [Act.put, sA, sB, sC, i64_w, i32_w]
            rfl
           refine pure_ (i := 4) (N := some 60) (v := ?_) (a' := ?_) #[true, true, true, true, true, false, false, false, false, false, false, false, false, false, false, false, false, false, false, false, false, false, false, false] rfl rfl (any_of HT_.out (by kernel_rfl)) (fun _ _ _ h => h) (Or.inl ⟨by rfl, ?_⟩) ?_ ?_
           rotate_left
           ·intro w'
            go_simp
            with_reducible rfl
           rotate_left
           ·simp only [Act.put, sA, sB, sC, i64_w, i32_w]
            rfl
           refine take_ (i := 5) (N := some 61) (v := ?_) (a' := ?_) #[true, true, true, true, true, true, false, false, false, false, false, false, false, false, false, false, false, false, false, false, false, false, false, false] rfl rfl (take_ofW HT_.out HW_.out (by kernel_rfl)) (fun _ _ _ h => h) (Or.inl ⟨by rfl, ?_⟩) hHeld ?_ ?_
           rotate_left
           ·rintro w' ⟨s0, s1, s2, s3, s4, s5, s6, s7, s8⟩
            go_simp
            with_reducible rfl
           rotate_left
           ·simp only [Act.put, sA, sB, sC, i64_w, i32_w]
            rfl
           refine take_ (i := 6) (N := some 62) (v := ?_) (a' := ?_) #[true, true, true, true, true, true, true, false, false, false, false, false, false, false, false, false, false, false, false, false, false, false, false, false] rfl rfl (take_ofW HT_.out HW_.out (by kernel_rfl)) (fun _ _ _ h => h) (Or.inl ⟨by rfl, ?_⟩) hHeld ?_ ?_
           rotate_left
           ·rintro w' ⟨s0, s1, s2, s3, s4, s5, s6, s7, s8⟩
            go_simp
            with_reducible rfl
           rotate_left
           ·simp only [Act.put, sA, sB, sC, i64_w, i32_w]
            rfl
           refine one_ (i := 7) (N := some 63) #[true, true, true, true, true, true, true, true, false, false, false, false, false, false, false, false, false, false, false, false, false, false, false, false] rfl rfl (one_of HT_.out (by kernel_rfl)) (by decide) (fun K hK => ?_)
           refine goes_ Try.func20 (by kernel_rfl) rfl #[.agg #[.bool t311, .int .i64 t312, .int .i64 t313], .agg #[.bool t324, .int .i64 t325, .int .i64 t326]] (by rfl) rfl rfl (by (try simp only [List.map_toArray, List.map_cons, List.map_nil]); first | done | rfl | (simp only [List.length_drop, List.length_take]; rfl)) ?_
           with_reducible refine (impl_SpanIn.calls t311 t312 t313 t324 t325 t326 true _ A67.out).mono ?_
           rintro e w78 ⟨rfl, hb⟩
           refine ⟨_, rfl, ?_⟩
           have n0_ := Aside0.mk (bb_ BK314.out hb)
           have n1_ := Aside0.mk (bb_ BK315.out hb)
           have n2_ := Aside0.mk (bb_ BK322.out hb)
           have n3_ := Aside0.mk (bb_ BK323.out hb)
           have n4_ := Aside0.mk (bb_ BK327.out hb)
           have n5_ := Aside0.mk (below_step (by repeat (first | (with_reducible first | exact HB.out | apply below_alloc | apply pw_below_drewN | apply below_drew1 | refine below_set ?_ GE314.out | refine below_set ?_ GE315.out | refine below_set ?_ GE322.out | refine below_set ?_ GE323.out | refine below_set ?_ GE327.out) | exact HB.out)) hb)
           clear BK314
           clear BK315
           clear BK322
           clear BK323
           clear BK327
           clear HB
           have BK314 := n0_
           have BK315 := n1_
           have BK322 := n2_
           have BK323 := n3_
           have BK327 := n4_
           have HB := n5_
           clear n0_ n1_ n2_ n3_ n4_ n5_
           (try clear hb)
           (try clear hb2)
           (try clear hk)
           (try clear hi)
           refine hK.out _ _ ⟨(blk_cell BK314.out 0).trans rfl, (blk_cell BK314.out 1).trans rfl, (blk_cell BK314.out 2).trans rfl, (blk_cell BK327.out 0).trans rfl, (blk_cell BK327.out 1).trans rfl, (blk_cell BK327.out 2).trans rfl, (blk_cell BK315.out 0).trans rfl, (blk_cell BK315.out 1).trans rfl, (blk_cell BK315.out 2).trans rfl⟩ (fun hHeld => ?_)
           clear hK K
           refine norm_ (a' := ?_) ?_ ?_
           rotate_left
           ·show Act.put _ (some 63) _ = _
            simp only [Act.put, sA, sB, sC, i64_w, i32_w]
            rfl
           refine pure_ (i := 8) (N := some 64) (v := ?_) (a' := ?_) #[true, true, true, true, true, true, true, true, true, false, false, false, false, false, false, false, false, false, false, false, false, false, false, false] rfl rfl (any_of HT_.out (by kernel_rfl)) (fun _ _ _ h => h) (Or.inl ⟨by rfl, ?_⟩) ?_ ?_
           rotate_left
           ·intro w'
            go_simp
            with_reducible rfl
           rotate_left
           ·simp only [Act.put, sA, sB, sC, i64_w, i32_w]
            rfl
           refine pure_ (i := 9) (N := some 65) (v := ?_) (a' := ?_) #[true, true, true, true, true, true, true, true, true, true, false, false, false, false, false, false, false, false, false, false, false, false, false, false] rfl rfl (any_of HT_.out (by kernel_rfl)) (fun _ _ _ h => h) (Or.inl ⟨by rfl, ?_⟩) ?_ ?_
           rotate_left
           ·intro w'
            go_simp
            with_reducible rfl
           rotate_left
           ·simp only [Act.put, sA, sB, sC, i64_w, i32_w]
            rfl
           refine pure_ (i := 10) (N := some 66) (v := ?_) (a' := ?_) #[true, true, true, true, true, true, true, true, true, true, true, false, false, false, false, false, false, false, false, false, false, false, false, false] rfl rfl (any_of HT_.out (by kernel_rfl)) (fun _ _ _ h => h) (Or.inl ⟨by rfl, ?_⟩) ?_ ?_
           rotate_left
           ·intro w'
            go_simp
            with_reducible rfl
           rotate_left
           ·simp only [Act.put, sA, sB, sC, i64_w, i32_w]
            rfl
           refine take_ (i := 11) (N := some 67) (v := ?_) (a' := ?_) #[true, true, true, true, true, true, true, true, true, true, true, true, false, false, false, false, false, false, false, false, false, false, false, false] rfl rfl (take_ofW HT_.out HW_.out (by kernel_rfl)) (fun _ _ _ h => h) (Or.inl ⟨by rfl, ?_⟩) hHeld ?_ ?_
           rotate_left
           ·rintro w' ⟨s0, s1, s2, s3, s4, s5, s6, s7, s8⟩
            go_simp
            with_reducible rfl
           rotate_left
           ·simp only [Act.put, sA, sB, sC, i64_w, i32_w]
            rfl
           refine take_ (i := 12) (N := some 68) (v := ?_) (a' := ?_) #[true, true, true, true, true, true, true, true, true, true, true, true, true, false, false, false, false, false, false, false, false, false, false, false] rfl rfl (take_ofW HT_.out HW_.out (by kernel_rfl)) (fun _ _ _ h => h) (Or.inl ⟨by rfl, ?_⟩) hHeld ?_ ?_
           rotate_left
           ·rintro w' ⟨s0, s1, s2, s3, s4, s5, s6, s7, s8⟩
            go_simp
            with_reducible rfl
           rotate_left
           ·simp only [Act.put, sA, sB, sC, i64_w, i32_w]
            rfl
           refine take_ (i := 14) (N := some 70) (v := ?_) (a' := ?_) #[true, true, true, true, true, true, true, true, true, true, true, true, true, false, true, false, false, false, false, false, false, false, false, false] rfl rfl (take_ofW HT_.out HW_.out (by kernel_rfl)) (fun _ _ _ h => h) (Or.inl ⟨by rfl, ?_⟩) hHeld ?_ ?_
           rotate_left
           ·rintro w' ⟨s0, s1, s2, s3, s4, s5, s6, s7, s8⟩
            go_simp
            with_reducible rfl
           rotate_left
           ·simp only [Act.put, sA, sB, sC, i64_w, i32_w]
            rfl
           refine one_ (i := 13) (N := some 69) #[true, true, true, true, true, true, true, true, true, true, true, true, true, true, true, false, false, false, false, false, false, false, false, false] rfl rfl (one_of HT_.out (by kernel_rfl)) (by decide) (fun K hK => ?_)
           refine goes_ Try.func17 (by kernel_rfl) rfl #[.agg #[.bool t311, .int .i64 t312, .int .i64 t313], .agg #[.bool t308, .int .i64 t309, .int .i64 t310]] (by rfl) rfl rfl (by (try simp only [List.map_toArray, List.map_cons, List.map_nil]); first | done | rfl | (simp only [List.length_drop, List.length_take]; rfl)) ?_
           with_reducible refine (impl_SpanJoin.calls kj8 t311 t312 t313 t308 t309 t310 t339 t340 t341 _ A69.out).mono ?_
           rintro e w79 ⟨rfl, hb⟩
           refine ⟨_, rfl, ?_⟩
           have n0_ := Aside0.mk (bb_ BK314.out hb)
           have n1_ := Aside0.mk (bb_ BK315.out hb)
           have n2_ := Aside0.mk (bb_ BK322.out hb)
           have n3_ := Aside0.mk (bb_ BK323.out hb)
           have n4_ := Aside0.mk (bb_ BK327.out hb)
           have n5_ := Aside0.mk (below_step (by repeat (first | (with_reducible first | exact HB.out | apply below_alloc | apply pw_below_drewN | apply below_drew1 | refine below_set ?_ GE314.out | refine below_set ?_ GE315.out | refine below_set ?_ GE322.out | refine below_set ?_ GE323.out | refine below_set ?_ GE327.out) | exact HB.out)) hb)
           clear BK314
           clear BK315
           clear BK322
           clear BK323
           clear BK327
           clear HB
           have BK314 := n0_
           have BK315 := n1_
           have BK322 := n2_
           have BK323 := n3_
           have BK327 := n4_
           have HB := n5_
           clear n0_ n1_ n2_ n3_ n4_ n5_
           (try clear hb)
           (try clear hb2)
           (try clear hk)
           (try clear hi)
           refine hK.out _ _ ⟨(blk_cell BK314.out 0).trans rfl, (blk_cell BK314.out 1).trans rfl, (blk_cell BK314.out 2).trans rfl, (blk_cell BK327.out 0).trans rfl, (blk_cell BK327.out 1).trans rfl, (blk_cell BK327.out 2).trans rfl, (blk_cell BK315.out 0).trans rfl, (blk_cell BK315.out 1).trans rfl, (blk_cell BK315.out 2).trans rfl⟩ (fun hHeld => ?_)
           clear hK K
           refine norm_ (a' := ?_) ?_ ?_
           rotate_left
           ·show Act.put _ (some 69) _ = _
            simp only [Act.put, sA, sB, sC, i64_w, i32_w]
            rfl
           refine pure_ (i := 15) (N := some 71) (v := ?_) (a' := ?_) #[true, true, true, true, true, true, true, true, true, true, true, true, true, true, true, true, false, false, false, false, false, false, false, false] rfl rfl (any_of HT_.out (by kernel_rfl)) (fun _ _ _ h => h) (Or.inl ⟨by rfl, ?_⟩) ?_ ?_
           rotate_left
           ·intro w'
            go_simp
            with_reducible rfl
           rotate_left
           ·simp only [Act.put, sA, sB, sC, i64_w, i32_w]
            rfl
           refine pure_ (i := 16) (N := some 72) (v := ?_) (a' := ?_) #[true, true, true, true, true, true, true, true, true, true, true, true, true, true, true, true, true, false, false, false, false, false, false, false] rfl rfl (any_of HT_.out (by kernel_rfl)) (fun _ _ _ h => h) (Or.inl ⟨by rfl, ?_⟩) ?_ ?_
           rotate_left
           ·intro w'
            go_simp
            with_reducible rfl
           rotate_left
           ·simp only [Act.put, sA, sB, sC, i64_w, i32_w]
            rfl
           refine pure_ (i := 17) (N := some 73) (v := ?_) (a' := ?_) #[true, true, true, true, true, true, true, true, true, true, true, true, true, true, true, true, true, true, false, false, false, false, false, false] rfl rfl (any_of HT_.out (by kernel_rfl)) (fun _ _ _ h => h) (Or.inl ⟨by rfl, ?_⟩) ?_ ?_
           rotate_left
           ·intro w'
            go_simp
            with_reducible rfl
           rotate_left
           ·simp only [Act.put, sA, sB, sC, i64_w, i32_w]
            rfl
           refine take_ (i := 18) (N := some 74) (v := ?_) (a' := ?_) #[true, true, true, true, true, true, true, true, true, true, true, true, true, true, true, true, true, true, true, false, false, false, false, false] rfl rfl (take_ofW HT_.out HW_.out (by kernel_rfl)) (fun _ _ _ h => h) (Or.inl ⟨by rfl, ?_⟩) hHeld ?_ ?_
           rotate_left
           ·rintro w' ⟨s0, s1, s2, s3, s4, s5, s6, s7, s8⟩
            go_simp
            with_reducible rfl
           rotate_left
           ·simp only [Act.put, sA, sB, sC, i64_w, i32_w]
            rfl
           refine take_ (i := 19) (N := some 75) (v := ?_) (a' := ?_) #[true, true, true, true, true, true, true, true, true, true, true, true, true, true, true, true, true, true, true, true, false, false, false, false] rfl rfl (take_ofW HT_.out HW_.out (by kernel_rfl)) (fun _ _ _ h => h) (Or.inl ⟨by rfl, ?_⟩) hHeld ?_ ?_
           rotate_left
           ·rintro w' ⟨s0, s1, s2, s3, s4, s5, s6, s7, s8⟩
            go_simp
            with_reducible rfl
           rotate_left
           ·simp only [Act.put, sA, sB, sC, i64_w, i32_w]
            rfl
           refine take_ (i := 21) (N := some 77) (v := ?_) (a' := ?_) #[true, true, true, true, true, true, true, true, true, true, true, true, true, true, true, true, true, true, true, true, false, true, false, false] rfl rfl (take_ofW HT_.out HW_.out (by kernel_rfl)) (fun _ _ _ h => h) (Or.inl ⟨by rfl, ?_⟩) hHeld ?_ ?_
           rotate_left
           ·rintro w' ⟨s0, s1, s2, s3, s4, s5, s6, s7, s8⟩
            go_simp
            with_reducible rfl
           rotate_left
           ·simp only [Act.put, sA, sB, sC, i64_w, i32_w]
            rfl
           refine one_ (i := 20) (N := some 76) #[true, true, true, true, true, true, true, true, true, true, true, true, true, true, true, true, true, true, true, true, true, true, false, false] rfl rfl (one_of HT_.out (by kernel_rfl)) (by decide) (fun K hK => ?_)
           refine goes_ Try.func17 (by kernel_rfl) rfl #[.agg #[.bool t324, .int .i64 t325, .int .i64 t326], .agg #[.bool t308, .int .i64 t309, .int .i64 t310]] (by rfl) rfl rfl (by (try simp only [List.map_toArray, List.map_cons, List.map_nil]); first | done | rfl | (simp only [List.length_drop, List.length_take]; rfl)) ?_
           with_reducible refine (impl_SpanJoin.calls kj8 t324 t325 t326 t308 t309 t310 t342 t343 t344 _ A75.out).mono ?_
           rintro e w80 ⟨rfl, hb⟩
           refine ⟨_, rfl, ?_⟩
           have n0_ := Aside0.mk (bb_ BK314.out hb)
           have n1_ := Aside0.mk (bb_ BK315.out hb)
           have n2_ := Aside0.mk (bb_ BK322.out hb)
           have n3_ := Aside0.mk (bb_ BK323.out hb)
           have n4_ := Aside0.mk (bb_ BK327.out hb)
           have n5_ := Aside0.mk (below_step (by repeat (first | (with_reducible first | exact HB.out | apply below_alloc | apply pw_below_drewN | apply below_drew1 | refine below_set ?_ GE314.out | refine below_set ?_ GE315.out | refine below_set ?_ GE322.out | refine below_set ?_ GE323.out | refine below_set ?_ GE327.out) | exact HB.out)) hb)
           clear BK314
           clear BK315
           clear BK322
           clear BK323
           clear BK327
           clear HB
           have BK314 := n0_
           have BK315 := n1_
           have BK322 := n2_
           have BK323 := n3_
           have BK327 := n4_
           have HB := n5_
           clear n0_ n1_ n2_ n3_ n4_ n5_
           (try clear hb)
           (try clear hb2)
           (try clear hk)
           (try clear hi)
           refine hK.out _ _ ⟨(blk_cell BK314.out 0).trans rfl, (blk_cell BK314.out 1).trans rfl, (blk_cell BK314.out 2).trans rfl, (blk_cell BK327.out 0).trans rfl, (blk_cell BK327.out 1).trans rfl, (blk_cell BK327.out 2).trans rfl, (blk_cell BK315.out 0).trans rfl, (blk_cell BK315.out 1).trans rfl, (blk_cell BK315.out 2).trans rfl⟩ (fun hHeld => ?_)
           clear hK K
           refine norm_ (a' := ?_) ?_ ?_
           rotate_left
           ·show Act.put _ (some 76) _ = _
            simp only [Act.put, sA, sB, sC, i64_w, i32_w]
            rfl
           refine pure_ (i := 22) (N := some 78) (v := ?_) (a' := ?_) #[true, true, true, true, true, true, true, true, true, true, true, true, true, true, true, true, true, true, true, true, true, true, true, false] rfl rfl (any_of HT_.out (by kernel_rfl)) (fun _ _ _ h => h) (Or.inl ⟨by rfl, ?_⟩) ?_ ?_
           rotate_left
           ·intro w'
            go_simp
            with_reducible rfl
           rotate_left
           ·simp only [Act.put, sA, sB, sC, i64_w, i32_w]
            rfl
           refine pure_ (i := 23) (N := some 79) (v := ?_) (a' := ?_) #[true, true, true, true, true, true, true, true, true, true, true, true, true, true, true, true, true, true, true, true, true, true, true, true] rfl rfl (any_of HT_.out (by kernel_rfl)) (fun _ _ _ h => h) (Or.inl ⟨by rfl, ?_⟩) ?_ ?_
           rotate_left
           ·intro w'
            go_simp
            with_reducible rfl
           rotate_left
           ·simp only [Act.put, sA, sB, sC, i64_w, i32_w]
            rfl
           refine done_ (done_of HT_.out (by kernel_rfl)) ?_
           try go_wp2
           go_meet
           case rel => exact ⟨_, ((!(t342 == t324) || (!(t343 == t325) || (!(t344 == t326))))), (by first | rfl | (simp; done) | (simp [*]; done)), H', ⟨by have := HJ2.out; have := HJ8.out; first | omega | exact Nat.le_refl _⟩, ⟨bk_ BK314.out⟩, ⟨bk_ BK315.out⟩, ⟨bk_ BK322.out⟩, ⟨bk_ BK323.out⟩, ⟨bk_ BK327.out⟩, ⟨by repeat (first | (with_reducible first | exact HB.out | apply below_alloc | apply pw_below_drewN | apply below_drew1 | refine below_set ?_ GE314.out | refine below_set ?_ GE315.out | refine below_set ?_ GE322.out | refine below_set ?_ GE323.out | refine below_set ?_ GE327.out) | exact HB.out)⟩⟩
         ·replace c68 := Bool.eq_false_iff.mpr c68
          subst c68
          have H1 : (laws_FnSpanJoin.j2 kj8 true t308 t309 t310 t311 t312 t313 t316 t317 t318 t324 t325 t326) = some r := by rw [if_neg (show ¬ (false = true) by decide)] at H; exact H
          clear H
          have H := H1
          clear H1
          have H' := Aside0.mk H
          clear H
          try go_wp2
          have n0_ := Aside0.mk (blk_drew BK314.out)
          have n1_ := Aside0.mk (blk_drew BK315.out)
          have n2_ := Aside0.mk (blk_drew BK322.out)
          have n3_ := Aside0.mk (blk_drew BK323.out)
          have n4_ := Aside0.mk (blk_drew BK327.out)
          have n5_ := Aside0.mk (below_drew1 HB.out)
          clear BK314
          clear BK315
          clear BK322
          clear BK323
          clear BK327
          clear HB
          have BK314 := n0_
          have BK315 := n1_
          have BK322 := n2_
          have BK323 := n3_
          have BK327 := n4_
          have HB := n5_
          clear n0_ n1_ n2_ n3_ n4_ n5_
          refine start_ (n := 24) (S := fun w' => w'.cell? ⟨gb314, 0, none⟩ = some (.bool t308) ∧ w'.cell? ⟨gb314, 1, none⟩ = some (.int .i64 t309) ∧ w'.cell? ⟨gb314, 2, none⟩ = some (.int .i64 t310) ∧ w'.cell? ⟨gb327, 0, none⟩ = some (.bool t324) ∧ w'.cell? ⟨gb327, 1, none⟩ = some (.int .i64 t325) ∧ w'.cell? ⟨gb327, 2, none⟩ = some (.int .i64 t326) ∧ w'.cell? ⟨gb315, 0, none⟩ = some (.bool t311) ∧ w'.cell? ⟨gb315, 1, none⟩ = some (.int .i64 t312) ∧ w'.cell? ⟨gb315, 2, none⟩ = some (.int .i64 t313)) (ds := []) #[false, false, false, false, false, false, false, false, false, false, false, false, false, false, false, false, false, false, false, false, false, false, false, false] (by kernel_rfl) rfl rfl ⟨(blk_cell BK314.out 0).trans rfl, (blk_cell BK314.out 1).trans rfl, (blk_cell BK314.out 2).trans rfl, (blk_cell BK327.out 0).trans rfl, (blk_cell BK327.out 1).trans rfl, (blk_cell BK327.out 2).trans rfl, (blk_cell BK315.out 0).trans rfl, (blk_cell BK315.out 1).trans rfl, (blk_cell BK315.out 2).trans rfl⟩ (fun hHeld => ?_); refine with_tabW laws_FnSpanJoin.tab8 laws_FnSpanJoin.bits8 (fun HT_ HW_ => ?_)
          generalize wc.drew = w81 at BK314 BK315 BK322 BK323 BK327 HB hHeld ⊢
          refine take_ (i := 0) (N := some 56) (v := ?_) (a' := ?_) #[true, false, false, false, false, false, false, false, false, false, false, false, false, false, false, false, false, false, false, false, false, false, false, false] rfl rfl (take_ofW HT_.out HW_.out (by kernel_rfl)) (fun _ _ _ h => h) (Or.inl ⟨by rfl, ?_⟩) hHeld ?_ ?_
          rotate_left
          ·rintro w' ⟨s0, s1, s2, s3, s4, s5, s6, s7, s8⟩
           go_simp
           with_reducible rfl
          rotate_left
          ·simp only [Act.put, sA, sB, sC, i64_w, i32_w]
           rfl
          refine take_ (i := 1) (N := some 57) (v := ?_) (a' := ?_) #[true, true, false, false, false, false, false, false, false, false, false, false, false, false, false, false, false, false, false, false, false, false, false, false] rfl rfl (take_ofW HT_.out HW_.out (by kernel_rfl)) (fun _ _ _ h => h) (Or.inl ⟨by rfl, ?_⟩) hHeld ?_ ?_
          rotate_left
          ·rintro w' ⟨s0, s1, s2, s3, s4, s5, s6, s7, s8⟩
           go_simp
           with_reducible rfl
          rotate_left
          ·simp only [Act.put, sA, sB, sC, i64_w, i32_w]
           rfl
          refine one_ (i := 2) (N := some 58) #[true, true, true, false, false, false, false, false, false, false, false, false, false, false, false, false, false, false, false, false, false, false, false, false] rfl rfl (one_of HT_.out (by kernel_rfl)) (by decide) (fun K hK => ?_)
          refine goes_ Try.func20 (by kernel_rfl) rfl #[.agg #[.bool t308, .int .i64 t309, .int .i64 t310], .agg #[.bool t324, .int .i64 t325, .int .i64 t326]] (by rfl) rfl rfl (by (try simp only [List.map_toArray, List.map_cons, List.map_nil]); first | done | rfl | (simp only [List.length_drop, List.length_take]; rfl)) ?_
          with_reducible refine (impl_SpanIn.calls t308 t309 t310 t324 t325 t326 true _ A65.out).mono ?_
          rintro e w82 ⟨rfl, hb⟩
          refine ⟨_, rfl, ?_⟩
          have n0_ := Aside0.mk (bb_ BK314.out hb)
          have n1_ := Aside0.mk (bb_ BK315.out hb)
          have n2_ := Aside0.mk (bb_ BK322.out hb)
          have n3_ := Aside0.mk (bb_ BK323.out hb)
          have n4_ := Aside0.mk (bb_ BK327.out hb)
          have n5_ := Aside0.mk (below_step (by repeat (first | (with_reducible first | exact HB.out | apply below_alloc | apply pw_below_drewN | apply below_drew1 | refine below_set ?_ GE314.out | refine below_set ?_ GE315.out | refine below_set ?_ GE322.out | refine below_set ?_ GE323.out | refine below_set ?_ GE327.out) | exact HB.out)) hb)
          clear BK314
          clear BK315
          clear BK322
          clear BK323
          clear BK327
          clear HB
          have BK314 := n0_
          have BK315 := n1_
          have BK322 := n2_
          have BK323 := n3_
          have BK327 := n4_
          have HB := n5_
          clear n0_ n1_ n2_ n3_ n4_ n5_
          (try clear hb)
          (try clear hb2)
          (try clear hk)
          (try clear hi)
          refine hK.out _ _ ⟨(blk_cell BK314.out 0).trans rfl, (blk_cell BK314.out 1).trans rfl, (blk_cell BK314.out 2).trans rfl, (blk_cell BK327.out 0).trans rfl, (blk_cell BK327.out 1).trans rfl, (blk_cell BK327.out 2).trans rfl, (blk_cell BK315.out 0).trans rfl, (blk_cell BK315.out 1).trans rfl, (blk_cell BK315.out 2).trans rfl⟩ (fun hHeld => ?_)
          clear hK K
          refine norm_ (a' := ?_) ?_ ?_
          rotate_left
          ·show Act.put _ (some 58) _ = _
           simp only [Act.put, sA, sB, sC, i64_w, i32_w]
           rfl
          refine pure_ (i := 3) (N := some 59) (v := ?_) (a' := ?_) #[true, true, true, true, false, false, false, false, false, false, false, false, false, false, false, false, false, false, false, false, false, false, false, false] rfl rfl (any_of HT_.out (by kernel_rfl)) (fun _ _ _ h => h) (Or.inl ⟨by rfl, ?_⟩) ?_ ?_
          rotate_left
          ·intro w'
           go_simp
           with_reducible rfl
          rotate_left
          ·simp only [Act.put, sA, sB, sC, i64_w, i32_w]
           rfl
          refine pure_ (i := 4) (N := some 60) (v := ?_) (a' := ?_) #[true, true, true, true, true, false, false, false, false, false, false, false, false, false, false, false, false, false, false, false, false, false, false, false] rfl rfl (any_of HT_.out (by kernel_rfl)) (fun _ _ _ h => h) (Or.inl ⟨by rfl, ?_⟩) ?_ ?_
          rotate_left
          ·intro w'
           go_simp
           with_reducible rfl
          rotate_left
          ·simp only [Act.put, sA, sB, sC, i64_w, i32_w]
           rfl
          refine take_ (i := 5) (N := some 61) (v := ?_) (a' := ?_) #[true, true, true, true, true, true, false, false, false, false, false, false, false, false, false, false, false, false, false, false, false, false, false, false] rfl rfl (take_ofW HT_.out HW_.out (by kernel_rfl)) (fun _ _ _ h => h) (Or.inl ⟨by rfl, ?_⟩) hHeld ?_ ?_
          rotate_left
          ·rintro w' ⟨s0, s1, s2, s3, s4, s5, s6, s7, s8⟩
           go_simp
           with_reducible rfl
          rotate_left
          ·simp only [Act.put, sA, sB, sC, i64_w, i32_w]
           rfl
          refine take_ (i := 6) (N := some 62) (v := ?_) (a' := ?_) #[true, true, true, true, true, true, true, false, false, false, false, false, false, false, false, false, false, false, false, false, false, false, false, false] rfl rfl (take_ofW HT_.out HW_.out (by kernel_rfl)) (fun _ _ _ h => h) (Or.inl ⟨by rfl, ?_⟩) hHeld ?_ ?_
          rotate_left
          ·rintro w' ⟨s0, s1, s2, s3, s4, s5, s6, s7, s8⟩
           go_simp
           with_reducible rfl
          rotate_left
          ·simp only [Act.put, sA, sB, sC, i64_w, i32_w]
           rfl
          refine one_ (i := 7) (N := some 63) #[true, true, true, true, true, true, true, true, false, false, false, false, false, false, false, false, false, false, false, false, false, false, false, false] rfl rfl (one_of HT_.out (by kernel_rfl)) (by decide) (fun K hK => ?_)
          refine goes_ Try.func20 (by kernel_rfl) rfl #[.agg #[.bool t311, .int .i64 t312, .int .i64 t313], .agg #[.bool t324, .int .i64 t325, .int .i64 t326]] (by rfl) rfl rfl (by (try simp only [List.map_toArray, List.map_cons, List.map_nil]); first | done | rfl | (simp only [List.length_drop, List.length_take]; rfl)) ?_
          with_reducible refine (impl_SpanIn.calls t311 t312 t313 t324 t325 t326 false _ A67.out).mono ?_
          rintro e w83 ⟨rfl, hb⟩
          refine ⟨_, rfl, ?_⟩
          have n0_ := Aside0.mk (bb_ BK314.out hb)
          have n1_ := Aside0.mk (bb_ BK315.out hb)
          have n2_ := Aside0.mk (bb_ BK322.out hb)
          have n3_ := Aside0.mk (bb_ BK323.out hb)
          have n4_ := Aside0.mk (bb_ BK327.out hb)
          have n5_ := Aside0.mk (below_step (by repeat (first | (with_reducible first | exact HB.out | apply below_alloc | apply pw_below_drewN | apply below_drew1 | refine below_set ?_ GE314.out | refine below_set ?_ GE315.out | refine below_set ?_ GE322.out | refine below_set ?_ GE323.out | refine below_set ?_ GE327.out) | exact HB.out)) hb)
          clear BK314
          clear BK315
          clear BK322
          clear BK323
          clear BK327
          clear HB
          have BK314 := n0_
          have BK315 := n1_
          have BK322 := n2_
          have BK323 := n3_
          have BK327 := n4_
          have HB := n5_
          clear n0_ n1_ n2_ n3_ n4_ n5_
          (try clear hb)
          (try clear hb2)
          (try clear hk)
          (try clear hi)
          refine hK.out _ _ ⟨(blk_cell BK314.out 0).trans rfl, (blk_cell BK314.out 1).trans rfl, (blk_cell BK314.out 2).trans rfl, (blk_cell BK327.out 0).trans rfl, (blk_cell BK327.out 1).trans rfl, (blk_cell BK327.out 2).trans rfl, (blk_cell BK315.out 0).trans rfl, (blk_cell BK315.out 1).trans rfl, (blk_cell BK315.out 2).trans rfl⟩ (fun hHeld => ?_)
          clear hK K
          refine norm_ (a' := ?_) ?_ ?_
          rotate_left
          ·show Act.put _ (some 63) _ = _
           simp only [Act.put, sA, sB, sC, i64_w, i32_w]
           rfl
          refine pure_ (i := 8) (N := some 64) (v := ?_) (a' := ?_) #[true, true, true, true, true, true, true, true, true, false, false, false, false, false, false, false, false, false, false, false, false, false, false, false] rfl rfl (any_of HT_.out (by kernel_rfl)) (fun _ _ _ h => h) (Or.inl ⟨by rfl, ?_⟩) ?_ ?_
          rotate_left
          ·intro w'
           go_simp
           with_reducible rfl
          rotate_left
          ·simp only [Act.put, sA, sB, sC, i64_w, i32_w]
           rfl
          refine pure_ (i := 9) (N := some 65) (v := ?_) (a' := ?_) #[true, true, true, true, true, true, true, true, true, true, false, false, false, false, false, false, false, false, false, false, false, false, false, false] rfl rfl (any_of HT_.out (by kernel_rfl)) (fun _ _ _ h => h) (Or.inl ⟨by rfl, ?_⟩) ?_ ?_
          rotate_left
          ·intro w'
           go_simp
           with_reducible rfl
          rotate_left
          ·simp only [Act.put, sA, sB, sC, i64_w, i32_w]
           rfl
          refine pure_ (i := 10) (N := some 66) (v := ?_) (a' := ?_) #[true, true, true, true, true, true, true, true, true, true, true, false, false, false, false, false, false, false, false, false, false, false, false, false] rfl rfl (any_of HT_.out (by kernel_rfl)) (fun _ _ _ h => h) (Or.inl ⟨by rfl, ?_⟩) ?_ ?_
          rotate_left
          ·intro w'
           go_simp
           with_reducible rfl
          rotate_left
          ·simp only [Act.put, sA, sB, sC, i64_w, i32_w]
           rfl
          refine pure_ (i := 11) (N := some 67) (v := undef) (a' := ?_) #[true, true, true, true, true, true, true, true, true, true, true, true, false, false, false, false, false, false, false, false, false, false, false, false] rfl rfl (any_of HT_.out (by kernel_rfl)) (fun _ _ _ h => h) (Or.inr ⟨by rfl, rfl⟩) ?_ ?_
          rotate_left
          ·simp only [Act.put, sA, sB, sC, i64_w, i32_w]
           rfl
          refine pure_ (i := 12) (N := some 68) (v := undef) (a' := ?_) #[true, true, true, true, true, true, true, true, true, true, true, true, true, false, false, false, false, false, false, false, false, false, false, false] rfl rfl (any_of HT_.out (by kernel_rfl)) (fun _ _ _ h => h) (Or.inr ⟨by rfl, rfl⟩) ?_ ?_
          rotate_left
          ·simp only [Act.put, sA, sB, sC, i64_w, i32_w]
           rfl
          refine pure_ (i := 13) (N := some 69) (v := undef) (a' := ?_) #[true, true, true, true, true, true, true, true, true, true, true, true, true, true, false, false, false, false, false, false, false, false, false, false] rfl rfl (any_of HT_.out (by kernel_rfl)) (fun _ _ _ h => h) (Or.inr ⟨by rfl, rfl⟩) ?_ ?_
          rotate_left
          ·simp only [Act.put, sA, sB, sC, i64_w, i32_w]
           rfl
          refine pure_ (i := 14) (N := some 70) (v := undef) (a' := ?_) #[true, true, true, true, true, true, true, true, true, true, true, true, true, true, true, false, false, false, false, false, false, false, false, false] rfl rfl (any_of HT_.out (by kernel_rfl)) (fun _ _ _ h => h) (Or.inr ⟨by rfl, rfl⟩) ?_ ?_
          rotate_left
          ·simp only [Act.put, sA, sB, sC, i64_w, i32_w]
           rfl
          refine pure_ (i := 15) (N := some 71) (v := undef) (a' := ?_) #[true, true, true, true, true, true, true, true, true, true, true, true, true, true, true, true, false, false, false, false, false, false, false, false] rfl rfl (any_of HT_.out (by kernel_rfl)) (fun _ _ _ h => h) (Or.inr ⟨by rfl, rfl⟩) ?_ ?_
          rotate_left
          ·simp only [Act.put, sA, sB, sC, i64_w, i32_w]
           rfl
          refine pure_ (i := 16) (N := some 72) (v := ?_) (a' := ?_) #[true, true, true, true, true, true, true, true, true, true, true, true, true, true, true, true, true, false, false, false, false, false, false, false] rfl rfl (any_of HT_.out (by kernel_rfl)) (fun _ _ _ h => h) (Or.inl ⟨by rfl, ?_⟩) ?_ ?_
          rotate_left
          ·intro w'
           go_simp
           with_reducible rfl
          rotate_left
          ·simp only [Act.put, sA, sB, sC, i64_w, i32_w]
           rfl
          refine pure_ (i := 17) (N := some 73) (v := ?_) (a' := ?_) #[true, true, true, true, true, true, true, true, true, true, true, true, true, true, true, true, true, true, false, false, false, false, false, false] rfl rfl (any_of HT_.out (by kernel_rfl)) (fun _ _ _ h => h) (Or.inl ⟨by rfl, ?_⟩) ?_ ?_
          rotate_left
          ·intro w'
           go_simp
           with_reducible rfl
          rotate_left
          ·simp only [Act.put, sA, sB, sC, i64_w, i32_w]
           rfl
          refine pure_ (i := 18) (N := some 74) (v := undef) (a' := ?_) #[true, true, true, true, true, true, true, true, true, true, true, true, true, true, true, true, true, true, true, false, false, false, false, false] rfl rfl (any_of HT_.out (by kernel_rfl)) (fun _ _ _ h => h) (Or.inr ⟨by rfl, rfl⟩) ?_ ?_
          rotate_left
          ·simp only [Act.put, sA, sB, sC, i64_w, i32_w]
           rfl
          refine pure_ (i := 19) (N := some 75) (v := undef) (a' := ?_) #[true, true, true, true, true, true, true, true, true, true, true, true, true, true, true, true, true, true, true, true, false, false, false, false] rfl rfl (any_of HT_.out (by kernel_rfl)) (fun _ _ _ h => h) (Or.inr ⟨by rfl, rfl⟩) ?_ ?_
          rotate_left
          ·simp only [Act.put, sA, sB, sC, i64_w, i32_w]
           rfl
          refine pure_ (i := 20) (N := some 76) (v := undef) (a' := ?_) #[true, true, true, true, true, true, true, true, true, true, true, true, true, true, true, true, true, true, true, true, true, false, false, false] rfl rfl (any_of HT_.out (by kernel_rfl)) (fun _ _ _ h => h) (Or.inr ⟨by rfl, rfl⟩) ?_ ?_
          rotate_left
          ·simp only [Act.put, sA, sB, sC, i64_w, i32_w]
           rfl
          refine pure_ (i := 21) (N := some 77) (v := undef) (a' := ?_) #[true, true, true, true, true, true, true, true, true, true, true, true, true, true, true, true, true, true, true, true, true, true, false, false] rfl rfl (any_of HT_.out (by kernel_rfl)) (fun _ _ _ h => h) (Or.inr ⟨by rfl, rfl⟩) ?_ ?_
          rotate_left
          ·simp only [Act.put, sA, sB, sC, i64_w, i32_w]
           rfl
          refine pure_ (i := 22) (N := some 78) (v := undef) (a' := ?_) #[true, true, true, true, true, true, true, true, true, true, true, true, true, true, true, true, true, true, true, true, true, true, true, false] rfl rfl (any_of HT_.out (by kernel_rfl)) (fun _ _ _ h => h) (Or.inr ⟨by rfl, rfl⟩) ?_ ?_
          rotate_left
          ·simp only [Act.put, sA, sB, sC, i64_w, i32_w]
           rfl
          refine pure_ (i := 23) (N := some 79) (v := ?_) (a' := ?_) #[true, true, true, true, true, true, true, true, true, true, true, true, true, true, true, true, true, true, true, true, true, true, true, true] rfl rfl (any_of HT_.out (by kernel_rfl)) (fun _ _ _ h => h) (Or.inl ⟨by rfl, ?_⟩) ?_ ?_
          rotate_left
          ·intro w'
           go_simp
           with_reducible rfl
          rotate_left
          ·simp only [Act.put, sA, sB, sC, i64_w, i32_w]
           rfl
          refine done_ (done_of HT_.out (by kernel_rfl)) ?_
          try go_wp2
          go_meet
          case rel => exact ⟨_, (true), (by first | rfl | (simp; done) | (simp [*]; done)), H', ⟨by have := HJ2.out; have := HJ8.out; first | omega | exact Nat.le_refl _⟩, ⟨bk_ BK314.out⟩, ⟨bk_ BK315.out⟩, ⟨bk_ BK322.out⟩, ⟨bk_ BK323.out⟩, ⟨bk_ BK327.out⟩, ⟨by repeat (first | (with_reducible first | exact HB.out | apply below_alloc | apply pw_below_drewN | apply below_drew1 | refine below_set ?_ GE314.out | refine below_set ?_ GE315.out | refine below_set ?_ GE322.out | refine below_set ?_ GE323.out | refine below_set ?_ GE327.out) | exact HB.out)⟩⟩
        ·replace c66 := Bool.eq_false_iff.mpr c66
         subst c66
         have H1 : (laws_FnSpanJoin.j2 kj8 true t308 t309 t310 t311 t312 t313 t316 t317 t318 t324 t325 t326) = some r := by rw [if_neg (show ¬ (false = true) by decide)] at H; exact H
         clear H
         have H := H1
         clear H1
         have H' := Aside0.mk H
         clear H
         try go_wp2
         have n0_ := Aside0.mk (blk_drew BK314.out)
         have n1_ := Aside0.mk (blk_drew BK315.out)
         have n2_ := Aside0.mk (blk_drew BK322.out)
         have n3_ := Aside0.mk (blk_drew BK323.out)
         have n4_ := Aside0.mk (blk_drew BK327.out)
         have n5_ := Aside0.mk (below_drew1 HB.out)
         clear BK314
         clear BK315
         clear BK322
         clear BK323
         clear BK327
         clear HB
         have BK314 := n0_
         have BK315 := n1_
         have BK322 := n2_
         have BK323 := n3_
         have BK327 := n4_
         have HB := n5_
         clear n0_ n1_ n2_ n3_ n4_ n5_
         refine start_ (n := 24) (S := fun w' => w'.cell? ⟨gb314, 0, none⟩ = some (.bool t308) ∧ w'.cell? ⟨gb314, 1, none⟩ = some (.int .i64 t309) ∧ w'.cell? ⟨gb314, 2, none⟩ = some (.int .i64 t310) ∧ w'.cell? ⟨gb327, 0, none⟩ = some (.bool t324) ∧ w'.cell? ⟨gb327, 1, none⟩ = some (.int .i64 t325) ∧ w'.cell? ⟨gb327, 2, none⟩ = some (.int .i64 t326)) (ds := []) #[false, false, false, false, false, false, false, false, false, false, false, false, false, false, false, false, false, false, false, false, false, false, false, false] (by kernel_rfl) rfl rfl ⟨(blk_cell BK314.out 0).trans rfl, (blk_cell BK314.out 1).trans rfl, (blk_cell BK314.out 2).trans rfl, (blk_cell BK327.out 0).trans rfl, (blk_cell BK327.out 1).trans rfl, (blk_cell BK327.out 2).trans rfl⟩ (fun hHeld => ?_); refine with_tabW laws_FnSpanJoin.tab8 laws_FnSpanJoin.bits8 (fun HT_ HW_ => ?_)
         generalize wc.drew = w84 at BK314 BK315 BK322 BK323 BK327 HB hHeld ⊢
         refine take_ (i := 0) (N := some 56) (v := ?_) (a' := ?_) #[true, false, false, false, false, false, false, false, false, false, false, false, false, false, false, false, false, false, false, false, false, false, false, false] rfl rfl (take_ofW HT_.out HW_.out (by kernel_rfl)) (fun _ _ _ h => h) (Or.inl ⟨by rfl, ?_⟩) hHeld ?_ ?_
         rotate_left
         ·rintro w' ⟨s0, s1, s2, s3, s4, s5⟩
          go_simp
          with_reducible rfl
         rotate_left
         ·simp only [Act.put, sA, sB, sC, i64_w, i32_w]
          rfl
         refine take_ (i := 1) (N := some 57) (v := ?_) (a' := ?_) #[true, true, false, false, false, false, false, false, false, false, false, false, false, false, false, false, false, false, false, false, false, false, false, false] rfl rfl (take_ofW HT_.out HW_.out (by kernel_rfl)) (fun _ _ _ h => h) (Or.inl ⟨by rfl, ?_⟩) hHeld ?_ ?_
         rotate_left
         ·rintro w' ⟨s0, s1, s2, s3, s4, s5⟩
          go_simp
          with_reducible rfl
         rotate_left
         ·simp only [Act.put, sA, sB, sC, i64_w, i32_w]
          rfl
         refine one_ (i := 2) (N := some 58) #[true, true, true, false, false, false, false, false, false, false, false, false, false, false, false, false, false, false, false, false, false, false, false, false] rfl rfl (one_of HT_.out (by kernel_rfl)) (by decide) (fun K hK => ?_)
         refine goes_ Try.func20 (by kernel_rfl) rfl #[.agg #[.bool t308, .int .i64 t309, .int .i64 t310], .agg #[.bool t324, .int .i64 t325, .int .i64 t326]] (by rfl) rfl rfl (by (try simp only [List.map_toArray, List.map_cons, List.map_nil]); first | done | rfl | (simp only [List.length_drop, List.length_take]; rfl)) ?_
         with_reducible refine (impl_SpanIn.calls t308 t309 t310 t324 t325 t326 false _ A65.out).mono ?_
         rintro e w85 ⟨rfl, hb⟩
         refine ⟨_, rfl, ?_⟩
         have n0_ := Aside0.mk (bb_ BK314.out hb)
         have n1_ := Aside0.mk (bb_ BK315.out hb)
         have n2_ := Aside0.mk (bb_ BK322.out hb)
         have n3_ := Aside0.mk (bb_ BK323.out hb)
         have n4_ := Aside0.mk (bb_ BK327.out hb)
         have n5_ := Aside0.mk (below_step (by repeat (first | (with_reducible first | exact HB.out | apply below_alloc | apply pw_below_drewN | apply below_drew1 | refine below_set ?_ GE314.out | refine below_set ?_ GE315.out | refine below_set ?_ GE322.out | refine below_set ?_ GE323.out | refine below_set ?_ GE327.out) | exact HB.out)) hb)
         clear BK314
         clear BK315
         clear BK322
         clear BK323
         clear BK327
         clear HB
         have BK314 := n0_
         have BK315 := n1_
         have BK322 := n2_
         have BK323 := n3_
         have BK327 := n4_
         have HB := n5_
         clear n0_ n1_ n2_ n3_ n4_ n5_
         (try clear hb)
         (try clear hb2)
         (try clear hk)
         (try clear hi)
         refine hK.out _ _ ⟨(blk_cell BK314.out 0).trans rfl, (blk_cell BK314.out 1).trans rfl, (blk_cell BK314.out 2).trans rfl, (blk_cell BK327.out 0).trans rfl, (blk_cell BK327.out 1).trans rfl, (blk_cell BK327.out 2).trans rfl⟩ (fun hHeld => ?_)
         clear hK K
         refine norm_ (a' := ?_) ?_ ?_
         rotate_left
         ·show Act.put _ (some 58) _ = _
          simp only [Act.put, sA, sB, sC, i64_w, i32_w]
          rfl
         refine pure_ (i := 3) (N := some 59) (v := ?_) (a' := ?_) #[true, true, true, true, false, false, false, false, false, false, false, false, false, false, false, false, false, false, false, false, false, false, false, false] rfl rfl (any_of HT_.out (by kernel_rfl)) (fun _ _ _ h => h) (Or.inl ⟨by rfl, ?_⟩) ?_ ?_
         rotate_left
         ·intro w'
          go_simp
          with_reducible rfl
         rotate_left
         ·simp only [Act.put, sA, sB, sC, i64_w, i32_w]
          rfl
         refine pure_ (i := 4) (N := some 60) (v := ?_) (a' := ?_) #[true, true, true, true, true, false, false, false, false, false, false, false, false, false, false, false, false, false, false, false, false, false, false, false] rfl rfl (any_of HT_.out (by kernel_rfl)) (fun _ _ _ h => h) (Or.inl ⟨by rfl, ?_⟩) ?_ ?_
         rotate_left
         ·intro w'
          go_simp
          with_reducible rfl
         rotate_left
         ·simp only [Act.put, sA, sB, sC, i64_w, i32_w]
          rfl
         refine pure_ (i := 5) (N := some 61) (v := undef) (a' := ?_) #[true, true, true, true, true, true, false, false, false, false, false, false, false, false, false, false, false, false, false, false, false, false, false, false] rfl rfl (any_of HT_.out (by kernel_rfl)) (fun _ _ _ h => h) (Or.inr ⟨by rfl, rfl⟩) ?_ ?_
         rotate_left
         ·simp only [Act.put, sA, sB, sC, i64_w, i32_w]
          rfl
         refine pure_ (i := 6) (N := some 62) (v := undef) (a' := ?_) #[true, true, true, true, true, true, true, false, false, false, false, false, false, false, false, false, false, false, false, false, false, false, false, false] rfl rfl (any_of HT_.out (by kernel_rfl)) (fun _ _ _ h => h) (Or.inr ⟨by rfl, rfl⟩) ?_ ?_
         rotate_left
         ·simp only [Act.put, sA, sB, sC, i64_w, i32_w]
          rfl
         refine pure_ (i := 7) (N := some 63) (v := undef) (a' := ?_) #[true, true, true, true, true, true, true, true, false, false, false, false, false, false, false, false, false, false, false, false, false, false, false, false] rfl rfl (any_of HT_.out (by kernel_rfl)) (fun _ _ _ h => h) (Or.inr ⟨by rfl, rfl⟩) ?_ ?_
         rotate_left
         ·simp only [Act.put, sA, sB, sC, i64_w, i32_w]
          rfl
         refine pure_ (i := 8) (N := some 64) (v := undef) (a' := ?_) #[true, true, true, true, true, true, true, true, true, false, false, false, false, false, false, false, false, false, false, false, false, false, false, false] rfl rfl (any_of HT_.out (by kernel_rfl)) (fun _ _ _ h => h) (Or.inr ⟨by rfl, rfl⟩) ?_ ?_
         rotate_left
         ·simp only [Act.put, sA, sB, sC, i64_w, i32_w]
          rfl
         refine pure_ (i := 9) (N := some 65) (v := ?_) (a' := ?_) #[true, true, true, true, true, true, true, true, true, true, false, false, false, false, false, false, false, false, false, false, false, false, false, false] rfl rfl (any_of HT_.out (by kernel_rfl)) (fun _ _ _ h => h) (Or.inl ⟨by rfl, ?_⟩) ?_ ?_
         rotate_left
         ·intro w'
          go_simp
          with_reducible rfl
         rotate_left
         ·simp only [Act.put, sA, sB, sC, i64_w, i32_w]
          rfl
         refine pure_ (i := 10) (N := some 66) (v := ?_) (a' := ?_) #[true, true, true, true, true, true, true, true, true, true, true, false, false, false, false, false, false, false, false, false, false, false, false, false] rfl rfl (any_of HT_.out (by kernel_rfl)) (fun _ _ _ h => h) (Or.inl ⟨by rfl, ?_⟩) ?_ ?_
         rotate_left
         ·intro w'
          go_simp
          with_reducible rfl
         rotate_left
         ·simp only [Act.put, sA, sB, sC, i64_w, i32_w]
          rfl
         refine pure_ (i := 11) (N := some 67) (v := undef) (a' := ?_) #[true, true, true, true, true, true, true, true, true, true, true, true, false, false, false, false, false, false, false, false, false, false, false, false] rfl rfl (any_of HT_.out (by kernel_rfl)) (fun _ _ _ h => h) (Or.inr ⟨by rfl, rfl⟩) ?_ ?_
         rotate_left
         ·simp only [Act.put, sA, sB, sC, i64_w, i32_w]
          rfl
         refine pure_ (i := 12) (N := some 68) (v := undef) (a' := ?_) #[true, true, true, true, true, true, true, true, true, true, true, true, true, false, false, false, false, false, false, false, false, false, false, false] rfl rfl (any_of HT_.out (by kernel_rfl)) (fun _ _ _ h => h) (Or.inr ⟨by rfl, rfl⟩) ?_ ?_
         rotate_left
         ·simp only [Act.put, sA, sB, sC, i64_w, i32_w]
          rfl
         refine pure_ (i := 13) (N := some 69) (v := undef) (a' := ?_) #[true, true, true, true, true, true, true, true, true, true, true, true, true, true, false, false, false, false, false, false, false, false, false, false] rfl rfl (any_of HT_.out (by kernel_rfl)) (fun _ _ _ h => h) (Or.inr ⟨by rfl, rfl⟩) ?_ ?_
         rotate_left
         ·simp only [Act.put, sA, sB, sC, i64_w, i32_w]
          rfl
         refine pure_ (i := 14) (N := some 70) (v := undef) (a' := ?_) #[true, true, true, true, true, true, true, true, true, true, true, true, true, true, true, false, false, false, false, false, false, false, false, false] rfl rfl (any_of HT_.out (by kernel_rfl)) (fun _ _ _ h => h) (Or.inr ⟨by rfl, rfl⟩) ?_ ?_
         rotate_left
         ·simp only [Act.put, sA, sB, sC, i64_w, i32_w]
          rfl
         refine pure_ (i := 15) (N := some 71) (v := undef) (a' := ?_) #[true, true, true, true, true, true, true, true, true, true, true, true, true, true, true, true, false, false, false, false, false, false, false, false] rfl rfl (any_of HT_.out (by kernel_rfl)) (fun _ _ _ h => h) (Or.inr ⟨by rfl, rfl⟩) ?_ ?_
         rotate_left
         ·simp only [Act.put, sA, sB, sC, i64_w, i32_w]
          rfl
         refine pure_ (i := 16) (N := some 72) (v := ?_) (a' := ?_) #[true, true, true, true, true, true, true, true, true, true, true, true, true, true, true, true, true, false, false, false, false, false, false, false] rfl rfl (any_of HT_.out (by kernel_rfl)) (fun _ _ _ h => h) (Or.inl ⟨by rfl, ?_⟩) ?_ ?_
         rotate_left
         ·intro w'
          go_simp
          with_reducible rfl
         rotate_left
         ·simp only [Act.put, sA, sB, sC, i64_w, i32_w]
          rfl
         refine pure_ (i := 17) (N := some 73) (v := ?_) (a' := ?_) #[true, true, true, true, true, true, true, true, true, true, true, true, true, true, true, true, true, true, false, false, false, false, false, false] rfl rfl (any_of HT_.out (by kernel_rfl)) (fun _ _ _ h => h) (Or.inl ⟨by rfl, ?_⟩) ?_ ?_
         rotate_left
         ·intro w'
          go_simp
          with_reducible rfl
         rotate_left
         ·simp only [Act.put, sA, sB, sC, i64_w, i32_w]
          rfl
         refine pure_ (i := 18) (N := some 74) (v := undef) (a' := ?_) #[true, true, true, true, true, true, true, true, true, true, true, true, true, true, true, true, true, true, true, false, false, false, false, false] rfl rfl (any_of HT_.out (by kernel_rfl)) (fun _ _ _ h => h) (Or.inr ⟨by rfl, rfl⟩) ?_ ?_
         rotate_left
         ·simp only [Act.put, sA, sB, sC, i64_w, i32_w]
          rfl
         refine pure_ (i := 19) (N := some 75) (v := undef) (a' := ?_) #[true, true, true, true, true, true, true, true, true, true, true, true, true, true, true, true, true, true, true, true, false, false, false, false] rfl rfl (any_of HT_.out (by kernel_rfl)) (fun _ _ _ h => h) (Or.inr ⟨by rfl, rfl⟩) ?_ ?_
         rotate_left
         ·simp only [Act.put, sA, sB, sC, i64_w, i32_w]
          rfl
         refine pure_ (i := 20) (N := some 76) (v := undef) (a' := ?_) #[true, true, true, true, true, true, true, true, true, true, true, true, true, true, true, true, true, true, true, true, true, false, false, false] rfl rfl (any_of HT_.out (by kernel_rfl)) (fun _ _ _ h => h) (Or.inr ⟨by rfl, rfl⟩) ?_ ?_
         rotate_left
         ·simp only [Act.put, sA, sB, sC, i64_w, i32_w]
          rfl
         refine pure_ (i := 21) (N := some 77) (v := undef) (a' := ?_) #[true, true, true, true, true, true, true, true, true, true, true, true, true, true, true, true, true, true, true, true, true, true, false, false] rfl rfl (any_of HT_.out (by kernel_rfl)) (fun _ _ _ h => h) (Or.inr ⟨by rfl, rfl⟩) ?_ ?_
         rotate_left
         ·simp only [Act.put, sA, sB, sC, i64_w, i32_w]
          rfl
         refine pure_ (i := 22) (N := some 78) (v := undef) (a' := ?_) #[true, true, true, true, true, true, true, true, true, true, true, true, true, true, true, true, true, true, true, true, true, true, true, false] rfl rfl (any_of HT_.out (by kernel_rfl)) (fun _ _ _ h => h) (Or.inr ⟨by rfl, rfl⟩) ?_ ?_
         rotate_left
         ·simp only [Act.put, sA, sB, sC, i64_w, i32_w]
          rfl
         refine pure_ (i := 23) (N := some 79) (v := ?_) (a' := ?_) #[true, true, true, true, true, true, true, true, true, true, true, true, true, true, true, true, true, true, true, true, true, true, true, true] rfl rfl (any_of HT_.out (by kernel_rfl)) (fun _ _ _ h => h) (Or.inl ⟨by rfl, ?_⟩) ?_ ?_
         rotate_left
         ·intro w'
          go_simp
          with_reducible rfl
         rotate_left
         ·simp only [Act.put, sA, sB, sC, i64_w, i32_w]
          rfl
         refine done_ (done_of HT_.out (by kernel_rfl)) ?_
         try go_wp2
         go_meet
         case rel => exact ⟨_, (true), (by first | rfl | (simp; done) | (simp [*]; done)), H', ⟨by have := HJ2.out; have := HJ8.out; first | omega | exact Nat.le_refl _⟩, ⟨bk_ BK314.out⟩, ⟨bk_ BK315.out⟩, ⟨bk_ BK322.out⟩, ⟨bk_ BK323.out⟩, ⟨bk_ BK327.out⟩, ⟨by repeat (first | (with_reducible first | exact HB.out | apply below_alloc | apply pw_below_drewN | apply below_drew1 | refine below_set ?_ GE314.out | refine below_set ?_ GE315.out | refine below_set ?_ GE322.out | refine below_set ?_ GE323.out | refine below_set ?_ GE327.out) | exact HB.out)⟩⟩
       case rest =>
        clear HC64
        try clear c1
        try clear c2
        try clear p2
        try clear c6
        try clear c17
        try clear c20
        try clear c66
        try clear c68
        obtain ⟨kq, x79_63, rfl, HA, HJ63, BK314, BK315, BK322, BK323, BK327, HB⟩ := hcut
        cases kq with
        | zero => exact absurd HA.out (by simp [laws_FnSpanJoin.j2])
        | succ kj63 =>
         have H := HA.out
         clear HA
         simp only [laws_FnSpanJoin.j2] at H
         by_cases c86 : x79_63 = true
         ·subst c86
          have H1 : (some false) = some r := by rw [if_pos rfl] at H; exact H
          clear H
          have H := H1
          clear H1
          obtain rfl := Option.some.inj H
          go_wp2
          go_ret
          exact ⟨by first | rfl | (simp [errW_none, errW_some] <;> rfl) | (simp [*, errW_none, errW_some] <;> rfl), by repeat (first | (with_reducible first | exact HB.out | apply below_alloc | apply pw_below_drewN | apply below_drew1 | refine below_set ?_ GE314.out | refine below_set ?_ GE315.out | refine below_set ?_ GE322.out | refine below_set ?_ GE323.out | refine below_set ?_ GE327.out) | exact HB.out)⟩
         ·replace c86 := Bool.eq_false_iff.mpr c86
          subst c86
          have H1 : ((impl_SpanIn.f t308 t309 t310 t316 t317 t318).bind fun t345 => (if t345 = true then ((impl_SpanIn.f t311 t312 t313 t316 t317 t318).bind fun t346 => (if t346 = true then ((impl_SpanIn.f t324 t325 t326 t316 t317 t318).bind fun t347 => (some t347)) else (some true))) else (some true))) = some r := by rw [if_neg (show ¬ (false = true) by decide)] at H; exact H
          clear H
          have H := H1
          clear H1
          replace H := Option.bind_eq_some_iff.mp H
          obtain ⟨t345, A870, H⟩ := H
          replace H : (if t345 = true then ((impl_SpanIn.f t311 t312 t313 t316 t317 t318).bind fun t346 => (if t346 = true then ((impl_SpanIn.f t324 t325 t326 t316 t317 t318).bind fun t347 => (some t347)) else (some true))) else (some true)) = some r := H
          have A87 := Aside0.mk A870
          clear A870
          by_cases c88 : t345 = true
          ·subst c88
           have H1 : ((impl_SpanIn.f t311 t312 t313 t316 t317 t318).bind fun t346 => (if t346 = true then ((impl_SpanIn.f t324 t325 t326 t316 t317 t318).bind fun t347 => (some t347)) else (some true))) = some r := by rw [if_pos rfl] at H; exact H
           clear H
           have H := H1
           clear H1
           replace H := Option.bind_eq_some_iff.mp H
           obtain ⟨t346, A890, H⟩ := H
           replace H : (if t346 = true then ((impl_SpanIn.f t324 t325 t326 t316 t317 t318).bind fun t347 => (some t347)) else (some true)) = some r := H
           have A89 := Aside0.mk A890
           clear A890
           by_cases c90 : t346 = true
           ·subst c90
            have H1 : ((impl_SpanIn.f t324 t325 t326 t316 t317 t318).bind fun t347 => (some t347)) = some r := by rw [if_pos rfl] at H; exact H
            clear H
            have H := H1
            clear H1
            replace H := Option.bind_eq_some_iff.mp H
            obtain ⟨t347, A910, H⟩ := H
            replace H : (some t347) = some r := H
            have A91 := Aside0.mk A910
            clear A910
            obtain rfl := Option.some.inj H
            have hnb92 := NB314_315.out
            have hnc92 := NB315_314.out
            have hnb93 := NB314_322.out
            have hnc93 := NB322_314.out
            have hnb94 := NB314_323.out
            have hnc94 := NB323_314.out
            have hnb95 := NB314_327.out
            have hnc95 := NB327_314.out
            have hcz96_0 : wc.cell? ⟨gb314, 0, none⟩ = some (.bool t308) := (blk_cell BK314.out 0).trans rfl
            have hcz96_1 : wc.cell? ⟨gb314, 1, none⟩ = some (.int .i64 t309) := (blk_cell BK314.out 1).trans rfl
            have hcz96_2 : wc.cell? ⟨gb314, 2, none⟩ = some (.int .i64 t310) := (blk_cell BK314.out 2).trans rfl
            have hfz96_0 := blk_frozen BK314.out 0
            have hfz96_1 := blk_frozen BK314.out 1
            have hfz96_2 := blk_frozen BK314.out 2
            have hnb97 := NB322_315.out
            have hnc97 := NB315_322.out
            have hnb98 := NB322_323.out
            have hnc98 := NB323_322.out
            have hnb99 := NB322_327.out
            have hnc99 := NB327_322.out
            have hcz100_0 : wc.cell? ⟨gb322, 0, none⟩ = some (.bool t316) := (blk_cell BK322.out 0).trans rfl
            have hcz100_1 : wc.cell? ⟨gb322, 1, none⟩ = some (.int .i64 t317) := (blk_cell BK322.out 1).trans rfl
            have hcz100_2 : wc.cell? ⟨gb322, 2, none⟩ = some (.int .i64 t318) := (blk_cell BK322.out 2).trans rfl
            have hfz100_0 := blk_frozen BK322.out 0
            have hfz100_1 := blk_frozen BK322.out 1
            have hfz100_2 := blk_frozen BK322.out 2
            go_wp2_with (first | ((with_reducible refine gate_callee (f := 20) rfl ?_); refine goesL_ (some 82) rfl rfl Try.func20 (by kernel_rfl) rfl #[.agg #[.bool t308, .int .i64 t309, .int .i64 t310], .agg #[.bool t316, .int .i64 t317, .int .i64 t318]] rfl (by (try simp only [List.map_toArray, List.map_cons, List.map_nil]); first | done | rfl | (simp only [List.length_drop, List.length_take]; rfl)) ?_; (with_reducible refine (impl_SpanIn.calls t308 t309 t310 t316 t317 t318 true _ A87.out).mono ?_); rintro e w101 ⟨rfl, hb⟩; refine ⟨_, rfl, ?_⟩; have n0_ := Aside0.mk (bb_ BK314.out hb); have n1_ := Aside0.mk (bb_ BK315.out hb); have n2_ := Aside0.mk (bb_ BK322.out hb); have n3_ := Aside0.mk (bb_ BK323.out hb); have n4_ := Aside0.mk (bb_ BK327.out hb); have n5_ := Aside0.mk (below_step (by repeat (first | (with_reducible first | exact HB.out | apply below_alloc | apply pw_below_drewN | apply below_drew1 | refine below_set ?_ GE314.out | refine below_set ?_ GE315.out | refine below_set ?_ GE322.out | refine below_set ?_ GE323.out | refine below_set ?_ GE327.out) | exact HB.out)) hb); clear BK314; clear BK315; clear BK322; clear BK323; clear BK327; clear HB; have BK314 := n0_; have BK315 := n1_; have BK322 := n2_; have BK323 := n3_; have BK327 := n4_; have HB := n5_; clear n0_ n1_ n2_ n3_ n4_ n5_; (try clear hb); (try clear hb2); (try clear hk); (try clear hi); have hnb102 := NB315_323.out; have hnc102 := NB323_315.out; have hnb103 := NB315_327.out; have hnc103 := NB327_315.out; have hcz104_0 : w101.cell? ⟨gb315, 0, none⟩ = some (.bool t311) := (blk_cell BK315.out 0).trans rfl; have hcz104_1 : w101.cell? ⟨gb315, 1, none⟩ = some (.int .i64 t312) := (blk_cell BK315.out 1).trans rfl; have hcz104_2 : w101.cell? ⟨gb315, 2, none⟩ = some (.int .i64 t313) := (blk_cell BK315.out 2).trans rfl; have hfz104_0 := blk_frozen BK315.out 0; have hfz104_1 := blk_frozen BK315.out 1; have hfz104_2 := blk_frozen BK315.out 2; have hcz105_0 : w101.cell? ⟨gb322, 0, none⟩ = some (.bool t316) := (blk_cell BK322.out 0).trans rfl; have hcz105_1 : w101.cell? ⟨gb322, 1, none⟩ = some (.int .i64 t317) := (blk_cell BK322.out 1).trans rfl; have hcz105_2 : w101.cell? ⟨gb322, 2, none⟩ = some (.int .i64 t318) := (blk_cell BK322.out 2).trans rfl; have hfz105_0 := blk_frozen BK322.out 0; have hfz105_1 := blk_frozen BK322.out 1; have hfz105_2 := blk_frozen BK322.out 2) | (go_at_call 20; (with_reducible refine (impl_SpanIn.calls t311 t312 t313 t316 t317 t318 true _ A89.out).mono ?_); rintro e w106 ⟨rfl, hb⟩; have n0_ := Aside0.mk (bb_ BK314.out hb); have n1_ := Aside0.mk (bb_ BK315.out hb); have n2_ := Aside0.mk (bb_ BK322.out hb); have n3_ := Aside0.mk (bb_ BK323.out hb); have n4_ := Aside0.mk (bb_ BK327.out hb); have n5_ := Aside0.mk (below_step (by repeat (first | (with_reducible first | exact HB.out | apply below_alloc | apply pw_below_drewN | apply below_drew1 | refine below_set ?_ GE314.out | refine below_set ?_ GE315.out | refine below_set ?_ GE322.out | refine below_set ?_ GE323.out | refine below_set ?_ GE327.out) | exact HB.out)) hb); clear BK314; clear BK315; clear BK322; clear BK323; clear BK327; clear HB; have BK314 := n0_; have BK315 := n1_; have BK322 := n2_; have BK323 := n3_; have BK327 := n4_; have HB := n5_; clear n0_ n1_ n2_ n3_ n4_ n5_; (try clear hb); (try clear hb2); (try clear hk); (try clear hi); have hnb107 := NB327_323.out; have hnc107 := NB323_327.out; have hcz108_0 : w106.cell? ⟨gb327, 0, none⟩ = some (.bool t324) := (blk_cell BK327.out 0).trans rfl; have hcz108_1 : w106.cell? ⟨gb327, 1, none⟩ = some (.int .i64 t325) := (blk_cell BK327.out 1).trans rfl; have hcz108_2 : w106.cell? ⟨gb327, 2, none⟩ = some (.int .i64 t326) := (blk_cell BK327.out 2).trans rfl; have hfz108_0 := blk_frozen BK327.out 0; have hfz108_1 := blk_frozen BK327.out 1; have hfz108_2 := blk_frozen BK327.out 2; have hcz109_0 : w106.cell? ⟨gb322, 0, none⟩ = some (.bool t316) := (blk_cell BK322.out 0).trans rfl; have hcz109_1 : w106.cell? ⟨gb322, 1, none⟩ = some (.int .i64 t317) := (blk_cell BK322.out 1).trans rfl; have hcz109_2 : w106.cell? ⟨gb322, 2, none⟩ = some (.int .i64 t318) := (blk_cell BK322.out 2).trans rfl; have hfz109_0 := blk_frozen BK322.out 0; have hfz109_1 := blk_frozen BK322.out 1; have hfz109_2 := blk_frozen BK322.out 2) | (go_at_call 20; (with_reducible refine (impl_SpanIn.calls t324 t325 t326 t316 t317 t318 t347 _ A91.out).mono ?_); rintro e w110 ⟨rfl, hb⟩; have n0_ := Aside0.mk (bb_ BK314.out hb); have n1_ := Aside0.mk (bb_ BK315.out hb); have n2_ := Aside0.mk (bb_ BK322.out hb); have n3_ := Aside0.mk (bb_ BK323.out hb); have n4_ := Aside0.mk (bb_ BK327.out hb); have n5_ := Aside0.mk (below_step (by repeat (first | (with_reducible first | exact HB.out | apply below_alloc | apply pw_below_drewN | apply below_drew1 | refine below_set ?_ GE314.out | refine below_set ?_ GE315.out | refine below_set ?_ GE322.out | refine below_set ?_ GE323.out | refine below_set ?_ GE327.out) | exact HB.out)) hb); clear BK314; clear BK315; clear BK322; clear BK323; clear BK327; clear HB; have BK314 := n0_; have BK315 := n1_; have BK322 := n2_; have BK323 := n3_; have BK327 := n4_; have HB := n5_; clear n0_ n1_ n2_ n3_ n4_ n5_; (try clear hb); (try clear hb2); (try clear hk); (try clear hi)))
            go_ret
            exact ⟨by first | rfl | (simp [errW_none, errW_some] <;> rfl) | (simp [*, errW_none, errW_some] <;> rfl), by repeat (first | (with_reducible first | exact HB.out | apply below_alloc | apply pw_below_drewN | apply below_drew1 | refine below_set ?_ GE314.out | refine below_set ?_ GE315.out | refine below_set ?_ GE322.out | refine below_set ?_ GE323.out | refine below_set ?_ GE327.out) | exact HB.out)⟩
           ·replace c90 := Bool.eq_false_iff.mpr c90
            subst c90
            have H1 : (some true) = some r := by rw [if_neg (show ¬ (false = true) by decide)] at H; exact H
            clear H
            have H := H1
            clear H1
            obtain rfl := Option.some.inj H
            have hnb111 := NB314_315.out
            have hnc111 := NB315_314.out
            have hnb112 := NB314_322.out
            have hnc112 := NB322_314.out
            have hnb113 := NB314_323.out
            have hnc113 := NB323_314.out
            have hnb114 := NB314_327.out
            have hnc114 := NB327_314.out
            have hcz115_0 : wc.cell? ⟨gb314, 0, none⟩ = some (.bool t308) := (blk_cell BK314.out 0).trans rfl
            have hcz115_1 : wc.cell? ⟨gb314, 1, none⟩ = some (.int .i64 t309) := (blk_cell BK314.out 1).trans rfl
            have hcz115_2 : wc.cell? ⟨gb314, 2, none⟩ = some (.int .i64 t310) := (blk_cell BK314.out 2).trans rfl
            have hfz115_0 := blk_frozen BK314.out 0
            have hfz115_1 := blk_frozen BK314.out 1
            have hfz115_2 := blk_frozen BK314.out 2
            have hnb116 := NB322_315.out
            have hnc116 := NB315_322.out
            have hnb117 := NB322_323.out
            have hnc117 := NB323_322.out
            have hnb118 := NB322_327.out
            have hnc118 := NB327_322.out
            have hcz119_0 : wc.cell? ⟨gb322, 0, none⟩ = some (.bool t316) := (blk_cell BK322.out 0).trans rfl
            have hcz119_1 : wc.cell? ⟨gb322, 1, none⟩ = some (.int .i64 t317) := (blk_cell BK322.out 1).trans rfl
            have hcz119_2 : wc.cell? ⟨gb322, 2, none⟩ = some (.int .i64 t318) := (blk_cell BK322.out 2).trans rfl
            have hfz119_0 := blk_frozen BK322.out 0
            have hfz119_1 := blk_frozen BK322.out 1
            have hfz119_2 := blk_frozen BK322.out 2
            go_wp2_with (first | ((with_reducible refine gate_callee (f := 20) rfl ?_); refine goesL_ (some 82) rfl rfl Try.func20 (by kernel_rfl) rfl #[.agg #[.bool t308, .int .i64 t309, .int .i64 t310], .agg #[.bool t316, .int .i64 t317, .int .i64 t318]] rfl (by (try simp only [List.map_toArray, List.map_cons, List.map_nil]); first | done | rfl | (simp only [List.length_drop, List.length_take]; rfl)) ?_; (with_reducible refine (impl_SpanIn.calls t308 t309 t310 t316 t317 t318 true _ A87.out).mono ?_); rintro e w120 ⟨rfl, hb⟩; refine ⟨_, rfl, ?_⟩; have n0_ := Aside0.mk (bb_ BK314.out hb); have n1_ := Aside0.mk (bb_ BK315.out hb); have n2_ := Aside0.mk (bb_ BK322.out hb); have n3_ := Aside0.mk (bb_ BK323.out hb); have n4_ := Aside0.mk (bb_ BK327.out hb); have n5_ := Aside0.mk (below_step (by repeat (first | (with_reducible first | exact HB.out | apply below_alloc | apply pw_below_drewN | apply below_drew1 | refine below_set ?_ GE314.out | refine below_set ?_ GE315.out | refine below_set ?_ GE322.out | refine below_set ?_ GE323.out | refine below_set ?_ GE327.out) | exact HB.out)) hb); clear BK314; clear BK315; clear BK322; clear BK323; clear BK327; clear HB; have BK314 := n0_; have BK315 := n1_; have BK322 := n2_; have BK323 := n3_; have BK327 := n4_; have HB := n5_; clear n0_ n1_ n2_ n3_ n4_ n5_; (try clear hb); (try clear hb2); (try clear hk); (try clear hi); have hnb121 := NB315_323.out; have hnc121 := NB323_315.out; have hnb122 := NB315_327.out; have hnc122 := NB327_315.out; have hcz123_0 : w120.cell? ⟨gb315, 0, none⟩ = some (.bool t311) := (blk_cell BK315.out 0).trans rfl; have hcz123_1 : w120.cell? ⟨gb315, 1, none⟩ = some (.int .i64 t312) := (blk_cell BK315.out 1).trans rfl; have hcz123_2 : w120.cell? ⟨gb315, 2, none⟩ = some (.int .i64 t313) := (blk_cell BK315.out 2).trans rfl; have hfz123_0 := blk_frozen BK315.out 0; have hfz123_1 := blk_frozen BK315.out 1; have hfz123_2 := blk_frozen BK315.out 2; have hcz124_0 : w120.cell? ⟨gb322, 0, none⟩ = some (.bool t316) := (blk_cell BK322.out 0).trans rfl; have hcz124_1 : w120.cell? ⟨gb322, 1, none⟩ = some (.int .i64 t317) := (blk_cell BK322.out 1).trans rfl; have hcz124_2 : w120.cell? ⟨gb322, 2, none⟩ = some (.int .i64 t318) := (blk_cell BK322.out 2).trans rfl; have hfz124_0 := blk_frozen BK322.out 0; have hfz124_1 := blk_frozen BK322.out 1; have hfz124_2 := blk_frozen BK322.out 2) | (go_at_call 20; (with_reducible refine (impl_SpanIn.calls t311 t312 t313 t316 t317 t318 false _ A89.out).mono ?_); rintro e w125 ⟨rfl, hb⟩; have n0_ := Aside0.mk (bb_ BK314.out hb); have n1_ := Aside0.mk (bb_ BK315.out hb); have n2_ := Aside0.mk (bb_ BK322.out hb); have n3_ := Aside0.mk (bb_ BK323.out hb); have n4_ := Aside0.mk (bb_ BK327.out hb); have n5_ := Aside0.mk (below_step (by repeat (first | (with_reducible first | exact HB.out | apply below_alloc | apply pw_below_drewN | apply below_drew1 | refine below_set ?_ GE314.out | refine below_set ?_ GE315.out | refine below_set ?_ GE322.out | refine below_set ?_ GE323.out | refine below_set ?_ GE327.out) | exact HB.out)) hb); clear BK314; clear BK315; clear BK322; clear BK323; clear BK327; clear HB; have BK314 := n0_; have BK315 := n1_; have BK322 := n2_; have BK323 := n3_; have BK327 := n4_; have HB := n5_; clear n0_ n1_ n2_ n3_ n4_ n5_; (try clear hb); (try clear hb2); (try clear hk); (try clear hi)))
            go_ret
            exact ⟨by first | rfl | (simp [errW_none, errW_some] <;> rfl) | (simp [*, errW_none, errW_some] <;> rfl), by repeat (first | (with_reducible first | exact HB.out | apply below_alloc | apply pw_below_drewN | apply below_drew1 | refine below_set ?_ GE314.out | refine below_set ?_ GE315.out | refine below_set ?_ GE322.out | refine below_set ?_ GE323.out | refine below_set ?_ GE327.out) | exact HB.out)⟩
          ·replace c88 := Bool.eq_false_iff.mpr c88
           subst c88
           have H1 : (some true) = some r := by rw [if_neg (show ¬ (false = true) by decide)] at H; exact H
           clear H
           have H := H1
           clear H1
           obtain rfl := Option.some.inj H
           have hnb126 := NB314_315.out
           have hnc126 := NB315_314.out
           have hnb127 := NB314_322.out
           have hnc127 := NB322_314.out
           have hnb128 := NB314_323.out
           have hnc128 := NB323_314.out
           have hnb129 := NB314_327.out
           have hnc129 := NB327_314.out
           have hcz130_0 : wc.cell? ⟨gb314, 0, none⟩ = some (.bool t308) := (blk_cell BK314.out 0).trans rfl
           have hcz130_1 : wc.cell? ⟨gb314, 1, none⟩ = some (.int .i64 t309) := (blk_cell BK314.out 1).trans rfl
           have hcz130_2 : wc.cell? ⟨gb314, 2, none⟩ = some (.int .i64 t310) := (blk_cell BK314.out 2).trans rfl
           have hfz130_0 := blk_frozen BK314.out 0
           have hfz130_1 := blk_frozen BK314.out 1
           have hfz130_2 := blk_frozen BK314.out 2
           have hnb131 := NB322_315.out
           have hnc131 := NB315_322.out
           have hnb132 := NB322_323.out
           have hnc132 := NB323_322.out
           have hnb133 := NB322_327.out
           have hnc133 := NB327_322.out
           have hcz134_0 : wc.cell? ⟨gb322, 0, none⟩ = some (.bool t316) := (blk_cell BK322.out 0).trans rfl
           have hcz134_1 : wc.cell? ⟨gb322, 1, none⟩ = some (.int .i64 t317) := (blk_cell BK322.out 1).trans rfl
           have hcz134_2 : wc.cell? ⟨gb322, 2, none⟩ = some (.int .i64 t318) := (blk_cell BK322.out 2).trans rfl
           have hfz134_0 := blk_frozen BK322.out 0
           have hfz134_1 := blk_frozen BK322.out 1
           have hfz134_2 := blk_frozen BK322.out 2
           go_wp2_with (first | ((with_reducible refine gate_callee (f := 20) rfl ?_); refine goesL_ (some 82) rfl rfl Try.func20 (by kernel_rfl) rfl #[.agg #[.bool t308, .int .i64 t309, .int .i64 t310], .agg #[.bool t316, .int .i64 t317, .int .i64 t318]] rfl (by (try simp only [List.map_toArray, List.map_cons, List.map_nil]); first | done | rfl | (simp only [List.length_drop, List.length_take]; rfl)) ?_; (with_reducible refine (impl_SpanIn.calls t308 t309 t310 t316 t317 t318 false _ A87.out).mono ?_); rintro e w135 ⟨rfl, hb⟩; refine ⟨_, rfl, ?_⟩; have n0_ := Aside0.mk (bb_ BK314.out hb); have n1_ := Aside0.mk (bb_ BK315.out hb); have n2_ := Aside0.mk (bb_ BK322.out hb); have n3_ := Aside0.mk (bb_ BK323.out hb); have n4_ := Aside0.mk (bb_ BK327.out hb); have n5_ := Aside0.mk (below_step (by repeat (first | (with_reducible first | exact HB.out | apply below_alloc | apply pw_below_drewN | apply below_drew1 | refine below_set ?_ GE314.out | refine below_set ?_ GE315.out | refine below_set ?_ GE322.out | refine below_set ?_ GE323.out | refine below_set ?_ GE327.out) | exact HB.out)) hb); clear BK314; clear BK315; clear BK322; clear BK323; clear BK327; clear HB; have BK314 := n0_; have BK315 := n1_; have BK322 := n2_; have BK323 := n3_; have BK327 := n4_; have HB := n5_; clear n0_ n1_ n2_ n3_ n4_ n5_; (try clear hb); (try clear hb2); (try clear hk); (try clear hi)))
           go_ret
           exact ⟨by first | rfl | (simp [errW_none, errW_some] <;> rfl) | (simp [*, errW_none, errW_some] <;> rfl), by repeat (first | (with_reducible first | exact HB.out | apply below_alloc | apply pw_below_drewN | apply below_drew1 | refine below_set ?_ GE314.out | refine below_set ?_ GE315.out | refine below_set ?_ GE322.out | refine below_set ?_ GE323.out | refine below_set ?_ GE327.out) | exact HB.out)⟩

/-- THE ONE PURE STATEMENT of laws_FnSpanJoin: yours. -/
def laws_FnSpanJoin.Pure : Prop := ∀ (l0 : List Int) (l1 : List Int), l0.length ≤ maxLen → l0.length * 1 ≤ 140737488351232 → (∀ x ∈ l0, (Lit.int .u8 x).wf = true) → l1.length ≤ maxLen → l1.length * 1 ≤ 140737488351232 → (∀ x ∈ l1, (Lit.int .u8 x).wf = true) → ∃ k, laws_FnSpanJoin.f k l0 l1 = some true
theorem laws_FnSpanJoin.walk (P : laws_FnSpanJoin.Pure) (a0 : Option Addr) (len0 cap0 : Nat) (z0 : List Int) (a1 : Option Addr) (len1 cap1 : Nat) (z1 : List Int) (w : World) (w0 : (a0 = none ∧ len0 = 0 ∧ cap0 = 0 ∧ z0 = []) ∨ ∃ x, a0 = some x ∧ len0 ≤ cap0 ∧ cap0 ≤ maxLen ∧ z0.length = cap0 ∧ (∀ i, i < z0.length → w.cell? (x.add i) = some (.int .u8 (z0.getD i 0))) ∧ ∀ n ∈ z0, (Lit.int .u8 n).wf = true) (y0 : len0 * 1 ≤ 140737488351232) (w1 : (a1 = none ∧ len1 = 0 ∧ cap1 = 0 ∧ z1 = []) ∨ ∃ x, a1 = some x ∧ len1 ≤ cap1 ∧ cap1 ≤ maxLen ∧ z1.length = cap1 ∧ (∀ i, i < z1.length → w.cell? (x.add i) = some (.int .u8 (z1.getD i 0))) ∧ ∀ n ∈ z1, (Lit.int .u8 n).wf = true) (y1 : len1 * 1 ≤ 140737488351232) :
  Calls Try.prog 6 #[.slice a0 len0 cap0, .slice a1 len1 cap1] w fun e w' => e = .returned (.bool true) ∧ Below w.heap.size w w' := by
 obtain ⟨l0, rfl, hr0, hm0, hw0, hc0⟩ := ReadsInt.ofRowC w0
 obtain ⟨l1, rfl, hr1, hm1, hw1, hc1⟩ := ReadsInt.ofRowC w1
 obtain ⟨k, h⟩ := P l0 l1 hm0 y0 hw0 hm1 y1 hw1
 refine (laws_FnSpanJoin.calls k _ _ l0 _ _ l1 true w (Kd.C_of_reads (d := (0 : Int)) (h1 := fun _ => rfl) hr0) hc0 (Kd.C_of_reads (d := (0 : Int)) (h1 := fun _ => rfl) hr1) hc1 h).mono ?_
 rintro e w' ⟨rfl, hd⟩
 exact ⟨rfl, hd⟩

end Go.Proofs.Ytbgaoidihgpldab.Q
