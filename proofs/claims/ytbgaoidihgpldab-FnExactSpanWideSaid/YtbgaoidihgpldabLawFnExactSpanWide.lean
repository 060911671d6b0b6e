/- What is proved: the law FnExactSpanWide answers true at every input that its row admits, and leaves its arguments as they were. Written by a program of this session over the kit's print. No condition. -/
import Derived.Test.YtbgaoidihgpldabRows
import Derived.Test.YtbgaoidihgpldabQx17
import Derived.Test.YtbgaoidihgpldabDown
import Derived.Test.YtbgaoidihgpldabPureFnExactSpanWide
import Derived.WalkKit
import Derived.ProofKit
import Derived.OpenShut
import Derived.ShutString
import Derived.ChangeOld
import Derived.Below
import Derived.SizedLaws
import Derived.Lib.SmallJoins
namespace Go.Proofs.Ytbgaoidihgpldab.fnExactSpanWide
open Go.ChangeShapes Go.WideShapes Go.ChangeAt Go.RowKit Go.Proofs.Ytbgaoidihgpldab.Q Go.Proofs.YtbgaoidihgpldabW.PrintWords Go.Joins
open Go.ChangeMaps (open_string shut_string)
set_option linter.unusedVariables false
theorem own : ownKnob Try.prog.godebug = none := by kernel_rfl
theorem laidOut : laidOutB Try.prog = true := by kernel_rfl
theorem opens0 : Down.Opens Try.prog 30 (Kd.pair Kd.bool (Kd.pair (Kd.int .i64) (Kd.int .i64))) (fun x_ : Bool × Int × Int => (fun _ : Bool => True) x_.1 ∧ (fun x_ : Int × Int => (fun n_ : Int => (Lit.int .i64 n_).wf = true) x_.1 ∧ (fun n_ : Int => (Lit.int .i64 n_).wf = true) x_.2) x_.2) := (Down.Opens.struct (sz := 3) Try.underlying30 (by kernel_rfl) (Down.OpensAt.cons (off := 0) (n := 1) (sz := 2) (wf := (fun _ : Bool => True)) (wf' := (fun x_ : Int × Int => (fun n_ : Int => (Lit.int .i64 n_).wf = true) x_.1 ∧ (fun n_ : Int => (Lit.int .i64 n_).wf = true) x_.2)) rfl (by kernel_rfl) (by decide) (Down.Opens.bool Try.underlying4) (Down.OpensAt.cons (off := 1) (n := 1) (sz := 1) (wf := (fun n_ : Int => (Lit.int .i64 n_).wf = true)) (wf' := (fun n_ : Int => (Lit.int .i64 n_).wf = true)) rfl (by kernel_rfl) (by decide) (Down.Opens.int Try.underlying3) (Down.OpensAt.last (off := 2) (sz := 1) rfl (by kernel_rfl) (Down.Opens.int Try.underlying3)))))
theorem opens1 : Down.Opens Try.prog 30 (Kd.pair Kd.bool (Kd.pair (Kd.int .i64) (Kd.int .i64))) (fun x_ : Bool × Int × Int => (fun _ : Bool => True) x_.1 ∧ (fun x_ : Int × Int => (fun n_ : Int => (Lit.int .i64 n_).wf = true) x_.1 ∧ (fun n_ : Int => (Lit.int .i64 n_).wf = true) x_.2) x_.2) := (Down.Opens.struct (sz := 3) Try.underlying30 (by kernel_rfl) (Down.OpensAt.cons (off := 0) (n := 1) (sz := 2) (wf := (fun _ : Bool => True)) (wf' := (fun x_ : Int × Int => (fun n_ : Int => (Lit.int .i64 n_).wf = true) x_.1 ∧ (fun n_ : Int => (Lit.int .i64 n_).wf = true) x_.2)) rfl (by kernel_rfl) (by decide) (Down.Opens.bool Try.underlying4) (Down.OpensAt.cons (off := 1) (n := 1) (sz := 1) (wf := (fun n_ : Int => (Lit.int .i64 n_).wf = true)) (wf' := (fun n_ : Int => (Lit.int .i64 n_).wf = true)) rfl (by kernel_rfl) (by decide) (Down.Opens.int Try.underlying3) (Down.OpensAt.last (off := 2) (sz := 1) rfl (by kernel_rfl) (Down.Opens.int Try.underlying3)))))
set_option maxRecDepth 100000 in
theorem lifted (os : Os) (started : os.Started) (H : Type) (enc : TypeId × Value → H) :
    ReturnsInHanded {} Try.checked os 7 .any (Rows.fnExactSpanWideSpec.pre6 enc Try.prog Try.f7 Rows.fnExactSpanWideRow.domain false) (Rows.fnExactSpanWideSpec.post enc Try.prog Try.f7 false true false false) := by
  refine returnsInHanded_of_change_sized (C := Try.checked) own started (by kernel_rfl) Try.func7
    (ChangeSpec.witness6 (enc := enc) (C := Try.checked) false ⟨#[], #[.agg #[.bool false, .int .i64 0, .int .i64 0], .agg #[.bool false, .int .i64 0, .int .i64 0]], []⟩ 8 (by kernel_rfl) (by kernel_rfl) (by kernel_rfl) (by kernel_rfl)) ?_
  intro W base args ds gs before hval0 hW hcnd hsz0 _
  have hval : ∀ (j : Nat) t v, Try.f7.params[j]? = some t → args[j]? = some v → Value.okWide Try.prog W .any base t v := hval0
  have hW' := hW
  obtain ⟨p, q, hA0, hV, rfl, hfz, hnd⟩ := hW
  have hA : DataW.TrodAll enc Try.prog W 0 (fun _ => true) true Try.f7.params.toList args.toList ds p := hA0
  rw [Try.params7] at hA hval
  obtain ⟨v0, vs0, d0, ds0, p0, q0, hargs, rfl, rfl, h0, r0⟩ := trodAll_cons hA
  obtain ⟨v1, vs1, d1, ds1, p1, q1, rfl, rfl, rfl, h1, r1⟩ := trodAll_cons r0
  obtain ⟨rfl, rfl, rfl⟩ := trodAll_nil r1
  obtain rfl : args = #[v0, v1] := by cases args; simp_all
  obtain ⟨rfl, rfl⟩ := trodVars_none hV
  have k0 := h0
  have lt0 : ∀ x ∈ p0, x.block < W.heap.size := by obtain ⟨m, hm⟩ := k0; exact DataW.trod_lt m _ _ _ hm
  obtain ⟨fuel0, hf0⟩ := h0
  obtain ⟨⟨a0_0, a0_1, a0_2⟩, hK0, ⟨-, hw0_1, hw0_2⟩⟩ := opens0 H enc W fuel0 _ _ hf0
  obtain ⟨cs0, rfl, _⟩ := okWide_struct Try.underlying30 (hval 0 30 v0 rfl rfl)
  simp only [Value.cells] at hK0
  obtain ⟨_, _, hcs0, rfl, ⟨_, _, rfl, rfl, rfl⟩⟩ := hK0
  obtain rfl : cs0 = #[.bool a0_0, .int .i64 a0_1, .int .i64 a0_2] := by apply Array.toList_inj.1; rw [hcs0]; rfl
  have k1 := h1
  have lt1 : ∀ x ∈ p1, x.block < W.heap.size := by obtain ⟨m, hm⟩ := k1; exact DataW.trod_lt m _ _ _ hm
  obtain ⟨fuel1, hf1⟩ := h1
  obtain ⟨⟨a1_0, a1_1, a1_2⟩, hK1, ⟨-, hw1_1, hw1_2⟩⟩ := opens1 H enc W fuel1 _ _ hf1
  obtain ⟨cs1, rfl, _⟩ := okWide_struct Try.underlying30 (hval 1 30 v1 rfl rfl)
  simp only [Value.cells] at hK1
  obtain ⟨_, _, hcs1, rfl, ⟨_, _, rfl, rfl, rfl⟩⟩ := hK1
  obtain rfl : cs1 = #[.bool a1_0, .int .i64 a1_1, .int .i64 a1_2] := by apply Array.toList_inj.1; rw [hcs1]; rfl
  clear hA0 hval0 hsz0
  refine (laws_FnExactSpanWide.walk Pure.FnExactSpanWide a0_0 a0_1 a0_2 a1_0 a1_1 a1_2 W hw0_1 hw0_2 hw1_1 hw1_2).mono fun e W' ⟨he, bel⟩ => ?_
  subst he
  exact ⟨_, rfl, _, _, _, [], _, [], hW', trodAll_mk1 (shut_bool Try.underlying4 _), (trodAll_cons_mk (Below.trod laidOut (by kernel_rfl) (of_decide_eq_true (by kernel_rfl)) k0 bel lt0) (trodAll_cons_mk (Below.trod laidOut (by kernel_rfl) (of_decide_eq_true (by kernel_rfl)) k1 bel lt1) trodAll_mk0)), rfl, bel.frame _, fun h => by cases h⟩
theorem over : Rows.fnExactSpanWideRow.holds Try.pinned (OpenSpec.ofChange Rows.fnExactSpanWideSpec) :=
  OpenClaim.holds_of_wide 7 Try.f7 rfl rfl rfl rfl rfl rfl rfl ⟨rfl, rfl, rfl, rfl, rfl⟩ rfl rfl rfl rfl rfl (by kernel_rfl) Try.func7 (by kernel_rfl)
    (of_decide_eq_true (by kernel_rfl)) (by unfold Func.isWrapper; first | (rw [if_pos (by decide +kernel)]; kernel_rfl) | (rw [if_neg (by decide +kernel)]; exact ⟨rfl, rfl⟩))
    (fun os started H enc _ => lifted os started H enc)
theorem proved : Rows.FnExactSpanWideSaid := over
#print axioms proved
end Go.Proofs.Ytbgaoidihgpldab.fnExactSpanWide
namespace Go.Proofs.Ytbgaoidihgpldab
/-- The row, under a short name, for the claim. -/
theorem fnExactSpanWide_holds : Rows.FnExactSpanWideSaid := fnExactSpanWide.proved
end Go.Proofs.Ytbgaoidihgpldab
