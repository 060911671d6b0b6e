/- What is proved: the law FnExactSpanKinds answers true at every input that its row admits, and leaves its arguments as they were. Written by a program of this session over the kit's print. No condition. -/
import Derived.Test.YtbgaoidihgpldacRows
import Derived.Test.YtbgaoidihgpldacQx6
import Derived.Test.YtbgaoidihgpldacDown
import Derived.Test.YtbgaoidihgpldacPureFnExactSpanKinds
import Derived.WalkKit
import Derived.ProofKit
import Derived.OpenShut
import Derived.ShutString
import Derived.ChangeOld
import Derived.Below
import Derived.SizedLaws
import Derived.Lib.SmallJoins
namespace Go.Proofs.Ytbgaoidihgpldac.fnExactSpanKinds
open Go.ChangeShapes Go.WideShapes Go.ChangeAt Go.RowKit Go.Proofs.Ytbgaoidihgpldac.Q Go.Proofs.YtbgaoidihgpldacW.PrintWords Go.Joins
open Go.ChangeMaps (open_string shut_string)
set_option linter.unusedVariables false
theorem own : ownKnob Try.prog.godebug = none := by kernel_rfl
theorem laidOut : laidOutB Try.prog = true := by kernel_rfl
theorem opens0 : Down.Opens Try.prog 27 (Kd.pair Kd.bool (Kd.pair (Kd.int .i64) (Kd.int .i64))) (fun x_ : Bool × Int × Int => (fun _ : Bool => True) x_.1 ∧ (fun x_ : Int × Int => (fun n_ : Int => (Lit.int .i64 n_).wf = true) x_.1 ∧ (fun n_ : Int => (Lit.int .i64 n_).wf = true) x_.2) x_.2) := (Down.Opens.struct (sz := 3) Try.underlying27 (by kernel_rfl) (Down.OpensAt.cons (off := 0) (n := 1) (sz := 2) (wf := (fun _ : Bool => True)) (wf' := (fun x_ : Int × Int => (fun n_ : Int => (Lit.int .i64 n_).wf = true) x_.1 ∧ (fun n_ : Int => (Lit.int .i64 n_).wf = true) x_.2)) rfl (by kernel_rfl) (by decide) (Down.Opens.bool Try.underlying4) (Down.OpensAt.cons (off := 1) (n := 1) (sz := 1) (wf := (fun n_ : Int => (Lit.int .i64 n_).wf = true)) (wf' := (fun n_ : Int => (Lit.int .i64 n_).wf = true)) rfl (by kernel_rfl) (by decide) (Down.Opens.int Try.underlying3) (Down.OpensAt.last (off := 2) (sz := 1) rfl (by kernel_rfl) (Down.Opens.int Try.underlying3)))))
set_option maxRecDepth 100000 in
theorem lifted (os : Os) (started : os.Started) (H : Type) (enc : TypeId × Value → H) :
    ReturnsInHanded {} Try.checked os 5 .any (Rows.fnExactSpanKindsSpec.pre6 enc Try.prog Try.f5 Rows.fnExactSpanKindsRow.domain false) (Rows.fnExactSpanKindsSpec.post enc Try.prog Try.f5 false true false false) := by
  refine returnsInHanded_of_change_sized (C := Try.checked) own started (by kernel_rfl) Try.func5
    (ChangeSpec.witness6 (enc := enc) (C := Try.checked) false ⟨#[], #[.agg #[.bool false, .int .i64 0, .int .i64 0]], []⟩ 8 (by kernel_rfl) (by kernel_rfl) (by kernel_rfl) (by kernel_rfl)) ?_
  intro W base args ds gs before hval0 hW hcnd hsz0 _
  have hval : ∀ (j : Nat) t v, Try.f5.params[j]? = some t → args[j]? = some v → Value.okWide Try.prog W .any base t v := hval0
  have hW' := hW
  obtain ⟨p, q, hA0, hV, rfl, hfz, hnd⟩ := hW
  have hA : DataW.TrodAll enc Try.prog W 0 (fun _ => true) true Try.f5.params.toList args.toList ds p := hA0
  rw [Try.params5] at hA hval
  obtain ⟨v0, vs0, d0, ds0, p0, q0, hargs, rfl, rfl, h0, r0⟩ := trodAll_cons hA
  obtain ⟨rfl, rfl, rfl⟩ := trodAll_nil r0
  obtain rfl : args = #[v0] := by cases args; simp_all
  obtain ⟨rfl, rfl⟩ := trodVars_none hV
  have k0 := h0
  have lt0 : ∀ x ∈ p0, x.block < W.heap.size := by obtain ⟨m, hm⟩ := k0; exact DataW.trod_lt m _ _ _ hm
  obtain ⟨fuel0, hf0⟩ := h0
  obtain ⟨⟨a0_0, a0_1, a0_2⟩, hK0, ⟨-, hw0_1, hw0_2⟩⟩ := opens0 H enc W fuel0 _ _ hf0
  obtain ⟨cs0, rfl, _⟩ := okWide_struct Try.underlying27 (hval 0 27 v0 rfl rfl)
  simp only [Value.cells] at hK0
  obtain ⟨_, _, hcs0, rfl, ⟨_, _, rfl, rfl, rfl⟩⟩ := hK0
  obtain rfl : cs0 = #[.bool a0_0, .int .i64 a0_1, .int .i64 a0_2] := by apply Array.toList_inj.1; rw [hcs0]; rfl
  clear hA0 hval0 hsz0
  refine (laws_FnExactSpanKinds.walk Pure.FnExactSpanKinds a0_0 a0_1 a0_2 W hw0_1 hw0_2).mono fun e W' ⟨he, bel⟩ => ?_
  subst he
  exact ⟨_, rfl, _, _, _, [], _, [], hW', trodAll_mk1 (shut_bool Try.underlying4 _), (trodAll_cons_mk (Below.trod laidOut (by kernel_rfl) (of_decide_eq_true (by kernel_rfl)) k0 bel lt0) trodAll_mk0), rfl, bel.frame _, fun h => by cases h⟩
theorem over : Rows.fnExactSpanKindsRow.holds Try.pinned (OpenSpec.ofChange Rows.fnExactSpanKindsSpec) :=
  OpenClaim.holds_of_wide 5 Try.f5 rfl rfl rfl rfl rfl rfl rfl ⟨rfl, rfl, rfl, rfl, rfl⟩ rfl rfl rfl rfl rfl (by kernel_rfl) Try.func5 (by kernel_rfl)
    (of_decide_eq_true (by kernel_rfl)) (by unfold Func.isWrapper; first | (rw [if_pos (by decide +kernel)]; kernel_rfl) | (rw [if_neg (by decide +kernel)]; exact ⟨rfl, rfl⟩))
    (fun os started H enc _ => lifted os started H enc)
theorem proved : Rows.FnExactSpanKindsSaid := over
#print axioms proved
end Go.Proofs.Ytbgaoidihgpldac.fnExactSpanKinds
namespace Go.Proofs.Ytbgaoidihgpldac
/-- The row, under a short name, for the claim. -/
theorem fnExactSpanKinds_holds : Rows.FnExactSpanKindsSaid := fnExactSpanKinds.proved
end Go.Proofs.Ytbgaoidihgpldac
