/- What is proved: the law FnExactStateOk answers true at every input that its row admits, and leaves its arguments as they were. Written by a program of this session over the kit's print. No condition. -/
import Derived.Test.YteglijkpcgbpnaaRows
import Derived.Test.YteglijkpcgbpnaaQx7
import Derived.Test.YteglijkpcgbpnaaDown
import Derived.Test.YteglijkpcgbpnaaPureFnExactStateOk
import Derived.Test.YteglijkpcgbpnaaQx7
import Derived.WalkKit
import Derived.ProofKit
import Derived.OpenShut
import Derived.ShutString
import Derived.ChangeOld
import Derived.Below
import Derived.SizedLaws
import Derived.Lib.SmallJoins
namespace Go.Proofs.Yteglijkpcgbpnaa.fnExactStateOk
open Go.ChangeShapes Go.WideShapes Go.ChangeAt Go.RowKit Go.Proofs.Yteglijkpcgbpnaa.Q Go.Proofs.YteglijkpcgbpnaaW.PrintWords Go.Joins
open Go.ChangeMaps (open_string shut_string)
set_option linter.unusedVariables false
theorem own : ownKnob Try.prog.godebug = none := by kernel_rfl
theorem laidOut : laidOutB Try.prog = true := by kernel_rfl
theorem opens0 : Down.Opens Try.prog 26 (Kd.pair Kd.bool (Kd.pair (Kd.slice 24 k24) (Kd.pair Kd.bool (Kd.pair (Kd.int .i64) (Kd.int .i64))))) (fun x_ : Bool × (List (S24)) × (Bool × Int × Int) => (fun _ : Bool => True) x_.1 ∧ (fun x_ : (List (S24)) × (Bool × Int × Int) => (fun xs_ : List (S24) => xs_.length ≤ maxLen ∧ ∀ x_ ∈ xs_, WF24 x_) x_.1 ∧ (fun x_ : Bool × Int × Int => (fun _ : Bool => True) x_.1 ∧ (fun x_ : Int × Int => (fun n_ : Int => (Lit.int .i64 n_).wf = true) x_.1 ∧ (fun n_ : Int => (Lit.int .i64 n_).wf = true) x_.2) x_.2) x_.2) x_.2) := (Down.Opens.struct (sz := 5) Try.underlying26 (by kernel_rfl) (Down.OpensAt.cons (off := 0) (n := 1) (sz := 4) (wf := (fun _ : Bool => True)) (wf' := (fun x_ : (List (S24)) × (Bool × Int × Int) => (fun xs_ : List (S24) => xs_.length ≤ maxLen ∧ ∀ x_ ∈ xs_, WF24 x_) x_.1 ∧ (fun x_ : Bool × Int × Int => (fun _ : Bool => True) x_.1 ∧ (fun x_ : Int × Int => (fun n_ : Int => (Lit.int .i64 n_).wf = true) x_.1 ∧ (fun n_ : Int => (Lit.int .i64 n_).wf = true) x_.2) x_.2) x_.2)) rfl (by kernel_rfl) (by decide) (Down.Opens.bool Try.underlying4) (Down.OpensAt.cons (off := 1) (n := 1) (sz := 3) (wf := (fun xs_ : List (S24) => xs_.length ≤ maxLen ∧ ∀ x_ ∈ xs_, WF24 x_)) (wf' := (fun x_ : Bool × Int × Int => (fun _ : Bool => True) x_.1 ∧ (fun x_ : Int × Int => (fun n_ : Int => (Lit.int .i64 n_).wf = true) x_.1 ∧ (fun n_ : Int => (Lit.int .i64 n_).wf = true) x_.2) x_.2)) rfl (by kernel_rfl) (by decide) (Down.Opens.slice Try.underlying22 (by kernel_rfl) opens_T24) (Down.OpensAt.last (off := 2) (sz := 3) rfl (by kernel_rfl) (Down.Opens.struct (sz := 3) Try.underlying24 (by kernel_rfl) (Down.OpensAt.cons (off := 0) (n := 1) (sz := 2) (wf := (fun _ : Bool => True)) (wf' := (fun x_ : Int × Int => (fun n_ : Int => (Lit.int .i64 n_).wf = true) x_.1 ∧ (fun n_ : Int => (Lit.int .i64 n_).wf = true) x_.2)) rfl (by kernel_rfl) (by decide) (Down.Opens.bool Try.underlying4) (Down.OpensAt.cons (off := 1) (n := 1) (sz := 1) (wf := (fun n_ : Int => (Lit.int .i64 n_).wf = true)) (wf' := (fun n_ : Int => (Lit.int .i64 n_).wf = true)) rfl (by kernel_rfl) (by decide) (Down.Opens.int Try.underlying3) (Down.OpensAt.last (off := 2) (sz := 1) rfl (by kernel_rfl) (Down.Opens.int Try.underlying3)))))))))
set_option maxRecDepth 100000 in
theorem lifted (os : Os) (started : os.Started) (H : Type) (enc : TypeId × Value → H) :
    ReturnsInHanded {} Try.checked os 3 .any (Rows.fnExactStateOkSpec.pre6 enc Try.prog Try.f3 Rows.fnExactStateOkRow.domain false) (Rows.fnExactStateOkSpec.post enc Try.prog Try.f3 false true false false) := by
  refine returnsInHanded_of_change_sized (C := Try.checked) own started (by kernel_rfl) Try.func3
    (ChangeSpec.witness6 (enc := enc) (C := Try.checked) false ⟨#[], #[.agg #[.bool false, .slice none 0 0, .bool false, .int .i64 0, .int .i64 0]], []⟩ 8 (by kernel_rfl) (by kernel_rfl) (by kernel_rfl) (by kernel_rfl)) ?_
  intro W base args ds gs before hval0 hW hcnd hsz0 _
  have hval : ∀ (j : Nat) t v, Try.f3.params[j]? = some t → args[j]? = some v → Value.okWide Try.prog W .any base t v := hval0
  have hW' := hW
  obtain ⟨p, q, hA0, hV, rfl, hfz, hnd⟩ := hW
  have hA : DataW.TrodAll enc Try.prog W 0 (fun _ => true) true Try.f3.params.toList args.toList ds p := hA0
  rw [Try.params3] at hA hval
  obtain ⟨v0, vs0, d0, ds0, p0, q0, hargs, rfl, rfl, h0, r0⟩ := trodAll_cons hA
  obtain ⟨rfl, rfl, rfl⟩ := trodAll_nil r0
  obtain rfl : args = #[v0] := by cases args; simp_all
  obtain ⟨rfl, rfl⟩ := trodVars_none hV
  have k0 := h0
  have lt0 : ∀ x ∈ p0, x.block < W.heap.size := by obtain ⟨m, hm⟩ := k0; exact DataW.trod_lt m _ _ _ hm
  obtain ⟨fuel0, hf0⟩ := h0
  obtain ⟨⟨a0_0, l0_1, ⟨a0_2, a0_3, a0_4⟩⟩, hK0, ⟨-, ⟨hm0_1, hw0_1⟩, ⟨-, hw0_3, hw0_4⟩⟩⟩ := opens0 H enc W fuel0 _ _ hf0
  obtain ⟨cs0, rfl, _⟩ := okWide_struct Try.underlying26 (hval 0 26 v0 rfl rfl)
  simp only [Value.cells] at hK0
  obtain ⟨_, _, hcs0, rfl, ⟨_, _, rfl, ⟨A0_1, c0_1, rfl, hc0_1, hr0_1⟩, ⟨_, _, rfl, rfl, ⟨_, _, rfl, rfl, rfl⟩⟩⟩⟩ := hK0
  obtain rfl : cs0 = #[.bool a0_0, .slice A0_1 l0_1.length c0_1, .bool a0_2, .int .i64 a0_3, .int .i64 a0_4] := by apply Array.toList_inj.1; rw [hcs0]; rfl
  clear hA0 hval0 hsz0
  refine (laws_FnExactStateOk.walk Pure.FnExactStateOk a0_0 A0_1 c0_1 l0_1 a0_2 a0_3 a0_4 W hr0_1 hc0_1 hm0_1 hw0_1 hw0_3 hw0_4).mono fun e W' ⟨he, bel⟩ => ?_
  subst he
  exact ⟨_, rfl, _, _, _, [], _, [], hW', trodAll_mk1 (shut_bool Try.underlying4 _), (trodAll_cons_mk (Below.trod laidOut (by kernel_rfl) (of_decide_eq_true (by kernel_rfl)) k0 bel lt0) trodAll_mk0), rfl, bel.frame _, fun h => by cases h⟩
theorem over : Rows.fnExactStateOkRow.holds Try.pinned (OpenSpec.ofChange Rows.fnExactStateOkSpec) :=
  OpenClaim.holds_of_wide 3 Try.f3 rfl rfl rfl rfl rfl rfl rfl ⟨rfl, rfl, rfl, rfl, rfl⟩ rfl rfl rfl rfl rfl (by kernel_rfl) Try.func3 (by kernel_rfl)
    (of_decide_eq_true (by kernel_rfl)) (by unfold Func.isWrapper; first | (rw [if_pos (by decide +kernel)]; kernel_rfl) | (rw [if_neg (by decide +kernel)]; exact ⟨rfl, rfl⟩))
    (fun os started H enc _ => lifted os started H enc)
theorem proved : Rows.FnExactStateOkSaid := over
#print axioms proved
end Go.Proofs.Yteglijkpcgbpnaa.fnExactStateOk
namespace Go.Proofs.Yteglijkpcgbpnaa
/-- The row, under a short name, for the claim. -/
theorem fnExactStateOk_holds : Rows.FnExactStateOkSaid := fnExactStateOk.proved
end Go.Proofs.Yteglijkpcgbpnaa
