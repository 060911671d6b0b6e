/- What is proved: the law FnExactStateHas answers true at every input that its row admits, and leaves its arguments as they were. Written by a program of this session over the kit's print. No condition. -/
import Derived.Test.YteglijkpcgbpnaaRows
import Derived.Test.YteglijkpcgbpnaaQx12
import Derived.Test.YteglijkpcgbpnaaDown
import Derived.Test.YteglijkpcgbpnaaPureFnExactStateHas
import Derived.Test.YteglijkpcgbpnaaQx12
import Derived.WalkKit
import Derived.ProofKit
import Derived.OpenShut
import Derived.ShutString
import Derived.ChangeOld
import Derived.Below
import Derived.SizedLaws
import Derived.Lib.SmallJoins
namespace Go.Proofs.Yteglijkpcgbpnaa.fnExactStateHas
open Go.ChangeShapes Go.WideShapes Go.ChangeAt Go.RowKit Go.Proofs.Yteglijkpcgbpnaa.Q Go.Proofs.YteglijkpcgbpnaaW.PrintWords Go.Joins
open Go.ChangeMaps (open_string shut_string)
set_option linter.unusedVariables false
theorem own : ownKnob Try.prog.godebug = none := by kernel_rfl
theorem laidOut : laidOutB Try.prog = true := by kernel_rfl
theorem opens0 : Down.Opens Try.prog 26 (Kd.pair Kd.bool (Kd.pair (Kd.slice 24 k24) (Kd.pair Kd.bool (Kd.pair (Kd.int .i64) (Kd.int .i64))))) (fun x_ : Bool × (List (S24)) × (Bool × Int × Int) => (fun _ : Bool => True) x_.1 ∧ (fun x_ : (List (S24)) × (Bool × Int × Int) => (fun xs_ : List (S24) => xs_.length ≤ maxLen ∧ ∀ x_ ∈ xs_, WF24 x_) x_.1 ∧ (fun x_ : Bool × Int × Int => (fun _ : Bool => True) x_.1 ∧ (fun x_ : Int × Int => (fun n_ : Int => (Lit.int .i64 n_).wf = true) x_.1 ∧ (fun n_ : Int => (Lit.int .i64 n_).wf = true) x_.2) x_.2) x_.2) x_.2) := (Down.Opens.struct (sz := 5) Try.underlying26 (by kernel_rfl) (Down.OpensAt.cons (off := 0) (n := 1) (sz := 4) (wf := (fun _ : Bool => True)) (wf' := (fun x_ : (List (S24)) × (Bool × Int × Int) => (fun xs_ : List (S24) => xs_.length ≤ maxLen ∧ ∀ x_ ∈ xs_, WF24 x_) x_.1 ∧ (fun x_ : Bool × Int × Int => (fun _ : Bool => True) x_.1 ∧ (fun x_ : Int × Int => (fun n_ : Int => (Lit.int .i64 n_).wf = true) x_.1 ∧ (fun n_ : Int => (Lit.int .i64 n_).wf = true) x_.2) x_.2) x_.2)) rfl (by kernel_rfl) (by decide) (Down.Opens.bool Try.underlying4) (Down.OpensAt.cons (off := 1) (n := 1) (sz := 3) (wf := (fun xs_ : List (S24) => xs_.length ≤ maxLen ∧ ∀ x_ ∈ xs_, WF24 x_)) (wf' := (fun x_ : Bool × Int × Int => (fun _ : Bool => True) x_.1 ∧ (fun x_ : Int × Int => (fun n_ : Int => (Lit.int .i64 n_).wf = true) x_.1 ∧ (fun n_ : Int => (Lit.int .i64 n_).wf = true) x_.2) x_.2)) rfl (by kernel_rfl) (by decide) (Down.Opens.slice Try.underlying22 (by kernel_rfl) opens_T24) (Down.OpensAt.last (off := 2) (sz := 3) rfl (by kernel_rfl) (Down.Opens.struct (sz := 3) Try.underlying24 (by kernel_rfl) (Down.OpensAt.cons (off := 0) (n := 1) (sz := 2) (wf := (fun _ : Bool => True)) (wf' := (fun x_ : Int × Int => (fun n_ : Int => (Lit.int .i64 n_).wf = true) x_.1 ∧ (fun n_ : Int => (Lit.int .i64 n_).wf = true) x_.2)) rfl (by kernel_rfl) (by decide) (Down.Opens.bool Try.underlying4) (Down.OpensAt.cons (off := 1) (n := 1) (sz := 1) (wf := (fun n_ : Int => (Lit.int .i64 n_).wf = true)) (wf' := (fun n_ : Int => (Lit.int .i64 n_).wf = true)) rfl (by kernel_rfl) (by decide) (Down.Opens.int Try.underlying3) (Down.OpensAt.last (off := 2) (sz := 1) rfl (by kernel_rfl) (Down.Opens.int Try.underlying3)))))))))
set_option maxRecDepth 100000 in
theorem lifted (os : Os) (started : os.Started) (H : Type) (enc : TypeId × Value → H) :
    ReturnsInHanded {} Try.checked os 5 .any (Rows.fnExactStateHasSpec.pre6 enc Try.prog Try.f5 Rows.fnExactStateHasRow.domain false) (Rows.fnExactStateHasSpec.post enc Try.prog Try.f5 false true false false) := by
  refine returnsInHanded_of_change_sized (C := Try.checked) own started (by kernel_rfl) Try.func5
    (ChangeSpec.witness6 (enc := enc) (C := Try.checked) false ⟨#[], #[.agg #[.bool false, .slice none 0 0, .bool false, .int .i64 0, .int .i64 0], .slice none 0 0, .slice none 0 0], []⟩ 8 (by kernel_rfl) (by kernel_rfl) (by kernel_rfl) (by kernel_rfl)) ?_
  intro W base args ds gs before hval0 hW hcnd hsz0 _
  have hval : ∀ (j : Nat) t v, Try.f5.params[j]? = some t → args[j]? = some v → Value.okWide Try.prog W .any base t v := hval0
  have hW' := hW
  obtain ⟨p, q, hA0, hV, rfl, hfz, hnd⟩ := hW
  have hA : DataW.TrodAll enc Try.prog W 0 (fun _ => true) true Try.f5.params.toList args.toList ds p := hA0
  rw [Try.params5] at hA hval
  obtain ⟨v0, vs0, d0, ds0, p0, q0, hargs, rfl, rfl, h0, r0⟩ := trodAll_cons hA
  obtain ⟨v1, vs1, d1, ds1, p1, q1, rfl, rfl, rfl, h1, r1⟩ := trodAll_cons r0
  obtain ⟨v2, vs2, d2, ds2, p2, q2, rfl, rfl, rfl, h2, r2⟩ := trodAll_cons r1
  obtain ⟨rfl, rfl, rfl⟩ := trodAll_nil r2
  obtain rfl : args = #[v0, v1, v2] := by cases args; simp_all
  obtain ⟨rfl, rfl⟩ := trodVars_none hV
  have k0 := h0
  have lt0 : ∀ x ∈ p0, x.block < W.heap.size := by obtain ⟨m, hm⟩ := k0; exact DataW.trod_lt m _ _ _ hm
  obtain ⟨fuel0, hf0⟩ := h0
  obtain ⟨⟨a0_0, l0_1, ⟨a0_2, a0_3, a0_4⟩⟩, hK0, ⟨-, ⟨hm0_1, hw0_1⟩, ⟨-, hw0_3, hw0_4⟩⟩⟩ := opens0 H enc W fuel0 _ _ hf0
  obtain ⟨cs0, rfl, _⟩ := okWide_struct Try.underlying26 (hval 0 26 v0 rfl rfl)
  simp only [Value.cells] at hK0
  obtain ⟨_, _, hcs0, rfl, ⟨_, _, rfl, ⟨A0_1, c0_1, rfl, hc0_1, hr0_1⟩, ⟨_, _, rfl, rfl, ⟨_, _, rfl, rfl, rfl⟩⟩⟩⟩ := hK0
  obtain rfl : cs0 = #[.bool a0_0, .slice A0_1 l0_1.length c0_1, .bool a0_2, .int .i64 a0_3, .int .i64 a0_4] := by apply Array.toList_inj.1; rw [hcs0]; rfl
  have k1 := h1
  have lt1 : ∀ x ∈ p1, x.block < W.heap.size := by obtain ⟨m, hm⟩ := k1; exact DataW.trod_lt m _ _ _ hm
  obtain ⟨fuel1, hf1⟩ := h1
  obtain ⟨l1, hK1, ⟨hm1, hw1⟩⟩ := (Down.Opens.slice Try.underlying37 (by kernel_rfl) (Down.Opens.int Try.underlying3)) H enc W fuel1 _ _ hf1
  obtain ⟨a1, len1, cap1, rfl⟩ := okWide_slice Try.underlying37 (hval 1 37 v1 rfl rfl)
  obtain ⟨A1, c1, hcs1, hc1, hr1⟩ := hK1
  obtain ⟨ea_, el_, ec_⟩ : a1 = A1 ∧ len1 = l1.length ∧ cap1 = c1 := by simpa [Value.cells] using hcs1
  subst a1; subst len1; subst cap1
  have k2 := h2
  have lt2 : ∀ x ∈ p2, x.block < W.heap.size := by obtain ⟨m, hm⟩ := k2; exact DataW.trod_lt m _ _ _ hm
  obtain ⟨fuel2, hf2⟩ := h2
  obtain ⟨l2, hK2, ⟨hm2, hw2⟩⟩ := (Down.Opens.slice Try.underlying37 (by kernel_rfl) (Down.Opens.int Try.underlying3)) H enc W fuel2 _ _ hf2
  obtain ⟨a2, len2, cap2, rfl⟩ := okWide_slice Try.underlying37 (hval 2 37 v2 rfl rfl)
  obtain ⟨A2, c2, hcs2, hc2, hr2⟩ := hK2
  obtain ⟨ea_, el_, ec_⟩ : a2 = A2 ∧ len2 = l2.length ∧ cap2 = c2 := by simpa [Value.cells] using hcs2
  subst a2; subst len2; subst cap2
  clear hA0 hval0 hsz0
  refine (laws_FnExactStateHas.walk Pure.FnExactStateHas a0_0 A0_1 c0_1 l0_1 a0_2 a0_3 a0_4 A1 c1 l1 A2 c2 l2 W hr0_1 hc0_1 hm0_1 hw0_1 hw0_3 hw0_4 hr1 hc1 hm1 hw1 hr2 hc2 hm2 hw2).mono fun e W' ⟨he, bel⟩ => ?_
  subst he
  exact ⟨_, rfl, _, _, _, [], _, [], hW', trodAll_mk1 (shut_bool Try.underlying4 _), (trodAll_cons_mk (Below.trod laidOut (by kernel_rfl) (of_decide_eq_true (by kernel_rfl)) k0 bel lt0) (trodAll_cons_mk (Below.trod laidOut (by kernel_rfl) (of_decide_eq_true (by kernel_rfl)) k1 bel lt1) (trodAll_cons_mk (Below.trod laidOut (by kernel_rfl) (of_decide_eq_true (by kernel_rfl)) k2 bel lt2) trodAll_mk0))), rfl, bel.frame _, fun h => by cases h⟩
theorem over : Rows.fnExactStateHasRow.holds Try.pinned (OpenSpec.ofChange Rows.fnExactStateHasSpec) :=
  OpenClaim.holds_of_wide 5 Try.f5 rfl rfl rfl rfl rfl rfl rfl ⟨rfl, rfl, rfl, rfl, rfl⟩ rfl rfl rfl rfl rfl (by kernel_rfl) Try.func5 (by kernel_rfl)
    (of_decide_eq_true (by kernel_rfl)) (by unfold Func.isWrapper; first | (rw [if_pos (by decide +kernel)]; kernel_rfl) | (rw [if_neg (by decide +kernel)]; exact ⟨rfl, rfl⟩))
    (fun os started H enc _ => lifted os started H enc)
theorem proved : Rows.FnExactStateHasSaid := over
#print axioms proved
end Go.Proofs.Yteglijkpcgbpnaa.fnExactStateHas
namespace Go.Proofs.Yteglijkpcgbpnaa
/-- The row, under a short name, for the claim. -/
theorem fnExactStateHas_holds : Rows.FnExactStateHasSaid := fnExactStateHas.proved
end Go.Proofs.Yteglijkpcgbpnaa
