/- What is proved: the law FnExactProgOk answers true at every input that its row admits, and leaves its arguments as they were. No condition. -/
import Derived.Test.YtdlonbcefhimaaaRows
import Derived.Test.YtdlonbcefhimaaaXD23
import Derived.Test.YtdlonbcefhimaaaP9
import Derived.Test.YtdlonbcefhimaaaOk3
import Derived.WalkKit
import Derived.ProofKit
import Derived.OpenShut
import Derived.ShutString
import Derived.ChangeOld
import Derived.Below
import Derived.SizedLaws
import Derived.Lib.SmallJoins
namespace Go.Proofs.Ytdlonbcefhimaaa.fnExactProgOk
open Go.ChangeShapes Go.WideShapes Go.ChangeAt Go.RowKit Go.Joins Go.Proofs.Ytdlonbcefhimaaa.XD
set_option linter.all false
open Go.ChangeMaps (open_string shut_string)
set_option linter.unusedVariables false
theorem own : ownKnob Try.prog.godebug = none := by kernel_rfl
theorem laidOut : laidOutB Try.prog = true := by kernel_rfl
theorem opnInt {t : TypeId} (ht : Try.prog.underlying t = some (.int .i64)) : Opn Try.prog t (fun n : Int => [.int .i64 n]) (fun _ => True) := (Opn.int ht).iso (g := id) (fun _ => rfl) (fun _ _ => trivial)
theorem opnIns : Opn Try.prog 118 encIns (fun _ => True) :=
  (Opn.struct (sz := 4) Try.underlying118 (by kernel_rfl) (OpnAt.cons (off := 0) (n := 1) (sz := 3) rfl (by kernel_rfl) (by decide) (opnInt Try.underlying3) (OpnAt.cons (off := 1) (n := 1) (sz := 2) rfl (by kernel_rfl) (by decide) (opnInt Try.underlying3)
    (OpnAt.cons (off := 2) (n := 1) (sz := 1) rfl (by kernel_rfl) (by decide) (opnInt Try.underlying3) (OpnAt.last (off := 3) rfl (by kernel_rfl) (opnInt Try.underlying3)))))).iso (g := fun x : Int × Int × Int × Int => (⟨x.1, x.2.1, x.2.2.1, x.2.2.2⟩ : Ins)) (fun _ => rfl) (fun _ _ => trivial)
theorem opnProc : Opn Try.prog 55 encProc (fun p => p.1 = 0 ∧ p.2.length ≤ maxLen) :=
  (Opn.struct (sz := 1) Try.underlying55 (by kernel_rfl) (OpnAt.last (off := 0) rfl (by kernel_rfl) (Opn.slice Try.underlying53 (st := 4) (by kernel_rfl) (by decide) (fun _ => rfl) opnIns))).iso (g := fun l : List Ins => ((0, l) : Proc)) (fun _ => rfl) (fun _ h => ⟨rfl, h.1⟩)
theorem opn0 : Opn Try.prog 22 (fun ps : List Proc => [.ro 0 (ps.map encProc)]) (fun ps => ps.length ≤ maxLen ∧ ∀ p ∈ ps, p.1 = 0 ∧ p.2.length ≤ maxLen) :=
  Opn.slice Try.underlying22 (st := 1) (by kernel_rfl) (by decide) (fun _ => rfl) opnProc
set_option maxRecDepth 100000 in
theorem lifted (os : Os) (started : os.Started) (H : Type) (enc : TypeId × Value → H) :
    ReturnsInHanded {} Try.checked os 3 .any (Rows.fnExactProgOkSpec.pre6 enc Try.prog Try.f3 Rows.fnExactProgOkRow.domain false) (Rows.fnExactProgOkSpec.post enc Try.prog Try.f3 false true false false) := by
  refine returnsInHanded_of_change_sized (C := Try.checked) own started (by kernel_rfl) Try.func3
    (ChangeSpec.witness6 (enc := enc) (C := Try.checked) false ⟨#[], #[.slice none 0 0], []⟩ 8 (by kernel_rfl) (by kernel_rfl) (by kernel_rfl) (by kernel_rfl)) ?_
  intro W base args ds gs before hval0 hW hcnd hsz0 _
  have hval : ∀ (j : Nat) t v, Try.f3.params[j]? = some t → args[j]? = some v → Value.okWide Try.prog W .any base t v := hval0
  have hW' := hW
  obtain ⟨p, q, hA0, hV, rfl, hfz, hnd⟩ := hW
  have hA : DataW.TrodAll enc Try.prog W 0 (fun _ => true) true Try.f3.params.toList args.toList ds p := hA0
  rw [Try.params3] at hA hval
  obtain ⟨v0, vs0, d0, ds0, p0, q0, hargs, rfl, rfl, h0, r0⟩ := trodAll_cons hA
  obtain ⟨rfl, rfl, rfl⟩ := trodAll_nil r0
  obtain rfl : args = #[v0] := by cases args; simp_all
  obtain ⟨rfl, rfl⟩ := trodVars_none hV
  have k0 := h0
  have lt0 : ∀ x ∈ p0, x.block < W.heap.size := by obtain ⟨m, hm⟩ := k0; exact DataW.trod_lt m _ _ _ hm
  obtain ⟨fuel0, hf0⟩ := h0
  obtain ⟨a0, hR0, hm0, hw0⟩ := opn0 H enc W fuel0 _ _ hf0
  obtain ⟨sa0, sl0, sc0, rfl⟩ := okWide_slice Try.underlying22 (hval 0 22 v0 rfl rfl)
  have hV0 : VR (ofW W) (.ro 0 (a0.map encProc)) (.slice sa0 sl0 sc0) := hR0.2.2 0 _ _ rfl rfl
  clear hA0 hval0 hsz0
  refine (law_calls envOK (law3 a0 0 (by decide) (fun p hp => ⟨by rw [(hw0 p hp).1]; decide, by have := (hw0 p hp).2; simp only [maxLen] at this; omega⟩) (by simp only [maxLen] at hm0; omega) [])
    ⟨rfl, fun i d hd => by
      cases i with
      | zero => simp at hd; subst hd; exact ⟨_, rfl, hV0⟩
      | succ i => simp at hd⟩).mono fun e W' ⟨he, bel⟩ => ?_
  subst he
  exact ⟨_, rfl, _, _, _, [], _, [], hW', trodAll_mk1 (shut_bool Try.underlying4 _), (trodAll_cons_mk (Below.trod laidOut (by kernel_rfl) (of_decide_eq_true (by kernel_rfl)) k0 bel lt0) trodAll_mk0), rfl, bel.frame _, fun h => by cases h⟩
theorem over : Rows.fnExactProgOkRow.holds Try.pinned (OpenSpec.ofChange Rows.fnExactProgOkSpec) :=
  OpenClaim.holds_of_wide 3 Try.f3 rfl rfl rfl rfl rfl rfl rfl ⟨rfl, rfl, rfl, rfl, rfl⟩ rfl rfl rfl rfl rfl (by kernel_rfl) Try.func3 (by kernel_rfl)
    (of_decide_eq_true (by kernel_rfl)) (by unfold Func.isWrapper; first | (rw [if_pos (by decide +kernel)]; kernel_rfl) | (rw [if_neg (by decide +kernel)]; exact ⟨rfl, rfl⟩))
    (fun os started H enc _ => lifted os started H enc)
theorem proved : Rows.FnExactProgOkSaid := over
#print axioms proved
end Go.Proofs.Ytdlonbcefhimaaa.fnExactProgOk
