/-
  No cell of these rows narrows 'for every input' (looked for: loops, veiled, ifaces, maps, wideKeys, modest, calm, conditions, laid).
  DERIVED. THE GIVEN ROWS OF THIS SEAT. 6 by the template 'for every input the law returns true; each argument reads behind the call as it read before'; 0 by the template 'total and deterministic' (their statements: YtbgaoidihgpldacTotals.lean).
  GIVEN WITH THE SEED: the statements are not yours to turn. If you find one false, say at which input.
  Laid BY PROGRAM, IN A SANDBOX (cutbox-rows.mjs): the forced cells as the released guide's own fill.sh prints them over the translation a687190e05f6bb2d… (all of the seat's roots in one cut). By AI agents, Wed Nov 11 2026. No macro, syntax, notation, axiom, sorry.
-/
import Derived.Test.YtbgaoidihgpldacChecked
import GoSem.Claim
import GoSem.ClaimJoined
import GoSem.ClaimMapViews
import Derived.JoinedTies
import Derived.KernelRfl
namespace Go.Proofs.Ytbgaoidihgpldac
/- THE CELL 'sum', in the pinned program and in every row, IS THE sha256 OF THE DUMP (.gsa) THAT YtbgaoidihgpldacProg.lean LOADS. Nothing in Lean hashes anything: it is a label: what it is worth is what the hold of that sum in a sandbox is worth. -/
noncomputable def Try.pinned : Pinned := { name := "ytbgaoidihgpldac", sum := "a687190e05f6bb2dc7898b886718f79b9e6eb71123c568123feb61ea35f99c89", checked := Try.checked }
namespace Rows
def none {H : Type} : Left H := { results := [], args := [] }

/-- 'laws.FnExactKindSpan': WHATEVER THE INPUT: true; the input reads as it did. -/
def fnExactKindSpanSpec : ChangeSpec := { name := "fnExactKindSpan", fn := fun _ => fun
  | [d] => { results := [.lit (.bool true)], args := [d] }
  | _ => none }
def fnExactKindSpanRow : OpenClaim := { program := "ytbgaoidihgpldac", sum := "a687190e05f6bb2dc7898b886718f79b9e6eb71123c568123feb61ea35f99c89", func := "loop.example/gauger/laws.FnExactKindSpan", spec := "fnExactKindSpan", unfollowed := true, recurses := true, apart := false }
def FnExactKindSpanSaid : Prop := fnExactKindSpanRow.holds Try.pinned (OpenSpec.ofChange fnExactKindSpanSpec)

/-- ITS FALSE NEIGHBOUR: 'it returns false'. Refute it at one input. -/
def fnExactKindSpanWrong : ChangeSpec := { name := "fnExactKindSpan", fn := fun _ => fun
  | [d] => { results := [.lit (.bool false)], args := [d] }
  | _ => none }
def FnExactKindSpanWrongFalsely : Prop := fnExactKindSpanRow.holds Try.pinned (OpenSpec.ofChange fnExactKindSpanWrong)

/-- 'laws.FnExactSpanMeet': WHATEVER THE INPUT: true; the input reads as it did. -/
def fnExactSpanMeetSpec : ChangeSpec := { name := "fnExactSpanMeet", fn := fun _ => fun
  | [d1, d2] => { results := [.lit (.bool true)], args := [d1, d2] }
  | _ => none }
def fnExactSpanMeetRow : OpenClaim := { program := "ytbgaoidihgpldac", sum := "a687190e05f6bb2dc7898b886718f79b9e6eb71123c568123feb61ea35f99c89", func := "loop.example/gauger/laws.FnExactSpanMeet", spec := "fnExactSpanMeet", unfollowed := true, recurses := true, apart := false }
def FnExactSpanMeetSaid : Prop := fnExactSpanMeetRow.holds Try.pinned (OpenSpec.ofChange fnExactSpanMeetSpec)

/-- ITS FALSE NEIGHBOUR: 'it returns false'. Refute it at one input. -/
def fnExactSpanMeetWrong : ChangeSpec := { name := "fnExactSpanMeet", fn := fun _ => fun
  | [d1, d2] => { results := [.lit (.bool false)], args := [d1, d2] }
  | _ => none }
def FnExactSpanMeetWrongFalsely : Prop := fnExactSpanMeetRow.holds Try.pinned (OpenSpec.ofChange fnExactSpanMeetWrong)

/-- 'laws.FnExactSpanKinds': WHATEVER THE INPUT: true; the input reads as it did. -/
def fnExactSpanKindsSpec : ChangeSpec := { name := "fnExactSpanKinds", fn := fun _ => fun
  | [d] => { results := [.lit (.bool true)], args := [d] }
  | _ => none }
def fnExactSpanKindsRow : OpenClaim := { program := "ytbgaoidihgpldac", sum := "a687190e05f6bb2dc7898b886718f79b9e6eb71123c568123feb61ea35f99c89", func := "loop.example/gauger/laws.FnExactSpanKinds", spec := "fnExactSpanKinds", apart := false }
def FnExactSpanKindsSaid : Prop := fnExactSpanKindsRow.holds Try.pinned (OpenSpec.ofChange fnExactSpanKindsSpec)

/-- ITS FALSE NEIGHBOUR: 'it returns false'. Refute it at one input. -/
def fnExactSpanKindsWrong : ChangeSpec := { name := "fnExactSpanKinds", fn := fun _ => fun
  | [d] => { results := [.lit (.bool false)], args := [d] }
  | _ => none }
def FnExactSpanKindsWrongFalsely : Prop := fnExactSpanKindsRow.holds Try.pinned (OpenSpec.ofChange fnExactSpanKindsWrong)

/-- 'laws.FnSpanMeet': WHATEVER THE INPUT: true; the input reads as it did. -/
def fnSpanMeetSpec : ChangeSpec := { name := "fnSpanMeet", fn := fun _ => fun
  | [d] => { results := [.lit (.bool true)], args := [d] }
  | _ => none }
def fnSpanMeetRow : OpenClaim := { program := "ytbgaoidihgpldac", sum := "a687190e05f6bb2dc7898b886718f79b9e6eb71123c568123feb61ea35f99c89", func := "loop.example/gauger/laws.FnSpanMeet", spec := "fnSpanMeet", unfollowed := true, recurses := true, apart := false }
def FnSpanMeetSaid : Prop := fnSpanMeetRow.holds Try.pinned (OpenSpec.ofChange fnSpanMeetSpec)

/-- ITS FALSE NEIGHBOUR: 'it returns false'. Refute it at one input. -/
def fnSpanMeetWrong : ChangeSpec := { name := "fnSpanMeet", fn := fun _ => fun
  | [d] => { results := [.lit (.bool false)], args := [d] }
  | _ => none }
def FnSpanMeetWrongFalsely : Prop := fnSpanMeetRow.holds Try.pinned (OpenSpec.ofChange fnSpanMeetWrong)

/-- 'laws.FnSpanLattice': WHATEVER THE INPUT: true; the input reads as it did. -/
def fnSpanLatticeSpec : ChangeSpec := { name := "fnSpanLattice", fn := fun _ => fun
  | [d1, d2] => { results := [.lit (.bool true)], args := [d1, d2] }
  | _ => none }
def fnSpanLatticeRow : OpenClaim := { program := "ytbgaoidihgpldac", sum := "a687190e05f6bb2dc7898b886718f79b9e6eb71123c568123feb61ea35f99c89", func := "loop.example/gauger/laws.FnSpanLattice", spec := "fnSpanLattice", unfollowed := true, recurses := true, apart := false }
def FnSpanLatticeSaid : Prop := fnSpanLatticeRow.holds Try.pinned (OpenSpec.ofChange fnSpanLatticeSpec)

/-- ITS FALSE NEIGHBOUR: 'it returns false'. Refute it at one input. -/
def fnSpanLatticeWrong : ChangeSpec := { name := "fnSpanLattice", fn := fun _ => fun
  | [d1, d2] => { results := [.lit (.bool false)], args := [d1, d2] }
  | _ => none }
def FnSpanLatticeWrongFalsely : Prop := fnSpanLatticeRow.holds Try.pinned (OpenSpec.ofChange fnSpanLatticeWrong)

/-- 'laws.FnSpanKinds': WHATEVER THE INPUT: true; the input reads as it did. -/
def fnSpanKindsSpec : ChangeSpec := { name := "fnSpanKinds", fn := fun _ => fun
  | [d] => { results := [.lit (.bool true)], args := [d] }
  | _ => none }
def fnSpanKindsRow : OpenClaim := { program := "ytbgaoidihgpldac", sum := "a687190e05f6bb2dc7898b886718f79b9e6eb71123c568123feb61ea35f99c89", func := "loop.example/gauger/laws.FnSpanKinds", spec := "fnSpanKinds", unfollowed := true, recurses := true, apart := false }
def FnSpanKindsSaid : Prop := fnSpanKindsRow.holds Try.pinned (OpenSpec.ofChange fnSpanKindsSpec)

/-- ITS FALSE NEIGHBOUR: 'it returns false'. Refute it at one input. -/
def fnSpanKindsWrong : ChangeSpec := { name := "fnSpanKinds", fn := fun _ => fun
  | [d] => { results := [.lit (.bool false)], args := [d] }
  | _ => none }
def FnSpanKindsWrongFalsely : Prop := fnSpanKindsRow.holds Try.pinned (OpenSpec.ofChange fnSpanKindsWrong)

/- THE SECOND FORM. 'bulk': how many values and letters a reading holds, each counted each time it is reached (what is shared counts as often as it is met; a slice's spare places count too). A statement '..UptoSaid' is the law's where the arguments, and the package variables that the reading takes, are together of bulk at most 1048576: NARROWER than '..Said'. Prove '..Said' where nothing that the law and all that it calls make is longer than what came in: it says more and counts as full. Else prove '..UptoSaid'. A law counts once. -/
mutual
def uptoBulk {H : Type} : DataW H → Nat
  | .lit (.string bytes) => bytes.length + 1
  | .lit _ => 1
  | .nil => 1
  | .ptr d => uptoBulk d + 1
  | .slice elems spare => uptoBulkAll elems + uptoBulkAll spare + 1
  | .agg parts => uptoBulkAll parts + 1
  | .iface _ d => uptoBulk d + 1
  | .map entries => uptoBulkEntries entries + 1
  | .held _ => 1
def uptoBulkAll {H : Type} : List (DataW H) → Nat
  | [] => 0
  | d :: r => uptoBulk d + uptoBulkAll r
def uptoBulkEntries {H : Type} : List (Lit × DataW H) → Nat
  | [] => 0
  | x :: r => uptoBulkEntry x + uptoBulkEntries r
def uptoBulkEntry {H : Type} : Lit × DataW H → Nat
  | (.string bytes, d) => bytes.length + uptoBulk d + 1
  | (_, d) => uptoBulk d + 1
 end
def uptoSmall : (H : Type) → List (DataW H) → Bool := fun _ ds => decide (uptoBulkAll ds ≤ 1048576)
def OpenSpec.upto (s : _root_.Go.ChangeSpec) : _root_.Go.OpenSpec := { _root_.Go.OpenSpec.ofChange s with cond := some uptoSmall }

/-- 'laws.FnExactKindSpan', WHERE WHAT IT READS IS OF BULK AT MOST 1048576: true; the input reads as it did. -/
def fnExactKindSpanUptoRow : OpenClaim := { program := "ytbgaoidihgpldac", sum := "a687190e05f6bb2dc7898b886718f79b9e6eb71123c568123feb61ea35f99c89", func := "loop.example/gauger/laws.FnExactKindSpan", spec := "fnExactKindSpan", unfollowed := true, recurses := true, apart := false, narrowed := true }
def FnExactKindSpanUptoSaid : Prop := fnExactKindSpanUptoRow.holds Try.pinned (OpenSpec.upto fnExactKindSpanSpec)

/-- 'laws.FnExactSpanMeet', WHERE WHAT IT READS IS OF BULK AT MOST 1048576: true; the input reads as it did. -/
def fnExactSpanMeetUptoRow : OpenClaim := { program := "ytbgaoidihgpldac", sum := "a687190e05f6bb2dc7898b886718f79b9e6eb71123c568123feb61ea35f99c89", func := "loop.example/gauger/laws.FnExactSpanMeet", spec := "fnExactSpanMeet", unfollowed := true, recurses := true, apart := false, narrowed := true }
def FnExactSpanMeetUptoSaid : Prop := fnExactSpanMeetUptoRow.holds Try.pinned (OpenSpec.upto fnExactSpanMeetSpec)

/-- 'laws.FnExactSpanKinds', WHERE WHAT IT READS IS OF BULK AT MOST 1048576: true; the input reads as it did. -/
def fnExactSpanKindsUptoRow : OpenClaim := { program := "ytbgaoidihgpldac", sum := "a687190e05f6bb2dc7898b886718f79b9e6eb71123c568123feb61ea35f99c89", func := "loop.example/gauger/laws.FnExactSpanKinds", spec := "fnExactSpanKinds", apart := false, narrowed := true }
def FnExactSpanKindsUptoSaid : Prop := fnExactSpanKindsUptoRow.holds Try.pinned (OpenSpec.upto fnExactSpanKindsSpec)

/-- 'laws.FnSpanMeet', WHERE WHAT IT READS IS OF BULK AT MOST 1048576: true; the input reads as it did. -/
def fnSpanMeetUptoRow : OpenClaim := { program := "ytbgaoidihgpldac", sum := "a687190e05f6bb2dc7898b886718f79b9e6eb71123c568123feb61ea35f99c89", func := "loop.example/gauger/laws.FnSpanMeet", spec := "fnSpanMeet", unfollowed := true, recurses := true, apart := false, narrowed := true }
def FnSpanMeetUptoSaid : Prop := fnSpanMeetUptoRow.holds Try.pinned (OpenSpec.upto fnSpanMeetSpec)

/-- 'laws.FnSpanLattice', WHERE WHAT IT READS IS OF BULK AT MOST 1048576: true; the input reads as it did. -/
def fnSpanLatticeUptoRow : OpenClaim := { program := "ytbgaoidihgpldac", sum := "a687190e05f6bb2dc7898b886718f79b9e6eb71123c568123feb61ea35f99c89", func := "loop.example/gauger/laws.FnSpanLattice", spec := "fnSpanLattice", unfollowed := true, recurses := true, apart := false, narrowed := true }
def FnSpanLatticeUptoSaid : Prop := fnSpanLatticeUptoRow.holds Try.pinned (OpenSpec.upto fnSpanLatticeSpec)

/-- 'laws.FnSpanKinds', WHERE WHAT IT READS IS OF BULK AT MOST 1048576: true; the input reads as it did. -/
def fnSpanKindsUptoRow : OpenClaim := { program := "ytbgaoidihgpldac", sum := "a687190e05f6bb2dc7898b886718f79b9e6eb71123c568123feb61ea35f99c89", func := "loop.example/gauger/laws.FnSpanKinds", spec := "fnSpanKinds", unfollowed := true, recurses := true, apart := false, narrowed := true }
def FnSpanKindsUptoSaid : Prop := fnSpanKindsUptoRow.holds Try.pinned (OpenSpec.upto fnSpanKindsSpec)

end Rows
end Go.Proofs.Ytbgaoidihgpldac
