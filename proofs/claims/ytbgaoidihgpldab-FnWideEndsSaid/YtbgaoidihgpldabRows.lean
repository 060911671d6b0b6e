/-
  No cell of these rows narrows 'for every input' (looked for: loops, veiled, ifaces, maps, wideKeys, modest, calm, conditions, laid).
  DERIVED. THE GIVEN ROWS OF THIS SEAT. 7 by the template 'for every input the law returns true; each argument reads behind the call as it read before'; 0 by the template 'total and deterministic' (their statements: YtbgaoidihgpldabTotals.lean).
  GIVEN WITH THE SEED: the statements are not yours to turn. If you find one false, say at which input.
  Laid BY PROGRAM, IN A SANDBOX (cutbox-rows.mjs): the forced cells as the released guide's own fill.sh prints them over the translation 3d16c569aba6dffe… (all of the seat's roots in one cut). By AI agents, Wed Nov 11 2026. No macro, syntax, notation, axiom, sorry.
-/
import Derived.Test.YtbgaoidihgpldabChecked
import GoSem.Claim
import GoSem.ClaimJoined
import GoSem.ClaimMapViews
import Derived.JoinedTies
import Derived.KernelRfl
namespace Go.Proofs.Ytbgaoidihgpldab
/- THE CELL 'sum', in the pinned program and in every row, IS THE sha256 OF THE DUMP (.gsa) THAT YtbgaoidihgpldabProg.lean LOADS. Nothing in Lean hashes anything: it is a label: what it is worth is what the hold of that sum in a sandbox is worth. -/
noncomputable def Try.pinned : Pinned := { name := "ytbgaoidihgpldab", sum := "3d16c569aba6dffe8cbeef5f2e5483dddeb3d9138179d842d006c879d36b1a05", checked := Try.checked }
namespace Rows
def none {H : Type} : Left H := { results := [], args := [] }

/-- 'laws.FnSpanOf': WHATEVER THE INPUT: true; the input reads as it did. -/
def fnSpanOfSpec : ChangeSpec := { name := "fnSpanOf", fn := fun _ => fun
  | [d] => { results := [.lit (.bool true)], args := [d] }
  | _ => none }
def fnSpanOfRow : OpenClaim := { program := "ytbgaoidihgpldab", sum := "3d16c569aba6dffe8cbeef5f2e5483dddeb3d9138179d842d006c879d36b1a05", func := "loop.example/gauger/laws.FnSpanOf", spec := "fnSpanOf", apart := false }
def FnSpanOfSaid : Prop := fnSpanOfRow.holds Try.pinned (OpenSpec.ofChange fnSpanOfSpec)

/-- ITS FALSE NEIGHBOUR: 'it returns false'. Refute it at one input. -/
def fnSpanOfWrong : ChangeSpec := { name := "fnSpanOf", fn := fun _ => fun
  | [d] => { results := [.lit (.bool false)], args := [d] }
  | _ => none }
def FnSpanOfWrongFalsely : Prop := fnSpanOfRow.holds Try.pinned (OpenSpec.ofChange fnSpanOfWrong)

/-- 'laws.FnExactSpanJoin': WHATEVER THE INPUT: true; the input reads as it did. -/
def fnExactSpanJoinSpec : ChangeSpec := { name := "fnExactSpanJoin", fn := fun _ => fun
  | [d1, d2] => { results := [.lit (.bool true)], args := [d1, d2] }
  | _ => none }
def fnExactSpanJoinRow : OpenClaim := { program := "ytbgaoidihgpldab", sum := "3d16c569aba6dffe8cbeef5f2e5483dddeb3d9138179d842d006c879d36b1a05", func := "loop.example/gauger/laws.FnExactSpanJoin", spec := "fnExactSpanJoin", apart := false }
def FnExactSpanJoinSaid : Prop := fnExactSpanJoinRow.holds Try.pinned (OpenSpec.ofChange fnExactSpanJoinSpec)

/-- ITS FALSE NEIGHBOUR: 'it returns false'. Refute it at one input. -/
def fnExactSpanJoinWrong : ChangeSpec := { name := "fnExactSpanJoin", fn := fun _ => fun
  | [d1, d2] => { results := [.lit (.bool false)], args := [d1, d2] }
  | _ => none }
def FnExactSpanJoinWrongFalsely : Prop := fnExactSpanJoinRow.holds Try.pinned (OpenSpec.ofChange fnExactSpanJoinWrong)

/-- 'laws.FnSpanIn': WHATEVER THE INPUT: true; the input reads as it did. -/
def fnSpanInSpec : ChangeSpec := { name := "fnSpanIn", fn := fun _ => fun
  | [d] => { results := [.lit (.bool true)], args := [d] }
  | _ => none }
def fnSpanInRow : OpenClaim := { program := "ytbgaoidihgpldab", sum := "3d16c569aba6dffe8cbeef5f2e5483dddeb3d9138179d842d006c879d36b1a05", func := "loop.example/gauger/laws.FnSpanIn", spec := "fnSpanIn", apart := false }
def FnSpanInSaid : Prop := fnSpanInRow.holds Try.pinned (OpenSpec.ofChange fnSpanInSpec)

/-- ITS FALSE NEIGHBOUR: 'it returns false'. Refute it at one input. -/
def fnSpanInWrong : ChangeSpec := { name := "fnSpanIn", fn := fun _ => fun
  | [d] => { results := [.lit (.bool false)], args := [d] }
  | _ => none }
def FnSpanInWrongFalsely : Prop := fnSpanInRow.holds Try.pinned (OpenSpec.ofChange fnSpanInWrong)

/-- 'laws.FnSpanJoin': WHATEVER THE INPUT: true; the input reads as it did. -/
def fnSpanJoinSpec : ChangeSpec := { name := "fnSpanJoin", fn := fun _ => fun
  | [d1, d2] => { results := [.lit (.bool true)], args := [d1, d2] }
  | _ => none }
def fnSpanJoinRow : OpenClaim := { program := "ytbgaoidihgpldab", sum := "3d16c569aba6dffe8cbeef5f2e5483dddeb3d9138179d842d006c879d36b1a05", func := "loop.example/gauger/laws.FnSpanJoin", spec := "fnSpanJoin", apart := false }
def FnSpanJoinSaid : Prop := fnSpanJoinRow.holds Try.pinned (OpenSpec.ofChange fnSpanJoinSpec)

/-- ITS FALSE NEIGHBOUR: 'it returns false'. Refute it at one input. -/
def fnSpanJoinWrong : ChangeSpec := { name := "fnSpanJoin", fn := fun _ => fun
  | [d1, d2] => { results := [.lit (.bool false)], args := [d1, d2] }
  | _ => none }
def FnSpanJoinWrongFalsely : Prop := fnSpanJoinRow.holds Try.pinned (OpenSpec.ofChange fnSpanJoinWrong)

/-- 'laws.FnExactSpanWide': WHATEVER THE INPUT: true; the input reads as it did. -/
def fnExactSpanWideSpec : ChangeSpec := { name := "fnExactSpanWide", fn := fun _ => fun
  | [d1, d2] => { results := [.lit (.bool true)], args := [d1, d2] }
  | _ => none }
def fnExactSpanWideRow : OpenClaim := { program := "ytbgaoidihgpldab", sum := "3d16c569aba6dffe8cbeef5f2e5483dddeb3d9138179d842d006c879d36b1a05", func := "loop.example/gauger/laws.FnExactSpanWide", spec := "fnExactSpanWide", apart := false }
def FnExactSpanWideSaid : Prop := fnExactSpanWideRow.holds Try.pinned (OpenSpec.ofChange fnExactSpanWideSpec)

/-- ITS FALSE NEIGHBOUR: 'it returns false'. Refute it at one input. -/
def fnExactSpanWideWrong : ChangeSpec := { name := "fnExactSpanWide", fn := fun _ => fun
  | [d1, d2] => { results := [.lit (.bool false)], args := [d1, d2] }
  | _ => none }
def FnExactSpanWideWrongFalsely : Prop := fnExactSpanWideRow.holds Try.pinned (OpenSpec.ofChange fnExactSpanWideWrong)

/-- 'laws.FnWideAbove': WHATEVER THE INPUT: true; the input reads as it did. -/
def fnWideAboveSpec : ChangeSpec := { name := "fnWideAbove", fn := fun _ => fun
  | [d] => { results := [.lit (.bool true)], args := [d] }
  | _ => none }
def fnWideAboveRow : OpenClaim := { program := "ytbgaoidihgpldab", sum := "3d16c569aba6dffe8cbeef5f2e5483dddeb3d9138179d842d006c879d36b1a05", func := "loop.example/gauger/laws.FnWideAbove", spec := "fnWideAbove", apart := false }
def FnWideAboveSaid : Prop := fnWideAboveRow.holds Try.pinned (OpenSpec.ofChange fnWideAboveSpec)

/-- ITS FALSE NEIGHBOUR: 'it returns false'. Refute it at one input. -/
def fnWideAboveWrong : ChangeSpec := { name := "fnWideAbove", fn := fun _ => fun
  | [d] => { results := [.lit (.bool false)], args := [d] }
  | _ => none }
def FnWideAboveWrongFalsely : Prop := fnWideAboveRow.holds Try.pinned (OpenSpec.ofChange fnWideAboveWrong)

/-- 'laws.FnWideEnds': WHATEVER THE INPUT: true; the input reads as it did. -/
def fnWideEndsSpec : ChangeSpec := { name := "fnWideEnds", fn := fun _ => fun
  | [d] => { results := [.lit (.bool true)], args := [d] }
  | _ => none }
def fnWideEndsRow : OpenClaim := { program := "ytbgaoidihgpldab", sum := "3d16c569aba6dffe8cbeef5f2e5483dddeb3d9138179d842d006c879d36b1a05", func := "loop.example/gauger/laws.FnWideEnds", spec := "fnWideEnds", apart := false }
def FnWideEndsSaid : Prop := fnWideEndsRow.holds Try.pinned (OpenSpec.ofChange fnWideEndsSpec)

/-- ITS FALSE NEIGHBOUR: 'it returns false'. Refute it at one input. -/
def fnWideEndsWrong : ChangeSpec := { name := "fnWideEnds", fn := fun _ => fun
  | [d] => { results := [.lit (.bool false)], args := [d] }
  | _ => none }
def FnWideEndsWrongFalsely : Prop := fnWideEndsRow.holds Try.pinned (OpenSpec.ofChange fnWideEndsWrong)

/- THE SECOND FORM. 'bulk': how many values and letters a reading holds, each counted each time it is reached (what is shared counts as often as it is met; a slice's spare places count too). A statement '..UptoSaid' is the law's where the arguments, and the package variables that the reading takes, are together of bulk at most 1048576: NARROWER than '..Said'. Prove '..Said' where nothing that the law and all that it calls make is longer than what came in: it says more and counts as full. Else prove '..UptoSaid'. A law counts once. -/
mutual
def uptoBulk {H : Type} : DataW H → Nat
  | .lit (.string bytes) => bytes.length + 1
  | .lit _ => 1
  | .nil => 1
  | .ptr d => uptoBulk d + 1
  | .slice elems spare => uptoBulkAll elems + uptoBulkAll spare + 1
  | .agg parts => uptoBulkAll parts + 1
  | .iface _ d => uptoBulk d + 1
  | .map entries => uptoBulkEntries entries + 1
  | .held _ => 1
def uptoBulkAll {H : Type} : List (DataW H) → Nat
  | [] => 0
  | d :: r => uptoBulk d + uptoBulkAll r
def uptoBulkEntries {H : Type} : List (Lit × DataW H) → Nat
  | [] => 0
  | x :: r => uptoBulkEntry x + uptoBulkEntries r
def uptoBulkEntry {H : Type} : Lit × DataW H → Nat
  | (.string bytes, d) => bytes.length + uptoBulk d + 1
  | (_, d) => uptoBulk d + 1
 end
def uptoSmall : (H : Type) → List (DataW H) → Bool := fun _ ds => decide (uptoBulkAll ds ≤ 1048576)
def OpenSpec.upto (s : _root_.Go.ChangeSpec) : _root_.Go.OpenSpec := { _root_.Go.OpenSpec.ofChange s with cond := some uptoSmall }

/-- 'laws.FnSpanOf', WHERE WHAT IT READS IS OF BULK AT MOST 1048576: true; the input reads as it did. -/
def fnSpanOfUptoRow : OpenClaim := { program := "ytbgaoidihgpldab", sum := "3d16c569aba6dffe8cbeef5f2e5483dddeb3d9138179d842d006c879d36b1a05", func := "loop.example/gauger/laws.FnSpanOf", spec := "fnSpanOf", apart := false, narrowed := true }
def FnSpanOfUptoSaid : Prop := fnSpanOfUptoRow.holds Try.pinned (OpenSpec.upto fnSpanOfSpec)

/-- 'laws.FnExactSpanJoin', WHERE WHAT IT READS IS OF BULK AT MOST 1048576: true; the input reads as it did. -/
def fnExactSpanJoinUptoRow : OpenClaim := { program := "ytbgaoidihgpldab", sum := "3d16c569aba6dffe8cbeef5f2e5483dddeb3d9138179d842d006c879d36b1a05", func := "loop.example/gauger/laws.FnExactSpanJoin", spec := "fnExactSpanJoin", apart := false, narrowed := true }
def FnExactSpanJoinUptoSaid : Prop := fnExactSpanJoinUptoRow.holds Try.pinned (OpenSpec.upto fnExactSpanJoinSpec)

/-- 'laws.FnSpanIn', WHERE WHAT IT READS IS OF BULK AT MOST 1048576: true; the input reads as it did. -/
def fnSpanInUptoRow : OpenClaim := { program := "ytbgaoidihgpldab", sum := "3d16c569aba6dffe8cbeef5f2e5483dddeb3d9138179d842d006c879d36b1a05", func := "loop.example/gauger/laws.FnSpanIn", spec := "fnSpanIn", apart := false, narrowed := true }
def FnSpanInUptoSaid : Prop := fnSpanInUptoRow.holds Try.pinned (OpenSpec.upto fnSpanInSpec)

/-- 'laws.FnSpanJoin', WHERE WHAT IT READS IS OF BULK AT MOST 1048576: true; the input reads as it did. -/
def fnSpanJoinUptoRow : OpenClaim := { program := "ytbgaoidihgpldab", sum := "3d16c569aba6dffe8cbeef5f2e5483dddeb3d9138179d842d006c879d36b1a05", func := "loop.example/gauger/laws.FnSpanJoin", spec := "fnSpanJoin", apart := false, narrowed := true }
def FnSpanJoinUptoSaid : Prop := fnSpanJoinUptoRow.holds Try.pinned (OpenSpec.upto fnSpanJoinSpec)

/-- 'laws.FnExactSpanWide', WHERE WHAT IT READS IS OF BULK AT MOST 1048576: true; the input reads as it did. -/
def fnExactSpanWideUptoRow : OpenClaim := { program := "ytbgaoidihgpldab", sum := "3d16c569aba6dffe8cbeef5f2e5483dddeb3d9138179d842d006c879d36b1a05", func := "loop.example/gauger/laws.FnExactSpanWide", spec := "fnExactSpanWide", apart := false, narrowed := true }
def FnExactSpanWideUptoSaid : Prop := fnExactSpanWideUptoRow.holds Try.pinned (OpenSpec.upto fnExactSpanWideSpec)

/-- 'laws.FnWideAbove', WHERE WHAT IT READS IS OF BULK AT MOST 1048576: true; the input reads as it did. -/
def fnWideAboveUptoRow : OpenClaim := { program := "ytbgaoidihgpldab", sum := "3d16c569aba6dffe8cbeef5f2e5483dddeb3d9138179d842d006c879d36b1a05", func := "loop.example/gauger/laws.FnWideAbove", spec := "fnWideAbove", apart := false, narrowed := true }
def FnWideAboveUptoSaid : Prop := fnWideAboveUptoRow.holds Try.pinned (OpenSpec.upto fnWideAboveSpec)

/-- 'laws.FnWideEnds', WHERE WHAT IT READS IS OF BULK AT MOST 1048576: true; the input reads as it did. -/
def fnWideEndsUptoRow : OpenClaim := { program := "ytbgaoidihgpldab", sum := "3d16c569aba6dffe8cbeef5f2e5483dddeb3d9138179d842d006c879d36b1a05", func := "loop.example/gauger/laws.FnWideEnds", spec := "fnWideEnds", apart := false, narrowed := true }
def FnWideEndsUptoSaid : Prop := fnWideEndsUptoRow.holds Try.pinned (OpenSpec.upto fnWideEndsSpec)

end Rows
end Go.Proofs.Ytbgaoidihgpldab
