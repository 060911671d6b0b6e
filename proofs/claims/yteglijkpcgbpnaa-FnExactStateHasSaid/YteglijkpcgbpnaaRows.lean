/-
  No cell of these rows narrows 'for every input' (looked for: loops, veiled, ifaces, maps, wideKeys, modest, calm, conditions, laid).
  DERIVED. THE GIVEN ROWS OF THIS SEAT. 12 by the template 'for every input the law returns true; each argument reads behind the call as it read before'; 0 by the template 'total and deterministic' (their statements: YteglijkpcgbpnaaTotals.lean).
  GIVEN WITH THE SEED: the statements are not yours to turn. If you find one false, say at which input.
  Laid BY PROGRAM, IN A SANDBOX (cutbox-rows.mjs): the forced cells as the released guide's own fill.sh prints them over the translation 67a0bf552b35fc0e… (all of the seat's roots in one cut). By AI agents, Wed Nov 11 2026. No macro, syntax, notation, axiom, sorry.
-/
import Derived.Test.YteglijkpcgbpnaaChecked
import GoSem.Claim
import GoSem.ClaimJoined
import GoSem.ClaimMapViews
import Derived.JoinedTies
import Derived.KernelRfl
namespace Go.Proofs.Yteglijkpcgbpnaa
/- THE CELL 'sum', in the pinned program and in every row, IS THE sha256 OF THE DUMP (.gsa) THAT YteglijkpcgbpnaaProg.lean LOADS. Nothing in Lean hashes anything: it is a label: what it is worth is what the hold of that sum in a sandbox is worth. -/
noncomputable def Try.pinned : Pinned := { name := "yteglijkpcgbpnaa", sum := "67a0bf552b35fc0e021ec22d63757d592f79db9d76f8b6d3890695b198c5a786", checked := Try.checked }
namespace Rows
def none {H : Type} : Left H := { results := [], args := [] }

/-- 'laws.FnExactStateOk': WHATEVER THE INPUT: true; the input reads as it did. -/
def fnExactStateOkSpec : ChangeSpec := { name := "fnExactStateOk", fn := fun _ => fun
  | [d] => { results := [.lit (.bool true)], args := [d] }
  | _ => none }
def fnExactStateOkRow : OpenClaim := { program := "yteglijkpcgbpnaa", sum := "67a0bf552b35fc0e021ec22d63757d592f79db9d76f8b6d3890695b198c5a786", func := "loop.example/gauger/laws.FnExactStateOk", spec := "fnExactStateOk", unfollowed := true, recurses := true, apart := false }
def FnExactStateOkSaid : Prop := fnExactStateOkRow.holds Try.pinned (OpenSpec.ofChange fnExactStateOkSpec)

/-- ITS FALSE NEIGHBOUR: 'it returns false'. Refute it at one input. -/
def fnExactStateOkWrong : ChangeSpec := { name := "fnExactStateOk", fn := fun _ => fun
  | [d] => { results := [.lit (.bool false)], args := [d] }
  | _ => none }
def FnExactStateOkWrongFalsely : Prop := fnExactStateOkRow.holds Try.pinned (OpenSpec.ofChange fnExactStateOkWrong)

/-- 'laws.FnExactStateIn': WHATEVER THE INPUT: true; the input reads as it did. -/
def fnExactStateInSpec : ChangeSpec := { name := "fnExactStateIn", fn := fun _ => fun
  | [d1, d2] => { results := [.lit (.bool true)], args := [d1, d2] }
  | _ => none }
def fnExactStateInRow : OpenClaim := { program := "yteglijkpcgbpnaa", sum := "67a0bf552b35fc0e021ec22d63757d592f79db9d76f8b6d3890695b198c5a786", func := "loop.example/gauger/laws.FnExactStateIn", spec := "fnExactStateIn", unfollowed := true, recurses := true, apart := false }
def FnExactStateInSaid : Prop := fnExactStateInRow.holds Try.pinned (OpenSpec.ofChange fnExactStateInSpec)

/-- ITS FALSE NEIGHBOUR: 'it returns false'. Refute it at one input. -/
def fnExactStateInWrong : ChangeSpec := { name := "fnExactStateIn", fn := fun _ => fun
  | [d1, d2] => { results := [.lit (.bool false)], args := [d1, d2] }
  | _ => none }
def FnExactStateInWrongFalsely : Prop := fnExactStateInRow.holds Try.pinned (OpenSpec.ofChange fnExactStateInWrong)

/-- 'laws.FnExactStateHas': WHATEVER THE INPUT: true; the input reads as it did. -/
def fnExactStateHasSpec : ChangeSpec := { name := "fnExactStateHas", fn := fun _ => fun
  | [d1, d2, d3] => { results := [.lit (.bool true)], args := [d1, d2, d3] }
  | _ => none }
def fnExactStateHasRow : OpenClaim := { program := "yteglijkpcgbpnaa", sum := "67a0bf552b35fc0e021ec22d63757d592f79db9d76f8b6d3890695b198c5a786", func := "loop.example/gauger/laws.FnExactStateHas", spec := "fnExactStateHas", unfollowed := true, recurses := true, apart := false }
def FnExactStateHasSaid : Prop := fnExactStateHasRow.holds Try.pinned (OpenSpec.ofChange fnExactStateHasSpec)

/-- ITS FALSE NEIGHBOUR: 'it returns false'. Refute it at one input. -/
def fnExactStateHasWrong : ChangeSpec := { name := "fnExactStateHas", fn := fun _ => fun
  | [d1, d2, d3] => { results := [.lit (.bool false)], args := [d1, d2, d3] }
  | _ => none }
def FnExactStateHasWrongFalsely : Prop := fnExactStateHasRow.holds Try.pinned (OpenSpec.ofChange fnExactStateHasWrong)

/-- 'laws.FnStateHas': WHATEVER THE INPUT: true; the input reads as it did. -/
def fnStateHasSpec : ChangeSpec := { name := "fnStateHas", fn := fun _ => fun
  | [d] => { results := [.lit (.bool true)], args := [d] }
  | _ => none }
def fnStateHasRow : OpenClaim := { program := "yteglijkpcgbpnaa", sum := "67a0bf552b35fc0e021ec22d63757d592f79db9d76f8b6d3890695b198c5a786", func := "loop.example/gauger/laws.FnStateHas", spec := "fnStateHas", unfollowed := true, recurses := true, apart := false }
def FnStateHasSaid : Prop := fnStateHasRow.holds Try.pinned (OpenSpec.ofChange fnStateHasSpec)

/-- ITS FALSE NEIGHBOUR: 'it returns false'. Refute it at one input. -/
def fnStateHasWrong : ChangeSpec := { name := "fnStateHas", fn := fun _ => fun
  | [d] => { results := [.lit (.bool false)], args := [d] }
  | _ => none }
def FnStateHasWrongFalsely : Prop := fnStateHasRow.holds Try.pinned (OpenSpec.ofChange fnStateHasWrong)

/-- 'laws.FnStateEntry': WHATEVER THE INPUT: true; the input reads as it did. -/
def fnStateEntrySpec : ChangeSpec := { name := "fnStateEntry", fn := fun _ => fun
  | [d] => { results := [.lit (.bool true)], args := [d] }
  | _ => none }
def fnStateEntryRow : OpenClaim := { program := "yteglijkpcgbpnaa", sum := "67a0bf552b35fc0e021ec22d63757d592f79db9d76f8b6d3890695b198c5a786", func := "loop.example/gauger/laws.FnStateEntry", spec := "fnStateEntry", unfollowed := true, recurses := true, apart := false }
def FnStateEntrySaid : Prop := fnStateEntryRow.holds Try.pinned (OpenSpec.ofChange fnStateEntrySpec)

/-- ITS FALSE NEIGHBOUR: 'it returns false'. Refute it at one input. -/
def fnStateEntryWrong : ChangeSpec := { name := "fnStateEntry", fn := fun _ => fun
  | [d] => { results := [.lit (.bool false)], args := [d] }
  | _ => none }
def FnStateEntryWrongFalsely : Prop := fnStateEntryRow.holds Try.pinned (OpenSpec.ofChange fnStateEntryWrong)

/-- 'laws.FnExactStateEntry': WHATEVER THE INPUT: true; the input reads as it did. -/
def fnExactStateEntrySpec : ChangeSpec := { name := "fnExactStateEntry", fn := fun _ => fun
  | [d] => { results := [.lit (.bool true)], args := [d] }
  | _ => none }
def fnExactStateEntryRow : OpenClaim := { program := "yteglijkpcgbpnaa", sum := "67a0bf552b35fc0e021ec22d63757d592f79db9d76f8b6d3890695b198c5a786", func := "loop.example/gauger/laws.FnExactStateEntry", spec := "fnExactStateEntry", unfollowed := true, recurses := true, apart := false }
def FnExactStateEntrySaid : Prop := fnExactStateEntryRow.holds Try.pinned (OpenSpec.ofChange fnExactStateEntrySpec)

/-- ITS FALSE NEIGHBOUR: 'it returns false'. Refute it at one input. -/
def fnExactStateEntryWrong : ChangeSpec := { name := "fnExactStateEntry", fn := fun _ => fun
  | [d] => { results := [.lit (.bool false)], args := [d] }
  | _ => none }
def FnExactStateEntryWrongFalsely : Prop := fnExactStateEntryRow.holds Try.pinned (OpenSpec.ofChange fnExactStateEntryWrong)

/-- 'laws.FnStateOrder': WHATEVER THE INPUT: true; the input reads as it did. -/
def fnStateOrderSpec : ChangeSpec := { name := "fnStateOrder", fn := fun _ => fun
  | [d1, d2] => { results := [.lit (.bool true)], args := [d1, d2] }
  | _ => none }
def fnStateOrderRow : OpenClaim := { program := "yteglijkpcgbpnaa", sum := "67a0bf552b35fc0e021ec22d63757d592f79db9d76f8b6d3890695b198c5a786", func := "loop.example/gauger/laws.FnStateOrder", spec := "fnStateOrder", unfollowed := true, recurses := true, apart := false }
def FnStateOrderSaid : Prop := fnStateOrderRow.holds Try.pinned (OpenSpec.ofChange fnStateOrderSpec)

/-- ITS FALSE NEIGHBOUR: 'it returns false'. Refute it at one input. -/
def fnStateOrderWrong : ChangeSpec := { name := "fnStateOrder", fn := fun _ => fun
  | [d1, d2] => { results := [.lit (.bool false)], args := [d1, d2] }
  | _ => none }
def FnStateOrderWrongFalsely : Prop := fnStateOrderRow.holds Try.pinned (OpenSpec.ofChange fnStateOrderWrong)

/-- 'laws.FnStateJoin': WHATEVER THE INPUT: true; the input reads as it did. -/
def fnStateJoinSpec : ChangeSpec := { name := "fnStateJoin", fn := fun _ => fun
  | [d1, d2] => { results := [.lit (.bool true)], args := [d1, d2] }
  | _ => none }
def fnStateJoinRow : OpenClaim := { program := "yteglijkpcgbpnaa", sum := "67a0bf552b35fc0e021ec22d63757d592f79db9d76f8b6d3890695b198c5a786", func := "loop.example/gauger/laws.FnStateJoin", spec := "fnStateJoin", unfollowed := true, recurses := true, apart := false }
def FnStateJoinSaid : Prop := fnStateJoinRow.holds Try.pinned (OpenSpec.ofChange fnStateJoinSpec)

/-- ITS FALSE NEIGHBOUR: 'it returns false'. Refute it at one input. -/
def fnStateJoinWrong : ChangeSpec := { name := "fnStateJoin", fn := fun _ => fun
  | [d1, d2] => { results := [.lit (.bool false)], args := [d1, d2] }
  | _ => none }
def FnStateJoinWrongFalsely : Prop := fnStateJoinRow.holds Try.pinned (OpenSpec.ofChange fnStateJoinWrong)

/-- 'laws.FnExactStateJoin': WHATEVER THE INPUT: true; the input reads as it did. -/
def fnExactStateJoinSpec : ChangeSpec := { name := "fnExactStateJoin", fn := fun _ => fun
  | [d1, d2] => { results := [.lit (.bool true)], args := [d1, d2] }
  | _ => none }
def fnExactStateJoinRow : OpenClaim := { program := "yteglijkpcgbpnaa", sum := "67a0bf552b35fc0e021ec22d63757d592f79db9d76f8b6d3890695b198c5a786", func := "loop.example/gauger/laws.FnExactStateJoin", spec := "fnExactStateJoin", unfollowed := true, recurses := true, apart := false }
def FnExactStateJoinSaid : Prop := fnExactStateJoinRow.holds Try.pinned (OpenSpec.ofChange fnExactStateJoinSpec)

/-- ITS FALSE NEIGHBOUR: 'it returns false'. Refute it at one input. -/
def fnExactStateJoinWrong : ChangeSpec := { name := "fnExactStateJoin", fn := fun _ => fun
  | [d1, d2] => { results := [.lit (.bool false)], args := [d1, d2] }
  | _ => none }
def FnExactStateJoinWrongFalsely : Prop := fnExactStateJoinRow.holds Try.pinned (OpenSpec.ofChange fnExactStateJoinWrong)

/-- 'laws.FnStateWide': WHATEVER THE INPUT: true; the input reads as it did. -/
def fnStateWideSpec : ChangeSpec := { name := "fnStateWide", fn := fun _ => fun
  | [d] => { results := [.lit (.bool true)], args := [d] }
  | _ => none }
def fnStateWideRow : OpenClaim := { program := "yteglijkpcgbpnaa", sum := "67a0bf552b35fc0e021ec22d63757d592f79db9d76f8b6d3890695b198c5a786", func := "loop.example/gauger/laws.FnStateWide", spec := "fnStateWide", unfollowed := true, recurses := true, apart := false }
def FnStateWideSaid : Prop := fnStateWideRow.holds Try.pinned (OpenSpec.ofChange fnStateWideSpec)

/-- ITS FALSE NEIGHBOUR: 'it returns false'. Refute it at one input. -/
def fnStateWideWrong : ChangeSpec := { name := "fnStateWide", fn := fun _ => fun
  | [d] => { results := [.lit (.bool false)], args := [d] }
  | _ => none }
def FnStateWideWrongFalsely : Prop := fnStateWideRow.holds Try.pinned (OpenSpec.ofChange fnStateWideWrong)

/-- 'laws.FnExactStateWide': WHATEVER THE INPUT: true; the input reads as it did. -/
def fnExactStateWideSpec : ChangeSpec := { name := "fnExactStateWide", fn := fun _ => fun
  | [d1, d2] => { results := [.lit (.bool true)], args := [d1, d2] }
  | _ => none }
def fnExactStateWideRow : OpenClaim := { program := "yteglijkpcgbpnaa", sum := "67a0bf552b35fc0e021ec22d63757d592f79db9d76f8b6d3890695b198c5a786", func := "loop.example/gauger/laws.FnExactStateWide", spec := "fnExactStateWide", unfollowed := true, recurses := true, apart := false }
def FnExactStateWideSaid : Prop := fnExactStateWideRow.holds Try.pinned (OpenSpec.ofChange fnExactStateWideSpec)

/-- ITS FALSE NEIGHBOUR: 'it returns false'. Refute it at one input. -/
def fnExactStateWideWrong : ChangeSpec := { name := "fnExactStateWide", fn := fun _ => fun
  | [d1, d2] => { results := [.lit (.bool false)], args := [d1, d2] }
  | _ => none }
def FnExactStateWideWrongFalsely : Prop := fnExactStateWideRow.holds Try.pinned (OpenSpec.ofChange fnExactStateWideWrong)

/-- 'laws.FnStateIn': WHATEVER THE INPUT: true; the input reads as it did. -/
def fnStateInSpec : ChangeSpec := { name := "fnStateIn", fn := fun _ => fun
  | [d1, d2] => { results := [.lit (.bool true)], args := [d1, d2] }
  | _ => none }
def fnStateInRow : OpenClaim := { program := "yteglijkpcgbpnaa", sum := "67a0bf552b35fc0e021ec22d63757d592f79db9d76f8b6d3890695b198c5a786", func := "loop.example/gauger/laws.FnStateIn", spec := "fnStateIn", unfollowed := true, recurses := true, apart := false }
def FnStateInSaid : Prop := fnStateInRow.holds Try.pinned (OpenSpec.ofChange fnStateInSpec)

/-- ITS FALSE NEIGHBOUR: 'it returns false'. Refute it at one input. -/
def fnStateInWrong : ChangeSpec := { name := "fnStateIn", fn := fun _ => fun
  | [d1, d2] => { results := [.lit (.bool false)], args := [d1, d2] }
  | _ => none }
def FnStateInWrongFalsely : Prop := fnStateInRow.holds Try.pinned (OpenSpec.ofChange fnStateInWrong)

/- THE SECOND FORM. 'bulk': how many values and letters a reading holds, each counted each time it is reached (what is shared counts as often as it is met; a slice's spare places count too). A statement '..UptoSaid' is the law's where the arguments, and the package variables that the reading takes, are together of bulk at most 1048576: NARROWER than '..Said'. Prove '..Said' where nothing that the law and all that it calls make is longer than what came in: it says more and counts as full. Else prove '..UptoSaid'. A law counts once. -/
mutual
def uptoBulk {H : Type} : DataW H → Nat
  | .lit (.string bytes) => bytes.length + 1
  | .lit _ => 1
  | .nil => 1
  | .ptr d => uptoBulk d + 1
  | .slice elems spare => uptoBulkAll elems + uptoBulkAll spare + 1
  | .agg parts => uptoBulkAll parts + 1
  | .iface _ d => uptoBulk d + 1
  | .map entries => uptoBulkEntries entries + 1
  | .held _ => 1
def uptoBulkAll {H : Type} : List (DataW H) → Nat
  | [] => 0
  | d :: r => uptoBulk d + uptoBulkAll r
def uptoBulkEntries {H : Type} : List (Lit × DataW H) → Nat
  | [] => 0
  | x :: r => uptoBulkEntry x + uptoBulkEntries r
def uptoBulkEntry {H : Type} : Lit × DataW H → Nat
  | (.string bytes, d) => bytes.length + uptoBulk d + 1
  | (_, d) => uptoBulk d + 1
 end
def uptoSmall : (H : Type) → List (DataW H) → Bool := fun _ ds => decide (uptoBulkAll ds ≤ 1048576)
def OpenSpec.upto (s : _root_.Go.ChangeSpec) : _root_.Go.OpenSpec := { _root_.Go.OpenSpec.ofChange s with cond := some uptoSmall }

/-- 'laws.FnExactStateOk', WHERE WHAT IT READS IS OF BULK AT MOST 1048576: true; the input reads as it did. -/
def fnExactStateOkUptoRow : OpenClaim := { program := "yteglijkpcgbpnaa", sum := "67a0bf552b35fc0e021ec22d63757d592f79db9d76f8b6d3890695b198c5a786", func := "loop.example/gauger/laws.FnExactStateOk", spec := "fnExactStateOk", unfollowed := true, recurses := true, apart := false, narrowed := true }
def FnExactStateOkUptoSaid : Prop := fnExactStateOkUptoRow.holds Try.pinned (OpenSpec.upto fnExactStateOkSpec)

/-- 'laws.FnExactStateIn', WHERE WHAT IT READS IS OF BULK AT MOST 1048576: true; the input reads as it did. -/
def fnExactStateInUptoRow : OpenClaim := { program := "yteglijkpcgbpnaa", sum := "67a0bf552b35fc0e021ec22d63757d592f79db9d76f8b6d3890695b198c5a786", func := "loop.example/gauger/laws.FnExactStateIn", spec := "fnExactStateIn", unfollowed := true, recurses := true, apart := false, narrowed := true }
def FnExactStateInUptoSaid : Prop := fnExactStateInUptoRow.holds Try.pinned (OpenSpec.upto fnExactStateInSpec)

/-- 'laws.FnExactStateHas', WHERE WHAT IT READS IS OF BULK AT MOST 1048576: true; the input reads as it did. -/
def fnExactStateHasUptoRow : OpenClaim := { program := "yteglijkpcgbpnaa", sum := "67a0bf552b35fc0e021ec22d63757d592f79db9d76f8b6d3890695b198c5a786", func := "loop.example/gauger/laws.FnExactStateHas", spec := "fnExactStateHas", unfollowed := true, recurses := true, apart := false, narrowed := true }
def FnExactStateHasUptoSaid : Prop := fnExactStateHasUptoRow.holds Try.pinned (OpenSpec.upto fnExactStateHasSpec)

/-- 'laws.FnStateHas', WHERE WHAT IT READS IS OF BULK AT MOST 1048576: true; the input reads as it did. -/
def fnStateHasUptoRow : OpenClaim := { program := "yteglijkpcgbpnaa", sum := "67a0bf552b35fc0e021ec22d63757d592f79db9d76f8b6d3890695b198c5a786", func := "loop.example/gauger/laws.FnStateHas", spec := "fnStateHas", unfollowed := true, recurses := true, apart := false, narrowed := true }
def FnStateHasUptoSaid : Prop := fnStateHasUptoRow.holds Try.pinned (OpenSpec.upto fnStateHasSpec)

/-- 'laws.FnStateEntry', WHERE WHAT IT READS IS OF BULK AT MOST 1048576: true; the input reads as it did. -/
def fnStateEntryUptoRow : OpenClaim := { program := "yteglijkpcgbpnaa", sum := "67a0bf552b35fc0e021ec22d63757d592f79db9d76f8b6d3890695b198c5a786", func := "loop.example/gauger/laws.FnStateEntry", spec := "fnStateEntry", unfollowed := true, recurses := true, apart := false, narrowed := true }
def FnStateEntryUptoSaid : Prop := fnStateEntryUptoRow.holds Try.pinned (OpenSpec.upto fnStateEntrySpec)

/-- 'laws.FnExactStateEntry', WHERE WHAT IT READS IS OF BULK AT MOST 1048576: true; the input reads as it did. -/
def fnExactStateEntryUptoRow : OpenClaim := { program := "yteglijkpcgbpnaa", sum := "67a0bf552b35fc0e021ec22d63757d592f79db9d76f8b6d3890695b198c5a786", func := "loop.example/gauger/laws.FnExactStateEntry", spec := "fnExactStateEntry", unfollowed := true, recurses := true, apart := false, narrowed := true }
def FnExactStateEntryUptoSaid : Prop := fnExactStateEntryUptoRow.holds Try.pinned (OpenSpec.upto fnExactStateEntrySpec)

/-- 'laws.FnStateOrder', WHERE WHAT IT READS IS OF BULK AT MOST 1048576: true; the input reads as it did. -/
def fnStateOrderUptoRow : OpenClaim := { program := "yteglijkpcgbpnaa", sum := "67a0bf552b35fc0e021ec22d63757d592f79db9d76f8b6d3890695b198c5a786", func := "loop.example/gauger/laws.FnStateOrder", spec := "fnStateOrder", unfollowed := true, recurses := true, apart := false, narrowed := true }
def FnStateOrderUptoSaid : Prop := fnStateOrderUptoRow.holds Try.pinned (OpenSpec.upto fnStateOrderSpec)

/-- 'laws.FnStateJoin', WHERE WHAT IT READS IS OF BULK AT MOST 1048576: true; the input reads as it did. -/
def fnStateJoinUptoRow : OpenClaim := { program := "yteglijkpcgbpnaa", sum := "67a0bf552b35fc0e021ec22d63757d592f79db9d76f8b6d3890695b198c5a786", func := "loop.example/gauger/laws.FnStateJoin", spec := "fnStateJoin", unfollowed := true, recurses := true, apart := false, narrowed := true }
def FnStateJoinUptoSaid : Prop := fnStateJoinUptoRow.holds Try.pinned (OpenSpec.upto fnStateJoinSpec)

/-- 'laws.FnExactStateJoin', WHERE WHAT IT READS IS OF BULK AT MOST 1048576: true; the input reads as it did. -/
def fnExactStateJoinUptoRow : OpenClaim := { program := "yteglijkpcgbpnaa", sum := "67a0bf552b35fc0e021ec22d63757d592f79db9d76f8b6d3890695b198c5a786", func := "loop.example/gauger/laws.FnExactStateJoin", spec := "fnExactStateJoin", unfollowed := true, recurses := true, apart := false, narrowed := true }
def FnExactStateJoinUptoSaid : Prop := fnExactStateJoinUptoRow.holds Try.pinned (OpenSpec.upto fnExactStateJoinSpec)

/-- 'laws.FnStateWide', WHERE WHAT IT READS IS OF BULK AT MOST 1048576: true; the input reads as it did. -/
def fnStateWideUptoRow : OpenClaim := { program := "yteglijkpcgbpnaa", sum := "67a0bf552b35fc0e021ec22d63757d592f79db9d76f8b6d3890695b198c5a786", func := "loop.example/gauger/laws.FnStateWide", spec := "fnStateWide", unfollowed := true, recurses := true, apart := false, narrowed := true }
def FnStateWideUptoSaid : Prop := fnStateWideUptoRow.holds Try.pinned (OpenSpec.upto fnStateWideSpec)

/-- 'laws.FnExactStateWide', WHERE WHAT IT READS IS OF BULK AT MOST 1048576: true; the input reads as it did. -/
def fnExactStateWideUptoRow : OpenClaim := { program := "yteglijkpcgbpnaa", sum := "67a0bf552b35fc0e021ec22d63757d592f79db9d76f8b6d3890695b198c5a786", func := "loop.example/gauger/laws.FnExactStateWide", spec := "fnExactStateWide", unfollowed := true, recurses := true, apart := false, narrowed := true }
def FnExactStateWideUptoSaid : Prop := fnExactStateWideUptoRow.holds Try.pinned (OpenSpec.upto fnExactStateWideSpec)

/-- 'laws.FnStateIn', WHERE WHAT IT READS IS OF BULK AT MOST 1048576: true; the input reads as it did. -/
def fnStateInUptoRow : OpenClaim := { program := "yteglijkpcgbpnaa", sum := "67a0bf552b35fc0e021ec22d63757d592f79db9d76f8b6d3890695b198c5a786", func := "loop.example/gauger/laws.FnStateIn", spec := "fnStateIn", unfollowed := true, recurses := true, apart := false, narrowed := true }
def FnStateInUptoSaid : Prop := fnStateInUptoRow.holds Try.pinned (OpenSpec.upto fnStateInSpec)

end Rows
end Go.Proofs.Yteglijkpcgbpnaa
