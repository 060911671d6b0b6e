/-
  No cell of these rows narrows 'for every input' (looked for: loops, veiled, ifaces, maps, wideKeys, modest, calm, conditions, laid).
  DERIVED. THE GIVEN ROWS OF THIS SEAT. 7 by the template 'for every input the law returns true; each argument reads behind the call as it read before'; 0 by the template 'total and deterministic' (their statements: YtbgaoidihgpldaaTotals.lean).
  GIVEN WITH THE SEED: the statements are not yours to turn. If you find one false, say at which input.
  Laid BY PROGRAM, IN A SANDBOX (cutbox-rows.mjs): the forced cells as the released guide's own fill.sh prints them over the translation 6e85c104f032a0d5… (all of the seat's roots in one cut). By AI agents, Wed Nov 11 2026. No macro, syntax, notation, axiom, sorry.
-/
import Derived.Test.YtbgaoidihgpldaaChecked
import GoSem.Claim
import GoSem.ClaimJoined
import GoSem.ClaimMapViews
import Derived.JoinedTies
import Derived.KernelRfl
namespace Go.Proofs.Ytbgaoidihgpldaa
/- THE CELL 'sum', in the pinned program and in every row, IS THE sha256 OF THE DUMP (.gsa) THAT YtbgaoidihgpldaaProg.lean LOADS. Nothing in Lean hashes anything: it is a label: what it is worth is what the hold of that sum in a sandbox is worth. -/
noncomputable def Try.pinned : Pinned := { name := "ytbgaoidihgpldaa", sum := "6e85c104f032a0d5c04ddc611daab16c431e7d874ec11a15b5429ff337acc153", checked := Try.checked }
namespace Rows
def none {H : Type} : Left H := { results := [], args := [] }

/-- 'laws.FnExactConstants': WHATEVER THE INPUT: true; the input reads as it did. -/
def fnExactConstantsSpec : ChangeSpec := { name := "fnExactConstants", fn := fun _ => fun
  | [] => { results := [.lit (.bool true)], args := [] }
  | _ => none }
def fnExactConstantsRow : OpenClaim := { program := "ytbgaoidihgpldaa", sum := "6e85c104f032a0d5c04ddc611daab16c431e7d874ec11a15b5429ff337acc153", func := "loop.example/gauger/laws.FnExactConstants", spec := "fnExactConstants", apart := false }
def FnExactConstantsSaid : Prop := fnExactConstantsRow.holds Try.pinned (OpenSpec.ofChange fnExactConstantsSpec)

/-- ITS FALSE NEIGHBOUR: 'it returns false'. Refute it at one input. -/
def fnExactConstantsWrong : ChangeSpec := { name := "fnExactConstants", fn := fun _ => fun
  | [] => { results := [.lit (.bool false)], args := [] }
  | _ => none }
def FnExactConstantsWrongFalsely : Prop := fnExactConstantsRow.holds Try.pinned (OpenSpec.ofChange fnExactConstantsWrong)

/-- 'laws.FnExactNumWrap': WHATEVER THE INPUT: true; the input reads as it did. -/
def fnExactNumWrapSpec : ChangeSpec := { name := "fnExactNumWrap", fn := fun _ => fun
  | [d] => { results := [.lit (.bool true)], args := [d] }
  | _ => none }
def fnExactNumWrapRow : OpenClaim := { program := "ytbgaoidihgpldaa", sum := "6e85c104f032a0d5c04ddc611daab16c431e7d874ec11a15b5429ff337acc153", func := "loop.example/gauger/laws.FnExactNumWrap", spec := "fnExactNumWrap", apart := false }
def FnExactNumWrapSaid : Prop := fnExactNumWrapRow.holds Try.pinned (OpenSpec.ofChange fnExactNumWrapSpec)

/-- ITS FALSE NEIGHBOUR: 'it returns false'. Refute it at one input. -/
def fnExactNumWrapWrong : ChangeSpec := { name := "fnExactNumWrap", fn := fun _ => fun
  | [d] => { results := [.lit (.bool false)], args := [d] }
  | _ => none }
def FnExactNumWrapWrongFalsely : Prop := fnExactNumWrapRow.holds Try.pinned (OpenSpec.ofChange fnExactNumWrapWrong)

/-- 'laws.FnExactSpanOk': WHATEVER THE INPUT: true; the input reads as it did. -/
def fnExactSpanOkSpec : ChangeSpec := { name := "fnExactSpanOk", fn := fun _ => fun
  | [d] => { results := [.lit (.bool true)], args := [d] }
  | _ => none }
def fnExactSpanOkRow : OpenClaim := { program := "ytbgaoidihgpldaa", sum := "6e85c104f032a0d5c04ddc611daab16c431e7d874ec11a15b5429ff337acc153", func := "loop.example/gauger/laws.FnExactSpanOk", spec := "fnExactSpanOk", apart := false }
def FnExactSpanOkSaid : Prop := fnExactSpanOkRow.holds Try.pinned (OpenSpec.ofChange fnExactSpanOkSpec)

/-- ITS FALSE NEIGHBOUR: 'it returns false'. Refute it at one input. -/
def fnExactSpanOkWrong : ChangeSpec := { name := "fnExactSpanOk", fn := fun _ => fun
  | [d] => { results := [.lit (.bool false)], args := [d] }
  | _ => none }
def FnExactSpanOkWrongFalsely : Prop := fnExactSpanOkRow.holds Try.pinned (OpenSpec.ofChange fnExactSpanOkWrong)

/-- 'laws.FnExactSpanHas': WHATEVER THE INPUT: true; the input reads as it did. -/
def fnExactSpanHasSpec : ChangeSpec := { name := "fnExactSpanHas", fn := fun _ => fun
  | [d1, d2] => { results := [.lit (.bool true)], args := [d1, d2] }
  | _ => none }
def fnExactSpanHasRow : OpenClaim := { program := "ytbgaoidihgpldaa", sum := "6e85c104f032a0d5c04ddc611daab16c431e7d874ec11a15b5429ff337acc153", func := "loop.example/gauger/laws.FnExactSpanHas", spec := "fnExactSpanHas", apart := false }
def FnExactSpanHasSaid : Prop := fnExactSpanHasRow.holds Try.pinned (OpenSpec.ofChange fnExactSpanHasSpec)

/-- ITS FALSE NEIGHBOUR: 'it returns false'. Refute it at one input. -/
def fnExactSpanHasWrong : ChangeSpec := { name := "fnExactSpanHas", fn := fun _ => fun
  | [d1, d2] => { results := [.lit (.bool false)], args := [d1, d2] }
  | _ => none }
def FnExactSpanHasWrongFalsely : Prop := fnExactSpanHasRow.holds Try.pinned (OpenSpec.ofChange fnExactSpanHasWrong)

/-- 'laws.FnExactSpanIn': WHATEVER THE INPUT: true; the input reads as it did. -/
def fnExactSpanInSpec : ChangeSpec := { name := "fnExactSpanIn", fn := fun _ => fun
  | [d1, d2] => { results := [.lit (.bool true)], args := [d1, d2] }
  | _ => none }
def fnExactSpanInRow : OpenClaim := { program := "ytbgaoidihgpldaa", sum := "6e85c104f032a0d5c04ddc611daab16c431e7d874ec11a15b5429ff337acc153", func := "loop.example/gauger/laws.FnExactSpanIn", spec := "fnExactSpanIn", apart := false }
def FnExactSpanInSaid : Prop := fnExactSpanInRow.holds Try.pinned (OpenSpec.ofChange fnExactSpanInSpec)

/-- ITS FALSE NEIGHBOUR: 'it returns false'. Refute it at one input. -/
def fnExactSpanInWrong : ChangeSpec := { name := "fnExactSpanIn", fn := fun _ => fun
  | [d1, d2] => { results := [.lit (.bool false)], args := [d1, d2] }
  | _ => none }
def FnExactSpanInWrongFalsely : Prop := fnExactSpanInRow.holds Try.pinned (OpenSpec.ofChange fnExactSpanInWrong)

/-- 'laws.FnExactSpanOf': WHATEVER THE INPUT: true; the input reads as it did. -/
def fnExactSpanOfSpec : ChangeSpec := { name := "fnExactSpanOf", fn := fun _ => fun
  | [d] => { results := [.lit (.bool true)], args := [d] }
  | _ => none }
def fnExactSpanOfRow : OpenClaim := { program := "ytbgaoidihgpldaa", sum := "6e85c104f032a0d5c04ddc611daab16c431e7d874ec11a15b5429ff337acc153", func := "loop.example/gauger/laws.FnExactSpanOf", spec := "fnExactSpanOf", apart := false }
def FnExactSpanOfSaid : Prop := fnExactSpanOfRow.holds Try.pinned (OpenSpec.ofChange fnExactSpanOfSpec)

/-- ITS FALSE NEIGHBOUR: 'it returns false'. Refute it at one input. -/
def fnExactSpanOfWrong : ChangeSpec := { name := "fnExactSpanOf", fn := fun _ => fun
  | [d] => { results := [.lit (.bool false)], args := [d] }
  | _ => none }
def FnExactSpanOfWrongFalsely : Prop := fnExactSpanOfRow.holds Try.pinned (OpenSpec.ofChange fnExactSpanOfWrong)

/-- 'laws.FnWrapWord': WHATEVER THE INPUT: true; the input reads as it did. -/
def fnWrapWordSpec : ChangeSpec := { name := "fnWrapWord", fn := fun _ => fun
  | [d] => { results := [.lit (.bool true)], args := [d] }
  | _ => none }
def fnWrapWordRow : OpenClaim := { program := "ytbgaoidihgpldaa", sum := "6e85c104f032a0d5c04ddc611daab16c431e7d874ec11a15b5429ff337acc153", func := "loop.example/gauger/laws.FnWrapWord", spec := "fnWrapWord", apart := false }
def FnWrapWordSaid : Prop := fnWrapWordRow.holds Try.pinned (OpenSpec.ofChange fnWrapWordSpec)

/-- ITS FALSE NEIGHBOUR: 'it returns false'. Refute it at one input. -/
def fnWrapWordWrong : ChangeSpec := { name := "fnWrapWord", fn := fun _ => fun
  | [d] => { results := [.lit (.bool false)], args := [d] }
  | _ => none }
def FnWrapWordWrongFalsely : Prop := fnWrapWordRow.holds Try.pinned (OpenSpec.ofChange fnWrapWordWrong)

/- THE SECOND FORM. 'bulk': how many values and letters a reading holds, each counted each time it is reached (what is shared counts as often as it is met; a slice's spare places count too). A statement '..UptoSaid' is the law's where the arguments, and the package variables that the reading takes, are together of bulk at most 1048576: NARROWER than '..Said'. Prove '..Said' where nothing that the law and all that it calls make is longer than what came in: it says more and counts as full. Else prove '..UptoSaid'. A law counts once. -/
mutual
def uptoBulk {H : Type} : DataW H → Nat
  | .lit (.string bytes) => bytes.length + 1
  | .lit _ => 1
  | .nil => 1
  | .ptr d => uptoBulk d + 1
  | .slice elems spare => uptoBulkAll elems + uptoBulkAll spare + 1
  | .agg parts => uptoBulkAll parts + 1
  | .iface _ d => uptoBulk d + 1
  | .map entries => uptoBulkEntries entries + 1
  | .held _ => 1
def uptoBulkAll {H : Type} : List (DataW H) → Nat
  | [] => 0
  | d :: r => uptoBulk d + uptoBulkAll r
def uptoBulkEntries {H : Type} : List (Lit × DataW H) → Nat
  | [] => 0
  | x :: r => uptoBulkEntry x + uptoBulkEntries r
def uptoBulkEntry {H : Type} : Lit × DataW H → Nat
  | (.string bytes, d) => bytes.length + uptoBulk d + 1
  | (_, d) => uptoBulk d + 1
 end
def uptoSmall : (H : Type) → List (DataW H) → Bool := fun _ ds => decide (uptoBulkAll ds ≤ 1048576)
def OpenSpec.upto (s : _root_.Go.ChangeSpec) : _root_.Go.OpenSpec := { _root_.Go.OpenSpec.ofChange s with cond := some uptoSmall }

/-- 'laws.FnExactConstants', WHERE WHAT IT READS IS OF BULK AT MOST 1048576: true; the input reads as it did. -/
def fnExactConstantsUptoRow : OpenClaim := { program := "ytbgaoidihgpldaa", sum := "6e85c104f032a0d5c04ddc611daab16c431e7d874ec11a15b5429ff337acc153", func := "loop.example/gauger/laws.FnExactConstants", spec := "fnExactConstants", apart := false, narrowed := true }
def FnExactConstantsUptoSaid : Prop := fnExactConstantsUptoRow.holds Try.pinned (OpenSpec.upto fnExactConstantsSpec)

/-- 'laws.FnExactNumWrap', WHERE WHAT IT READS IS OF BULK AT MOST 1048576: true; the input reads as it did. -/
def fnExactNumWrapUptoRow : OpenClaim := { program := "ytbgaoidihgpldaa", sum := "6e85c104f032a0d5c04ddc611daab16c431e7d874ec11a15b5429ff337acc153", func := "loop.example/gauger/laws.FnExactNumWrap", spec := "fnExactNumWrap", apart := false, narrowed := true }
def FnExactNumWrapUptoSaid : Prop := fnExactNumWrapUptoRow.holds Try.pinned (OpenSpec.upto fnExactNumWrapSpec)

/-- 'laws.FnExactSpanOk', WHERE WHAT IT READS IS OF BULK AT MOST 1048576: true; the input reads as it did. -/
def fnExactSpanOkUptoRow : OpenClaim := { program := "ytbgaoidihgpldaa", sum := "6e85c104f032a0d5c04ddc611daab16c431e7d874ec11a15b5429ff337acc153", func := "loop.example/gauger/laws.FnExactSpanOk", spec := "fnExactSpanOk", apart := false, narrowed := true }
def FnExactSpanOkUptoSaid : Prop := fnExactSpanOkUptoRow.holds Try.pinned (OpenSpec.upto fnExactSpanOkSpec)

/-- 'laws.FnExactSpanHas', WHERE WHAT IT READS IS OF BULK AT MOST 1048576: true; the input reads as it did. -/
def fnExactSpanHasUptoRow : OpenClaim := { program := "ytbgaoidihgpldaa", sum := "6e85c104f032a0d5c04ddc611daab16c431e7d874ec11a15b5429ff337acc153", func := "loop.example/gauger/laws.FnExactSpanHas", spec := "fnExactSpanHas", apart := false, narrowed := true }
def FnExactSpanHasUptoSaid : Prop := fnExactSpanHasUptoRow.holds Try.pinned (OpenSpec.upto fnExactSpanHasSpec)

/-- 'laws.FnExactSpanIn', WHERE WHAT IT READS IS OF BULK AT MOST 1048576: true; the input reads as it did. -/
def fnExactSpanInUptoRow : OpenClaim := { program := "ytbgaoidihgpldaa", sum := "6e85c104f032a0d5c04ddc611daab16c431e7d874ec11a15b5429ff337acc153", func := "loop.example/gauger/laws.FnExactSpanIn", spec := "fnExactSpanIn", apart := false, narrowed := true }
def FnExactSpanInUptoSaid : Prop := fnExactSpanInUptoRow.holds Try.pinned (OpenSpec.upto fnExactSpanInSpec)

/-- 'laws.FnExactSpanOf', WHERE WHAT IT READS IS OF BULK AT MOST 1048576: true; the input reads as it did. -/
def fnExactSpanOfUptoRow : OpenClaim := { program := "ytbgaoidihgpldaa", sum := "6e85c104f032a0d5c04ddc611daab16c431e7d874ec11a15b5429ff337acc153", func := "loop.example/gauger/laws.FnExactSpanOf", spec := "fnExactSpanOf", apart := false, narrowed := true }
def FnExactSpanOfUptoSaid : Prop := fnExactSpanOfUptoRow.holds Try.pinned (OpenSpec.upto fnExactSpanOfSpec)

/-- 'laws.FnWrapWord', WHERE WHAT IT READS IS OF BULK AT MOST 1048576: true; the input reads as it did. -/
def fnWrapWordUptoRow : OpenClaim := { program := "ytbgaoidihgpldaa", sum := "6e85c104f032a0d5c04ddc611daab16c431e7d874ec11a15b5429ff337acc153", func := "loop.example/gauger/laws.FnWrapWord", spec := "fnWrapWord", apart := false, narrowed := true }
def FnWrapWordUptoSaid : Prop := fnWrapWordUptoRow.holds Try.pinned (OpenSpec.upto fnWrapWordSpec)

end Rows
end Go.Proofs.Ytbgaoidihgpldaa
