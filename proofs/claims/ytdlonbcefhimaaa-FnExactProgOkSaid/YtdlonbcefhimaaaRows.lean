/-
  No cell of these rows narrows 'for every input' (looked for: loops, veiled, ifaces, maps, wideKeys, modest, calm, conditions, laid).
  DERIVED. THE GIVEN ROWS OF THIS SEAT. 11 by the template 'for every input the law returns true; each argument reads behind the call as it read before'; 0 by the template 'total and deterministic' (their statements: YtdlonbcefhimaaaTotals.lean).
  GIVEN WITH THE SEED: the statements are not yours to turn. If you find one false, say at which input.
  Laid BY PROGRAM, IN A SANDBOX (cutbox-rows.mjs): the forced cells as the released guide's own fill.sh prints them over the translation 0bb3cf43c299d008… (all of the seat's roots in one cut). By AI agents, Wed Nov 11 2026. No macro, syntax, notation, axiom, sorry.
-/
import Derived.Test.YtdlonbcefhimaaaChecked
import GoSem.Claim
import GoSem.ClaimJoined
import GoSem.ClaimMapViews
import Derived.JoinedTies
import Derived.KernelRfl
namespace Go.Proofs.Ytdlonbcefhimaaa
/- THE CELL 'sum', in the pinned program and in every row, IS THE sha256 OF THE DUMP (.gsa) THAT YtdlonbcefhimaaaProg.lean LOADS. Nothing in Lean hashes anything: it is a label: what it is worth is what the hold of that sum in a sandbox is worth. -/
noncomputable def Try.pinned : Pinned := { name := "ytdlonbcefhimaaa", sum := "0bb3cf43c299d008e5ac47717f52f70260ab183854298205737e64d5b1fc8118", checked := Try.checked }
namespace Rows
def none {H : Type} : Left H := { results := [], args := [] }

/-- 'laws.FnExactProgOk': WHATEVER THE INPUT: true; the input reads as it did. -/
def fnExactProgOkSpec : ChangeSpec := { name := "fnExactProgOk", fn := fun _ => fun
  | [d] => { results := [.lit (.bool true)], args := [d] }
  | _ => none }
def fnExactProgOkRow : OpenClaim := { program := "ytdlonbcefhimaaa", sum := "0bb3cf43c299d008e5ac47717f52f70260ab183854298205737e64d5b1fc8118", func := "loop.example/gauger/laws.FnExactProgOk", spec := "fnExactProgOk", unfollowed := true, recurses := true, apart := false }
def FnExactProgOkSaid : Prop := fnExactProgOkRow.holds Try.pinned (OpenSpec.ofChange fnExactProgOkSpec)

/-- ITS FALSE NEIGHBOUR: 'it returns false'. Refute it at one input. -/
def fnExactProgOkWrong : ChangeSpec := { name := "fnExactProgOk", fn := fun _ => fun
  | [d] => { results := [.lit (.bool false)], args := [d] }
  | _ => none }
def FnExactProgOkWrongFalsely : Prop := fnExactProgOkRow.holds Try.pinned (OpenSpec.ofChange fnExactProgOkWrong)

/-- 'laws.FnProgCalls': WHATEVER THE INPUT: true; the input reads as it did. -/
def fnProgCallsSpec : ChangeSpec := { name := "fnProgCalls", fn := fun _ => fun
  | [d] => { results := [.lit (.bool true)], args := [d] }
  | _ => none }
def fnProgCallsRow : OpenClaim := { program := "ytdlonbcefhimaaa", sum := "0bb3cf43c299d008e5ac47717f52f70260ab183854298205737e64d5b1fc8118", func := "loop.example/gauger/laws.FnProgCalls", spec := "fnProgCalls", unfollowed := true, recurses := true, apart := false }
def FnProgCallsSaid : Prop := fnProgCallsRow.holds Try.pinned (OpenSpec.ofChange fnProgCallsSpec)

/-- ITS FALSE NEIGHBOUR: 'it returns false'. Refute it at one input. -/
def fnProgCallsWrong : ChangeSpec := { name := "fnProgCalls", fn := fun _ => fun
  | [d] => { results := [.lit (.bool false)], args := [d] }
  | _ => none }
def FnProgCallsWrongFalsely : Prop := fnProgCallsRow.holds Try.pinned (OpenSpec.ofChange fnProgCallsWrong)

/-- 'laws.FnExactProgCalls': WHATEVER THE INPUT: true; the input reads as it did. -/
def fnExactProgCallsSpec : ChangeSpec := { name := "fnExactProgCalls", fn := fun _ => fun
  | [d1, d2] => { results := [.lit (.bool true)], args := [d1, d2] }
  | _ => none }
def fnExactProgCallsRow : OpenClaim := { program := "ytdlonbcefhimaaa", sum := "0bb3cf43c299d008e5ac47717f52f70260ab183854298205737e64d5b1fc8118", func := "loop.example/gauger/laws.FnExactProgCalls", spec := "fnExactProgCalls", unfollowed := true, recurses := true, apart := false }
def FnExactProgCallsSaid : Prop := fnExactProgCallsRow.holds Try.pinned (OpenSpec.ofChange fnExactProgCallsSpec)

/-- ITS FALSE NEIGHBOUR: 'it returns false'. Refute it at one input. -/
def fnExactProgCallsWrong : ChangeSpec := { name := "fnExactProgCalls", fn := fun _ => fun
  | [d1, d2] => { results := [.lit (.bool false)], args := [d1, d2] }
  | _ => none }
def FnExactProgCallsWrongFalsely : Prop := fnExactProgCallsRow.holds Try.pinned (OpenSpec.ofChange fnExactProgCallsWrong)

/-- 'laws.FnFromFar': WHATEVER THE INPUT: true; the input reads as it did. -/
def fnFromFarSpec : ChangeSpec := { name := "fnFromFar", fn := fun _ => fun
  | [d] => { results := [.lit (.bool true)], args := [d] }
  | _ => none }
def fnFromFarRow : OpenClaim := { program := "ytdlonbcefhimaaa", sum := "0bb3cf43c299d008e5ac47717f52f70260ab183854298205737e64d5b1fc8118", func := "loop.example/gauger/laws.FnFromFar", spec := "fnFromFar", unfollowed := true, recurses := true, apart := false }
def FnFromFarSaid : Prop := fnFromFarRow.holds Try.pinned (OpenSpec.ofChange fnFromFarSpec)

/-- ITS FALSE NEIGHBOUR: 'it returns false'. Refute it at one input. -/
def fnFromFarWrong : ChangeSpec := { name := "fnFromFar", fn := fun _ => fun
  | [d] => { results := [.lit (.bool false)], args := [d] }
  | _ => none }
def FnFromFarWrongFalsely : Prop := fnFromFarRow.holds Try.pinned (OpenSpec.ofChange fnFromFarWrong)

/-- 'laws.FnFromStep': WHATEVER THE INPUT: true; the input reads as it did. -/
def fnFromStepSpec : ChangeSpec := { name := "fnFromStep", fn := fun _ => fun
  | [d] => { results := [.lit (.bool true)], args := [d] }
  | _ => none }
def fnFromStepRow : OpenClaim := { program := "ytdlonbcefhimaaa", sum := "0bb3cf43c299d008e5ac47717f52f70260ab183854298205737e64d5b1fc8118", func := "loop.example/gauger/laws.FnFromStep", spec := "fnFromStep", unfollowed := true, recurses := true, apart := false }
def FnFromStepSaid : Prop := fnFromStepRow.holds Try.pinned (OpenSpec.ofChange fnFromStepSpec)

/-- ITS FALSE NEIGHBOUR: 'it returns false'. Refute it at one input. -/
def fnFromStepWrong : ChangeSpec := { name := "fnFromStep", fn := fun _ => fun
  | [d] => { results := [.lit (.bool false)], args := [d] }
  | _ => none }
def FnFromStepWrongFalsely : Prop := fnFromStepRow.holds Try.pinned (OpenSpec.ofChange fnFromStepWrong)

/-- 'laws.FnExactProgFrom': WHATEVER THE INPUT: true; the input reads as it did. -/
def fnExactProgFromSpec : ChangeSpec := { name := "fnExactProgFrom", fn := fun _ => fun
  | [d1, d2] => { results := [.lit (.bool true)], args := [d1, d2] }
  | _ => none }
def fnExactProgFromRow : OpenClaim := { program := "ytdlonbcefhimaaa", sum := "0bb3cf43c299d008e5ac47717f52f70260ab183854298205737e64d5b1fc8118", func := "loop.example/gauger/laws.FnExactProgFrom", spec := "fnExactProgFrom", unfollowed := true, recurses := true, apart := false }
def FnExactProgFromSaid : Prop := fnExactProgFromRow.holds Try.pinned (OpenSpec.ofChange fnExactProgFromSpec)

/-- ITS FALSE NEIGHBOUR: 'it returns false'. Refute it at one input. -/
def fnExactProgFromWrong : ChangeSpec := { name := "fnExactProgFrom", fn := fun _ => fun
  | [d1, d2] => { results := [.lit (.bool false)], args := [d1, d2] }
  | _ => none }
def FnExactProgFromWrongFalsely : Prop := fnExactProgFromRow.holds Try.pinned (OpenSpec.ofChange fnExactProgFromWrong)

/-- 'laws.FnRingsAll': WHATEVER THE INPUT: true; the input reads as it did. -/
def fnRingsAllSpec : ChangeSpec := { name := "fnRingsAll", fn := fun _ => fun
  | [d] => { results := [.lit (.bool true)], args := [d] }
  | _ => none }
def fnRingsAllRow : OpenClaim := { program := "ytdlonbcefhimaaa", sum := "0bb3cf43c299d008e5ac47717f52f70260ab183854298205737e64d5b1fc8118", func := "loop.example/gauger/laws.FnRingsAll", spec := "fnRingsAll", unfollowed := true, recurses := true, apart := false }
def FnRingsAllSaid : Prop := fnRingsAllRow.holds Try.pinned (OpenSpec.ofChange fnRingsAllSpec)

/-- ITS FALSE NEIGHBOUR: 'it returns false'. Refute it at one input. -/
def fnRingsAllWrong : ChangeSpec := { name := "fnRingsAll", fn := fun _ => fun
  | [d] => { results := [.lit (.bool false)], args := [d] }
  | _ => none }
def FnRingsAllWrongFalsely : Prop := fnRingsAllRow.holds Try.pinned (OpenSpec.ofChange fnRingsAllWrong)

/-- 'laws.FnRingsOrder': WHATEVER THE INPUT: true; the input reads as it did. -/
def fnRingsOrderSpec : ChangeSpec := { name := "fnRingsOrder", fn := fun _ => fun
  | [d] => { results := [.lit (.bool true)], args := [d] }
  | _ => none }
def fnRingsOrderRow : OpenClaim := { program := "ytdlonbcefhimaaa", sum := "0bb3cf43c299d008e5ac47717f52f70260ab183854298205737e64d5b1fc8118", func := "loop.example/gauger/laws.FnRingsOrder", spec := "fnRingsOrder", unfollowed := true, recurses := true, apart := false }
def FnRingsOrderSaid : Prop := fnRingsOrderRow.holds Try.pinned (OpenSpec.ofChange fnRingsOrderSpec)

/-- ITS FALSE NEIGHBOUR: 'it returns false'. Refute it at one input. -/
def fnRingsOrderWrong : ChangeSpec := { name := "fnRingsOrder", fn := fun _ => fun
  | [d] => { results := [.lit (.bool false)], args := [d] }
  | _ => none }
def FnRingsOrderWrongFalsely : Prop := fnRingsOrderRow.holds Try.pinned (OpenSpec.ofChange fnRingsOrderWrong)

/-- 'laws.FnRingsSame': WHATEVER THE INPUT: true; the input reads as it did. -/
def fnRingsSameSpec : ChangeSpec := { name := "fnRingsSame", fn := fun _ => fun
  | [d] => { results := [.lit (.bool true)], args := [d] }
  | _ => none }
def fnRingsSameRow : OpenClaim := { program := "ytdlonbcefhimaaa", sum := "0bb3cf43c299d008e5ac47717f52f70260ab183854298205737e64d5b1fc8118", func := "loop.example/gauger/laws.FnRingsSame", spec := "fnRingsSame", unfollowed := true, recurses := true, apart := false }
def FnRingsSameSaid : Prop := fnRingsSameRow.holds Try.pinned (OpenSpec.ofChange fnRingsSameSpec)

/-- ITS FALSE NEIGHBOUR: 'it returns false'. Refute it at one input. -/
def fnRingsSameWrong : ChangeSpec := { name := "fnRingsSame", fn := fun _ => fun
  | [d] => { results := [.lit (.bool false)], args := [d] }
  | _ => none }
def FnRingsSameWrongFalsely : Prop := fnRingsSameRow.holds Try.pinned (OpenSpec.ofChange fnRingsSameWrong)

/-- 'laws.FnRingsMore': WHATEVER THE INPUT: true; the input reads as it did. -/
def fnRingsMoreSpec : ChangeSpec := { name := "fnRingsMore", fn := fun _ => fun
  | [d] => { results := [.lit (.bool true)], args := [d] }
  | _ => none }
def fnRingsMoreRow : OpenClaim := { program := "ytdlonbcefhimaaa", sum := "0bb3cf43c299d008e5ac47717f52f70260ab183854298205737e64d5b1fc8118", func := "loop.example/gauger/laws.FnRingsMore", spec := "fnRingsMore", unfollowed := true, recurses := true, apart := false }
def FnRingsMoreSaid : Prop := fnRingsMoreRow.holds Try.pinned (OpenSpec.ofChange fnRingsMoreSpec)

/-- ITS FALSE NEIGHBOUR: 'it returns false'. Refute it at one input. -/
def fnRingsMoreWrong : ChangeSpec := { name := "fnRingsMore", fn := fun _ => fun
  | [d] => { results := [.lit (.bool false)], args := [d] }
  | _ => none }
def FnRingsMoreWrongFalsely : Prop := fnRingsMoreRow.holds Try.pinned (OpenSpec.ofChange fnRingsMoreWrong)

/-- 'laws.FnExactProgRings': WHATEVER THE INPUT: true; the input reads as it did. -/
def fnExactProgRingsSpec : ChangeSpec := { name := "fnExactProgRings", fn := fun _ => fun
  | [d] => { results := [.lit (.bool true)], args := [d] }
  | _ => none }
def fnExactProgRingsRow : OpenClaim := { program := "ytdlonbcefhimaaa", sum := "0bb3cf43c299d008e5ac47717f52f70260ab183854298205737e64d5b1fc8118", func := "loop.example/gauger/laws.FnExactProgRings", spec := "fnExactProgRings", unfollowed := true, recurses := true, apart := false }
def FnExactProgRingsSaid : Prop := fnExactProgRingsRow.holds Try.pinned (OpenSpec.ofChange fnExactProgRingsSpec)

/-- ITS FALSE NEIGHBOUR: 'it returns false'. Refute it at one input. -/
def fnExactProgRingsWrong : ChangeSpec := { name := "fnExactProgRings", fn := fun _ => fun
  | [d] => { results := [.lit (.bool false)], args := [d] }
  | _ => none }
def FnExactProgRingsWrongFalsely : Prop := fnExactProgRingsRow.holds Try.pinned (OpenSpec.ofChange fnExactProgRingsWrong)

/- THE SECOND FORM. 'bulk': how many values and letters a reading holds, each counted each time it is reached (what is shared counts as often as it is met; a slice's spare places count too). A statement '..UptoSaid' is the law's where the arguments, and the package variables that the reading takes, are together of bulk at most 1048576: NARROWER than '..Said'. Prove '..Said' where nothing that the law and all that it calls make is longer than what came in: it says more and counts as full. Else prove '..UptoSaid'. A law counts once. -/
mutual
def uptoBulk {H : Type} : DataW H → Nat
  | .lit (.string bytes) => bytes.length + 1
  | .lit _ => 1
  | .nil => 1
  | .ptr d => uptoBulk d + 1
  | .slice elems spare => uptoBulkAll elems + uptoBulkAll spare + 1
  | .agg parts => uptoBulkAll parts + 1
  | .iface _ d => uptoBulk d + 1
  | .map entries => uptoBulkEntries entries + 1
  | .held _ => 1
def uptoBulkAll {H : Type} : List (DataW H) → Nat
  | [] => 0
  | d :: r => uptoBulk d + uptoBulkAll r
def uptoBulkEntries {H : Type} : List (Lit × DataW H) → Nat
  | [] => 0
  | x :: r => uptoBulkEntry x + uptoBulkEntries r
def uptoBulkEntry {H : Type} : Lit × DataW H → Nat
  | (.string bytes, d) => bytes.length + uptoBulk d + 1
  | (_, d) => uptoBulk d + 1
 end
def uptoSmall : (H : Type) → List (DataW H) → Bool := fun _ ds => decide (uptoBulkAll ds ≤ 1048576)
def OpenSpec.upto (s : _root_.Go.ChangeSpec) : _root_.Go.OpenSpec := { _root_.Go.OpenSpec.ofChange s with cond := some uptoSmall }

/-- 'laws.FnExactProgOk', WHERE WHAT IT READS IS OF BULK AT MOST 1048576: true; the input reads as it did. -/
def fnExactProgOkUptoRow : OpenClaim := { program := "ytdlonbcefhimaaa", sum := "0bb3cf43c299d008e5ac47717f52f70260ab183854298205737e64d5b1fc8118", func := "loop.example/gauger/laws.FnExactProgOk", spec := "fnExactProgOk", unfollowed := true, recurses := true, apart := false, narrowed := true }
def FnExactProgOkUptoSaid : Prop := fnExactProgOkUptoRow.holds Try.pinned (OpenSpec.upto fnExactProgOkSpec)

/-- 'laws.FnProgCalls', WHERE WHAT IT READS IS OF BULK AT MOST 1048576: true; the input reads as it did. -/
def fnProgCallsUptoRow : OpenClaim := { program := "ytdlonbcefhimaaa", sum := "0bb3cf43c299d008e5ac47717f52f70260ab183854298205737e64d5b1fc8118", func := "loop.example/gauger/laws.FnProgCalls", spec := "fnProgCalls", unfollowed := true, recurses := true, apart := false, narrowed := true }
def FnProgCallsUptoSaid : Prop := fnProgCallsUptoRow.holds Try.pinned (OpenSpec.upto fnProgCallsSpec)

/-- 'laws.FnExactProgCalls', WHERE WHAT IT READS IS OF BULK AT MOST 1048576: true; the input reads as it did. -/
def fnExactProgCallsUptoRow : OpenClaim := { program := "ytdlonbcefhimaaa", sum := "0bb3cf43c299d008e5ac47717f52f70260ab183854298205737e64d5b1fc8118", func := "loop.example/gauger/laws.FnExactProgCalls", spec := "fnExactProgCalls", unfollowed := true, recurses := true, apart := false, narrowed := true }
def FnExactProgCallsUptoSaid : Prop := fnExactProgCallsUptoRow.holds Try.pinned (OpenSpec.upto fnExactProgCallsSpec)

/-- 'laws.FnFromFar', WHERE WHAT IT READS IS OF BULK AT MOST 1048576: true; the input reads as it did. -/
def fnFromFarUptoRow : OpenClaim := { program := "ytdlonbcefhimaaa", sum := "0bb3cf43c299d008e5ac47717f52f70260ab183854298205737e64d5b1fc8118", func := "loop.example/gauger/laws.FnFromFar", spec := "fnFromFar", unfollowed := true, recurses := true, apart := false, narrowed := true }
def FnFromFarUptoSaid : Prop := fnFromFarUptoRow.holds Try.pinned (OpenSpec.upto fnFromFarSpec)

/-- 'laws.FnFromStep', WHERE WHAT IT READS IS OF BULK AT MOST 1048576: true; the input reads as it did. -/
def fnFromStepUptoRow : OpenClaim := { program := "ytdlonbcefhimaaa", sum := "0bb3cf43c299d008e5ac47717f52f70260ab183854298205737e64d5b1fc8118", func := "loop.example/gauger/laws.FnFromStep", spec := "fnFromStep", unfollowed := true, recurses := true, apart := false, narrowed := true }
def FnFromStepUptoSaid : Prop := fnFromStepUptoRow.holds Try.pinned (OpenSpec.upto fnFromStepSpec)

/-- 'laws.FnExactProgFrom', WHERE WHAT IT READS IS OF BULK AT MOST 1048576: true; the input reads as it did. -/
def fnExactProgFromUptoRow : OpenClaim := { program := "ytdlonbcefhimaaa", sum := "0bb3cf43c299d008e5ac47717f52f70260ab183854298205737e64d5b1fc8118", func := "loop.example/gauger/laws.FnExactProgFrom", spec := "fnExactProgFrom", unfollowed := true, recurses := true, apart := false, narrowed := true }
def FnExactProgFromUptoSaid : Prop := fnExactProgFromUptoRow.holds Try.pinned (OpenSpec.upto fnExactProgFromSpec)

/-- 'laws.FnRingsAll', WHERE WHAT IT READS IS OF BULK AT MOST 1048576: true; the input reads as it did. -/
def fnRingsAllUptoRow : OpenClaim := { program := "ytdlonbcefhimaaa", sum := "0bb3cf43c299d008e5ac47717f52f70260ab183854298205737e64d5b1fc8118", func := "loop.example/gauger/laws.FnRingsAll", spec := "fnRingsAll", unfollowed := true, recurses := true, apart := false, narrowed := true }
def FnRingsAllUptoSaid : Prop := fnRingsAllUptoRow.holds Try.pinned (OpenSpec.upto fnRingsAllSpec)

/-- 'laws.FnRingsOrder', WHERE WHAT IT READS IS OF BULK AT MOST 1048576: true; the input reads as it did. -/
def fnRingsOrderUptoRow : OpenClaim := { program := "ytdlonbcefhimaaa", sum := "0bb3cf43c299d008e5ac47717f52f70260ab183854298205737e64d5b1fc8118", func := "loop.example/gauger/laws.FnRingsOrder", spec := "fnRingsOrder", unfollowed := true, recurses := true, apart := false, narrowed := true }
def FnRingsOrderUptoSaid : Prop := fnRingsOrderUptoRow.holds Try.pinned (OpenSpec.upto fnRingsOrderSpec)

/-- 'laws.FnRingsSame', WHERE WHAT IT READS IS OF BULK AT MOST 1048576: true; the input reads as it did. -/
def fnRingsSameUptoRow : OpenClaim := { program := "ytdlonbcefhimaaa", sum := "0bb3cf43c299d008e5ac47717f52f70260ab183854298205737e64d5b1fc8118", func := "loop.example/gauger/laws.FnRingsSame", spec := "fnRingsSame", unfollowed := true, recurses := true, apart := false, narrowed := true }
def FnRingsSameUptoSaid : Prop := fnRingsSameUptoRow.holds Try.pinned (OpenSpec.upto fnRingsSameSpec)

/-- 'laws.FnRingsMore', WHERE WHAT IT READS IS OF BULK AT MOST 1048576: true; the input reads as it did. -/
def fnRingsMoreUptoRow : OpenClaim := { program := "ytdlonbcefhimaaa", sum := "0bb3cf43c299d008e5ac47717f52f70260ab183854298205737e64d5b1fc8118", func := "loop.example/gauger/laws.FnRingsMore", spec := "fnRingsMore", unfollowed := true, recurses := true, apart := false, narrowed := true }
def FnRingsMoreUptoSaid : Prop := fnRingsMoreUptoRow.holds Try.pinned (OpenSpec.upto fnRingsMoreSpec)

/-- 'laws.FnExactProgRings', WHERE WHAT IT READS IS OF BULK AT MOST 1048576: true; the input reads as it did. -/
def fnExactProgRingsUptoRow : OpenClaim := { program := "ytdlonbcefhimaaa", sum := "0bb3cf43c299d008e5ac47717f52f70260ab183854298205737e64d5b1fc8118", func := "loop.example/gauger/laws.FnExactProgRings", spec := "fnExactProgRings", unfollowed := true, recurses := true, apart := false, narrowed := true }
def FnExactProgRingsUptoSaid : Prop := fnExactProgRingsUptoRow.holds Try.pinned (OpenSpec.upto fnExactProgRingsSpec)

end Rows
end Go.Proofs.Ytdlonbcefhimaaa
