/-
  No cell of these rows narrows 'for every input' (looked for: loops, veiled, ifaces, maps, wideKeys, modest, calm, conditions, laid).
  DERIVED. THE GIVEN ROWS OF THIS SEAT. 12 by the template 'for every input the law returns true; each argument reads behind the call as it read before'; 0 by the template 'total and deterministic' (their statements: YtdanhdbanfpghaaTotals.lean).
  GIVEN WITH THE SEED: the statements are not yours to turn. If you find one false, say at which input.
  Laid BY PROGRAM, IN A SANDBOX (cutbox-rows.mjs): the forced cells as the released guide's own fill.sh prints them over the translation 3f4fc2f1d44e9024… (all of the seat's roots in one cut). By AI agents, Wed Nov 11 2026. No macro, syntax, notation, axiom, sorry.
-/
import Derived.Test.YtdanhdbanfpghaaChecked
import GoSem.Claim
import GoSem.ClaimJoined
import GoSem.ClaimMapViews
import Derived.JoinedTies
import Derived.KernelRfl
namespace Go.Proofs.Ytdanhdbanfpghaa
/- THE CELL 'sum', in the pinned program and in every row, IS THE sha256 OF THE DUMP (.gsa) THAT YtdanhdbanfpghaaProg.lean LOADS. Nothing in Lean hashes anything: it is a label: what it is worth is what the hold of that sum in a sandbox is worth. -/
noncomputable def Try.pinned : Pinned := { name := "ytdanhdbanfpghaa", sum := "3f4fc2f1d44e90244fa3195d77e583fc2eaa931ad49740b27adcecde3820df23", checked := Try.checked }
namespace Rows
def none {H : Type} : Left H := { results := [], args := [] }

/-- 'laws.FnExactSegsFault': WHATEVER THE INPUT: true; the input reads as it did. -/
def fnExactSegsFaultSpec : ChangeSpec := { name := "fnExactSegsFault", fn := fun _ => fun
  | [d] => { results := [.lit (.bool true)], args := [d] }
  | _ => none }
def fnExactSegsFaultRow : OpenClaim := { program := "ytdanhdbanfpghaa", sum := "3f4fc2f1d44e90244fa3195d77e583fc2eaa931ad49740b27adcecde3820df23", func := "loop.example/g00225/laws.FnExactSegsFault", spec := "fnExactSegsFault", apart := false }
def FnExactSegsFaultSaid : Prop := fnExactSegsFaultRow.holds Try.pinned (OpenSpec.ofChange fnExactSegsFaultSpec)

/-- ITS FALSE NEIGHBOUR: 'it returns false'. Refute it at one input. -/
def fnExactSegsFaultWrong : ChangeSpec := { name := "fnExactSegsFault", fn := fun _ => fun
  | [d] => { results := [.lit (.bool false)], args := [d] }
  | _ => none }
def FnExactSegsFaultWrongFalsely : Prop := fnExactSegsFaultRow.holds Try.pinned (OpenSpec.ofChange fnExactSegsFaultWrong)

/-- 'laws.FnExactBetween': WHATEVER THE INPUT: true; the input reads as it did. -/
def fnExactBetweenSpec : ChangeSpec := { name := "fnExactBetween", fn := fun _ => fun
  | [d1, d2, d3] => { results := [.lit (.bool true)], args := [d1, d2, d3] }
  | _ => none }
def fnExactBetweenRow : OpenClaim := { program := "ytdanhdbanfpghaa", sum := "3f4fc2f1d44e90244fa3195d77e583fc2eaa931ad49740b27adcecde3820df23", func := "loop.example/g00225/laws.FnExactBetween", spec := "fnExactBetween", inPlace := ["math/bits.Add64", "math/bits.Sub64"], named := ["math/bits.divideError", "math/bits.overflowError"], apart := false }
def FnExactBetweenSaid : Prop := fnExactBetweenRow.holds Try.pinned (OpenSpec.ofChange fnExactBetweenSpec)

/-- ITS FALSE NEIGHBOUR: 'it returns false'. Refute it at one input. -/
def fnExactBetweenWrong : ChangeSpec := { name := "fnExactBetween", fn := fun _ => fun
  | [d1, d2, d3] => { results := [.lit (.bool false)], args := [d1, d2, d3] }
  | _ => none }
def FnExactBetweenWrongFalsely : Prop := fnExactBetweenRow.holds Try.pinned (OpenSpec.ofChange fnExactBetweenWrong)

/-- 'laws.FnExactSideOf': WHATEVER THE INPUT: true; the input reads as it did. -/
def fnExactSideOfSpec : ChangeSpec := { name := "fnExactSideOf", fn := fun _ => fun
  | [d1, d2] => { results := [.lit (.bool true)], args := [d1, d2] }
  | _ => none }
def fnExactSideOfRow : OpenClaim := { program := "ytdanhdbanfpghaa", sum := "3f4fc2f1d44e90244fa3195d77e583fc2eaa931ad49740b27adcecde3820df23", func := "loop.example/g00225/laws.FnExactSideOf", spec := "fnExactSideOf", inPlace := ["math/bits.Add64", "math/bits.Sub64"], named := ["math/bits.divideError", "math/bits.overflowError"], apart := false }
def FnExactSideOfSaid : Prop := fnExactSideOfRow.holds Try.pinned (OpenSpec.ofChange fnExactSideOfSpec)

/-- ITS FALSE NEIGHBOUR: 'it returns false'. Refute it at one input. -/
def fnExactSideOfWrong : ChangeSpec := { name := "fnExactSideOf", fn := fun _ => fun
  | [d1, d2] => { results := [.lit (.bool false)], args := [d1, d2] }
  | _ => none }
def FnExactSideOfWrongFalsely : Prop := fnExactSideOfRow.holds Try.pinned (OpenSpec.ofChange fnExactSideOfWrong)

/-- 'laws.FnBoxed': WHATEVER THE INPUT: true; the input reads as it did. -/
def fnBoxedSpec : ChangeSpec := { name := "fnBoxed", fn := fun _ => fun
  | [d] => { results := [.lit (.bool true)], args := [d] }
  | _ => none }
def fnBoxedRow : OpenClaim := { program := "ytdanhdbanfpghaa", sum := "3f4fc2f1d44e90244fa3195d77e583fc2eaa931ad49740b27adcecde3820df23", func := "loop.example/g00225/laws.FnBoxed", spec := "fnBoxed", inPlace := ["math/bits.Add64", "math/bits.Sub64"], unfollowed := true, recurses := true, named := ["math/bits.divideError", "math/bits.overflowError"], apart := false }
def FnBoxedSaid : Prop := fnBoxedRow.holds Try.pinned (OpenSpec.ofChange fnBoxedSpec)

/-- ITS FALSE NEIGHBOUR: 'it returns false'. Refute it at one input. -/
def fnBoxedWrong : ChangeSpec := { name := "fnBoxed", fn := fun _ => fun
  | [d] => { results := [.lit (.bool false)], args := [d] }
  | _ => none }
def FnBoxedWrongFalsely : Prop := fnBoxedRow.holds Try.pinned (OpenSpec.ofChange fnBoxedWrong)

/-- 'laws.FnExactOverAt': WHATEVER THE INPUT: true; the input reads as it did. -/
def fnExactOverAtSpec : ChangeSpec := { name := "fnExactOverAt", fn := fun _ => fun
  | [d1, d2] => { results := [.lit (.bool true)], args := [d1, d2] }
  | _ => none }
def fnExactOverAtRow : OpenClaim := { program := "ytdanhdbanfpghaa", sum := "3f4fc2f1d44e90244fa3195d77e583fc2eaa931ad49740b27adcecde3820df23", func := "loop.example/g00225/laws.FnExactOverAt", spec := "fnExactOverAt", inPlace := ["math/bits.Add64", "math/bits.Sub64"], named := ["math/bits.divideError", "math/bits.overflowError"], apart := false }
def FnExactOverAtSaid : Prop := fnExactOverAtRow.holds Try.pinned (OpenSpec.ofChange fnExactOverAtSpec)

/-- ITS FALSE NEIGHBOUR: 'it returns false'. Refute it at one input. -/
def fnExactOverAtWrong : ChangeSpec := { name := "fnExactOverAt", fn := fun _ => fun
  | [d1, d2] => { results := [.lit (.bool false)], args := [d1, d2] }
  | _ => none }
def FnExactOverAtWrongFalsely : Prop := fnExactOverAtRow.holds Try.pinned (OpenSpec.ofChange fnExactOverAtWrong)

/-- 'laws.FnExactOnSeg': WHATEVER THE INPUT: true; the input reads as it did. -/
def fnExactOnSegSpec : ChangeSpec := { name := "fnExactOnSeg", fn := fun _ => fun
  | [d1, d2] => { results := [.lit (.bool true)], args := [d1, d2] }
  | _ => none }
def fnExactOnSegRow : OpenClaim := { program := "ytdanhdbanfpghaa", sum := "3f4fc2f1d44e90244fa3195d77e583fc2eaa931ad49740b27adcecde3820df23", func := "loop.example/g00225/laws.FnExactOnSeg", spec := "fnExactOnSeg", inPlace := ["math/bits.Add64", "math/bits.Sub64"], named := ["math/bits.divideError", "math/bits.overflowError"], apart := false }
def FnExactOnSegSaid : Prop := fnExactOnSegRow.holds Try.pinned (OpenSpec.ofChange fnExactOnSegSpec)

/-- ITS FALSE NEIGHBOUR: 'it returns false'. Refute it at one input. -/
def fnExactOnSegWrong : ChangeSpec := { name := "fnExactOnSeg", fn := fun _ => fun
  | [d1, d2] => { results := [.lit (.bool false)], args := [d1, d2] }
  | _ => none }
def FnExactOnSegWrongFalsely : Prop := fnExactOnSegRow.holds Try.pinned (OpenSpec.ofChange fnExactOnSegWrong)

/-- 'laws.FnExactMiddle': WHATEVER THE INPUT: true; the input reads as it did. -/
def fnExactMiddleSpec : ChangeSpec := { name := "fnExactMiddle", fn := fun _ => fun
  | [d1, d2] => { results := [.lit (.bool true)], args := [d1, d2] }
  | _ => none }
def fnExactMiddleRow : OpenClaim := { program := "ytdanhdbanfpghaa", sum := "3f4fc2f1d44e90244fa3195d77e583fc2eaa931ad49740b27adcecde3820df23", func := "loop.example/g00225/laws.FnExactMiddle", spec := "fnExactMiddle", inPlace := ["math/bits.Add64", "math/bits.Sub64"], named := ["math/bits.divideError", "math/bits.overflowError"], apart := false }
def FnExactMiddleSaid : Prop := fnExactMiddleRow.holds Try.pinned (OpenSpec.ofChange fnExactMiddleSpec)

/-- ITS FALSE NEIGHBOUR: 'it returns false'. Refute it at one input. -/
def fnExactMiddleWrong : ChangeSpec := { name := "fnExactMiddle", fn := fun _ => fun
  | [d1, d2] => { results := [.lit (.bool false)], args := [d1, d2] }
  | _ => none }
def FnExactMiddleWrongFalsely : Prop := fnExactMiddleRow.holds Try.pinned (OpenSpec.ofChange fnExactMiddleWrong)

/-- 'laws.FnExactDist2': WHATEVER THE INPUT: true; the input reads as it did. -/
def fnExactDist2Spec : ChangeSpec := { name := "fnExactDist2", fn := fun _ => fun
  | [d1, d2] => { results := [.lit (.bool true)], args := [d1, d2] }
  | _ => none }
def fnExactDist2Row : OpenClaim := { program := "ytdanhdbanfpghaa", sum := "3f4fc2f1d44e90244fa3195d77e583fc2eaa931ad49740b27adcecde3820df23", func := "loop.example/g00225/laws.FnExactDist2", spec := "fnExactDist2", inPlace := ["math/bits.Add64", "math/bits.Sub64"], named := ["math/bits.divideError", "math/bits.overflowError"], apart := false }
def FnExactDist2Said : Prop := fnExactDist2Row.holds Try.pinned (OpenSpec.ofChange fnExactDist2Spec)

/-- ITS FALSE NEIGHBOUR: 'it returns false'. Refute it at one input. -/
def fnExactDist2Wrong : ChangeSpec := { name := "fnExactDist2", fn := fun _ => fun
  | [d1, d2] => { results := [.lit (.bool false)], args := [d1, d2] }
  | _ => none }
def FnExactDist2WrongFalsely : Prop := fnExactDist2Row.holds Try.pinned (OpenSpec.ofChange fnExactDist2Wrong)

/-- 'laws.FnExactNear2': WHATEVER THE INPUT: true; the input reads as it did. -/
def fnExactNear2Spec : ChangeSpec := { name := "fnExactNear2", fn := fun _ => fun
  | [d1, d2] => { results := [.lit (.bool true)], args := [d1, d2] }
  | _ => none }
def fnExactNear2Row : OpenClaim := { program := "ytdanhdbanfpghaa", sum := "3f4fc2f1d44e90244fa3195d77e583fc2eaa931ad49740b27adcecde3820df23", func := "loop.example/g00225/laws.FnExactNear2", spec := "fnExactNear2", inPlace := ["math/bits.Add64", "math/bits.Sub64"], named := ["math/bits.divideError", "math/bits.overflowError"], apart := false }
def FnExactNear2Said : Prop := fnExactNear2Row.holds Try.pinned (OpenSpec.ofChange fnExactNear2Spec)

/-- ITS FALSE NEIGHBOUR: 'it returns false'. Refute it at one input. -/
def fnExactNear2Wrong : ChangeSpec := { name := "fnExactNear2", fn := fun _ => fun
  | [d1, d2] => { results := [.lit (.bool false)], args := [d1, d2] }
  | _ => none }
def FnExactNear2WrongFalsely : Prop := fnExactNear2Row.holds Try.pinned (OpenSpec.ofChange fnExactNear2Wrong)

/-- 'laws.FnExactEventsOk': WHATEVER THE INPUT: true; the input reads as it did. -/
def fnExactEventsOkSpec : ChangeSpec := { name := "fnExactEventsOk", fn := fun _ => fun
  | [d] => { results := [.lit (.bool true)], args := [d] }
  | _ => none }
def fnExactEventsOkRow : OpenClaim := { program := "ytdanhdbanfpghaa", sum := "3f4fc2f1d44e90244fa3195d77e583fc2eaa931ad49740b27adcecde3820df23", func := "loop.example/g00225/laws.FnExactEventsOk", spec := "fnExactEventsOk", inPlace := ["math/bits.Add64", "math/bits.Sub64"], named := ["math/bits.divideError", "math/bits.overflowError"], apart := false }
def FnExactEventsOkSaid : Prop := fnExactEventsOkRow.holds Try.pinned (OpenSpec.ofChange fnExactEventsOkSpec)

/-- ITS FALSE NEIGHBOUR: 'it returns false'. Refute it at one input. -/
def fnExactEventsOkWrong : ChangeSpec := { name := "fnExactEventsOk", fn := fun _ => fun
  | [d] => { results := [.lit (.bool false)], args := [d] }
  | _ => none }
def FnExactEventsOkWrongFalsely : Prop := fnExactEventsOkRow.holds Try.pinned (OpenSpec.ofChange fnExactEventsOkWrong)

/-- 'laws.FnExactHitAt': WHATEVER THE INPUT: true; the input reads as it did. -/
def fnExactHitAtSpec : ChangeSpec := { name := "fnExactHitAt", fn := fun _ => fun
  | [d1, d2] => { results := [.lit (.bool true)], args := [d1, d2] }
  | _ => none }
def fnExactHitAtRow : OpenClaim := { program := "ytdanhdbanfpghaa", sum := "3f4fc2f1d44e90244fa3195d77e583fc2eaa931ad49740b27adcecde3820df23", func := "loop.example/g00225/laws.FnExactHitAt", spec := "fnExactHitAt", inPlace := ["math/bits.Add64", "math/bits.Sub64"], named := ["math/bits.divideError", "math/bits.overflowError"], apart := false }
def FnExactHitAtSaid : Prop := fnExactHitAtRow.holds Try.pinned (OpenSpec.ofChange fnExactHitAtSpec)

/-- ITS FALSE NEIGHBOUR: 'it returns false'. Refute it at one input. -/
def fnExactHitAtWrong : ChangeSpec := { name := "fnExactHitAt", fn := fun _ => fun
  | [d1, d2] => { results := [.lit (.bool false)], args := [d1, d2] }
  | _ => none }
def FnExactHitAtWrongFalsely : Prop := fnExactHitAtRow.holds Try.pinned (OpenSpec.ofChange fnExactHitAtWrong)

/-- 'laws.FnExactEventTake': WHATEVER THE INPUT: true; the input reads as it did. -/
def fnExactEventTakeSpec : ChangeSpec := { name := "fnExactEventTake", fn := fun _ => fun
  | [d] => { results := [.lit (.bool true)], args := [d] }
  | _ => none }
def fnExactEventTakeRow : OpenClaim := { program := "ytdanhdbanfpghaa", sum := "3f4fc2f1d44e90244fa3195d77e583fc2eaa931ad49740b27adcecde3820df23", func := "loop.example/g00225/laws.FnExactEventTake", spec := "fnExactEventTake", inPlace := ["math/bits.Add64", "math/bits.Sub64"], named := ["math/bits.divideError", "math/bits.overflowError"], apart := false }
def FnExactEventTakeSaid : Prop := fnExactEventTakeRow.holds Try.pinned (OpenSpec.ofChange fnExactEventTakeSpec)

/-- ITS FALSE NEIGHBOUR: 'it returns false'. Refute it at one input. -/
def fnExactEventTakeWrong : ChangeSpec := { name := "fnExactEventTake", fn := fun _ => fun
  | [d] => { results := [.lit (.bool false)], args := [d] }
  | _ => none }
def FnExactEventTakeWrongFalsely : Prop := fnExactEventTakeRow.holds Try.pinned (OpenSpec.ofChange fnExactEventTakeWrong)

/- THE SECOND FORM. 'bulk': how many values and letters a reading holds, each counted each time it is reached (what is shared counts as often as it is met; a slice's spare places count too). A statement '..UptoSaid' is the law's where the arguments, and the package variables that the reading takes, are together of bulk at most 1048576: NARROWER than '..Said'. Prove '..Said' where nothing that the law and all that it calls make is longer than what came in: it says more and counts as full. Else prove '..UptoSaid'. A law counts once. -/
mutual
def uptoBulk {H : Type} : DataW H → Nat
  | .lit (.string bytes) => bytes.length + 1
  | .lit _ => 1
  | .nil => 1
  | .ptr d => uptoBulk d + 1
  | .slice elems spare => uptoBulkAll elems + uptoBulkAll spare + 1
  | .agg parts => uptoBulkAll parts + 1
  | .iface _ d => uptoBulk d + 1
  | .map entries => uptoBulkEntries entries + 1
  | .held _ => 1
def uptoBulkAll {H : Type} : List (DataW H) → Nat
  | [] => 0
  | d :: r => uptoBulk d + uptoBulkAll r
def uptoBulkEntries {H : Type} : List (Lit × DataW H) → Nat
  | [] => 0
  | x :: r => uptoBulkEntry x + uptoBulkEntries r
def uptoBulkEntry {H : Type} : Lit × DataW H → Nat
  | (.string bytes, d) => bytes.length + uptoBulk d + 1
  | (_, d) => uptoBulk d + 1
 end
def uptoSmall : (H : Type) → List (DataW H) → Bool := fun _ ds => decide (uptoBulkAll ds ≤ 1048576)
def OpenSpec.upto (s : _root_.Go.ChangeSpec) : _root_.Go.OpenSpec := { _root_.Go.OpenSpec.ofChange s with cond := some uptoSmall }

/-- 'laws.FnExactSegsFault', WHERE WHAT IT READS IS OF BULK AT MOST 1048576: true; the input reads as it did. -/
def fnExactSegsFaultUptoRow : OpenClaim := { program := "ytdanhdbanfpghaa", sum := "3f4fc2f1d44e90244fa3195d77e583fc2eaa931ad49740b27adcecde3820df23", func := "loop.example/g00225/laws.FnExactSegsFault", spec := "fnExactSegsFault", apart := false, narrowed := true }
def FnExactSegsFaultUptoSaid : Prop := fnExactSegsFaultUptoRow.holds Try.pinned (OpenSpec.upto fnExactSegsFaultSpec)

/-- 'laws.FnExactBetween', WHERE WHAT IT READS IS OF BULK AT MOST 1048576: true; the input reads as it did. -/
def fnExactBetweenUptoRow : OpenClaim := { program := "ytdanhdbanfpghaa", sum := "3f4fc2f1d44e90244fa3195d77e583fc2eaa931ad49740b27adcecde3820df23", func := "loop.example/g00225/laws.FnExactBetween", spec := "fnExactBetween", inPlace := ["math/bits.Add64", "math/bits.Sub64"], named := ["math/bits.divideError", "math/bits.overflowError"], apart := false, narrowed := true }
def FnExactBetweenUptoSaid : Prop := fnExactBetweenUptoRow.holds Try.pinned (OpenSpec.upto fnExactBetweenSpec)

/-- 'laws.FnExactSideOf', WHERE WHAT IT READS IS OF BULK AT MOST 1048576: true; the input reads as it did. -/
def fnExactSideOfUptoRow : OpenClaim := { program := "ytdanhdbanfpghaa", sum := "3f4fc2f1d44e90244fa3195d77e583fc2eaa931ad49740b27adcecde3820df23", func := "loop.example/g00225/laws.FnExactSideOf", spec := "fnExactSideOf", inPlace := ["math/bits.Add64", "math/bits.Sub64"], named := ["math/bits.divideError", "math/bits.overflowError"], apart := false, narrowed := true }
def FnExactSideOfUptoSaid : Prop := fnExactSideOfUptoRow.holds Try.pinned (OpenSpec.upto fnExactSideOfSpec)

/-- 'laws.FnBoxed', WHERE WHAT IT READS IS OF BULK AT MOST 1048576: true; the input reads as it did. -/
def fnBoxedUptoRow : OpenClaim := { program := "ytdanhdbanfpghaa", sum := "3f4fc2f1d44e90244fa3195d77e583fc2eaa931ad49740b27adcecde3820df23", func := "loop.example/g00225/laws.FnBoxed", spec := "fnBoxed", inPlace := ["math/bits.Add64", "math/bits.Sub64"], unfollowed := true, recurses := true, named := ["math/bits.divideError", "math/bits.overflowError"], apart := false, narrowed := true }
def FnBoxedUptoSaid : Prop := fnBoxedUptoRow.holds Try.pinned (OpenSpec.upto fnBoxedSpec)

/-- 'laws.FnExactOverAt', WHERE WHAT IT READS IS OF BULK AT MOST 1048576: true; the input reads as it did. -/
def fnExactOverAtUptoRow : OpenClaim := { program := "ytdanhdbanfpghaa", sum := "3f4fc2f1d44e90244fa3195d77e583fc2eaa931ad49740b27adcecde3820df23", func := "loop.example/g00225/laws.FnExactOverAt", spec := "fnExactOverAt", inPlace := ["math/bits.Add64", "math/bits.Sub64"], named := ["math/bits.divideError", "math/bits.overflowError"], apart := false, narrowed := true }
def FnExactOverAtUptoSaid : Prop := fnExactOverAtUptoRow.holds Try.pinned (OpenSpec.upto fnExactOverAtSpec)

/-- 'laws.FnExactOnSeg', WHERE WHAT IT READS IS OF BULK AT MOST 1048576: true; the input reads as it did. -/
def fnExactOnSegUptoRow : OpenClaim := { program := "ytdanhdbanfpghaa", sum := "3f4fc2f1d44e90244fa3195d77e583fc2eaa931ad49740b27adcecde3820df23", func := "loop.example/g00225/laws.FnExactOnSeg", spec := "fnExactOnSeg", inPlace := ["math/bits.Add64", "math/bits.Sub64"], named := ["math/bits.divideError", "math/bits.overflowError"], apart := false, narrowed := true }
def FnExactOnSegUptoSaid : Prop := fnExactOnSegUptoRow.holds Try.pinned (OpenSpec.upto fnExactOnSegSpec)

/-- 'laws.FnExactMiddle', WHERE WHAT IT READS IS OF BULK AT MOST 1048576: true; the input reads as it did. -/
def fnExactMiddleUptoRow : OpenClaim := { program := "ytdanhdbanfpghaa", sum := "3f4fc2f1d44e90244fa3195d77e583fc2eaa931ad49740b27adcecde3820df23", func := "loop.example/g00225/laws.FnExactMiddle", spec := "fnExactMiddle", inPlace := ["math/bits.Add64", "math/bits.Sub64"], named := ["math/bits.divideError", "math/bits.overflowError"], apart := false, narrowed := true }
def FnExactMiddleUptoSaid : Prop := fnExactMiddleUptoRow.holds Try.pinned (OpenSpec.upto fnExactMiddleSpec)

/-- 'laws.FnExactDist2', WHERE WHAT IT READS IS OF BULK AT MOST 1048576: true; the input reads as it did. -/
def fnExactDist2UptoRow : OpenClaim := { program := "ytdanhdbanfpghaa", sum := "3f4fc2f1d44e90244fa3195d77e583fc2eaa931ad49740b27adcecde3820df23", func := "loop.example/g00225/laws.FnExactDist2", spec := "fnExactDist2", inPlace := ["math/bits.Add64", "math/bits.Sub64"], named := ["math/bits.divideError", "math/bits.overflowError"], apart := false, narrowed := true }
def FnExactDist2UptoSaid : Prop := fnExactDist2UptoRow.holds Try.pinned (OpenSpec.upto fnExactDist2Spec)

/-- 'laws.FnExactNear2', WHERE WHAT IT READS IS OF BULK AT MOST 1048576: true; the input reads as it did. -/
def fnExactNear2UptoRow : OpenClaim := { program := "ytdanhdbanfpghaa", sum := "3f4fc2f1d44e90244fa3195d77e583fc2eaa931ad49740b27adcecde3820df23", func := "loop.example/g00225/laws.FnExactNear2", spec := "fnExactNear2", inPlace := ["math/bits.Add64", "math/bits.Sub64"], named := ["math/bits.divideError", "math/bits.overflowError"], apart := false, narrowed := true }
def FnExactNear2UptoSaid : Prop := fnExactNear2UptoRow.holds Try.pinned (OpenSpec.upto fnExactNear2Spec)

/-- 'laws.FnExactEventsOk', WHERE WHAT IT READS IS OF BULK AT MOST 1048576: true; the input reads as it did. -/
def fnExactEventsOkUptoRow : OpenClaim := { program := "ytdanhdbanfpghaa", sum := "3f4fc2f1d44e90244fa3195d77e583fc2eaa931ad49740b27adcecde3820df23", func := "loop.example/g00225/laws.FnExactEventsOk", spec := "fnExactEventsOk", inPlace := ["math/bits.Add64", "math/bits.Sub64"], named := ["math/bits.divideError", "math/bits.overflowError"], apart := false, narrowed := true }
def FnExactEventsOkUptoSaid : Prop := fnExactEventsOkUptoRow.holds Try.pinned (OpenSpec.upto fnExactEventsOkSpec)

/-- 'laws.FnExactHitAt', WHERE WHAT IT READS IS OF BULK AT MOST 1048576: true; the input reads as it did. -/
def fnExactHitAtUptoRow : OpenClaim := { program := "ytdanhdbanfpghaa", sum := "3f4fc2f1d44e90244fa3195d77e583fc2eaa931ad49740b27adcecde3820df23", func := "loop.example/g00225/laws.FnExactHitAt", spec := "fnExactHitAt", inPlace := ["math/bits.Add64", "math/bits.Sub64"], named := ["math/bits.divideError", "math/bits.overflowError"], apart := false, narrowed := true }
def FnExactHitAtUptoSaid : Prop := fnExactHitAtUptoRow.holds Try.pinned (OpenSpec.upto fnExactHitAtSpec)

/-- 'laws.FnExactEventTake', WHERE WHAT IT READS IS OF BULK AT MOST 1048576: true; the input reads as it did. -/
def fnExactEventTakeUptoRow : OpenClaim := { program := "ytdanhdbanfpghaa", sum := "3f4fc2f1d44e90244fa3195d77e583fc2eaa931ad49740b27adcecde3820df23", func := "loop.example/g00225/laws.FnExactEventTake", spec := "fnExactEventTake", inPlace := ["math/bits.Add64", "math/bits.Sub64"], named := ["math/bits.divideError", "math/bits.overflowError"], apart := false, narrowed := true }
def FnExactEventTakeUptoSaid : Prop := fnExactEventTakeUptoRow.holds Try.pinned (OpenSpec.upto fnExactEventTakeSpec)

end Rows
end Go.Proofs.Ytdanhdbanfpghaa
