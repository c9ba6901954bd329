/-
  No cell of these rows narrows 'for every input' (looked for: loops, veiled, ifaces, maps, wideKeys, modest, calm, conditions, laid).
  DERIVED. THE GIVEN ROWS OF THIS SEAT. 12 by the template 'for every input the law returns true; each argument reads behind the call as it read before'; 0 by the template 'total and deterministic' (their statements: YtpnjkjahfklfnaaTotals.lean).
  GIVEN WITH THE SEED: the statements are not yours to turn. If you find one false, say at which input.
  Laid BY PROGRAM, IN A SANDBOX (cutbox-rows.mjs): the forced cells as the released guide's own fill.sh prints them over the translation 2e439f12ce484445… (all of the seat's roots in one cut). By AI agents, Wed Nov 11 2026. No macro, syntax, notation, axiom, sorry.
-/
import Derived.Test.YtpnjkjahfklfnaaChecked
import GoSem.Claim
import GoSem.ClaimJoined
import GoSem.ClaimMapViews
import Derived.JoinedTies
import Derived.KernelRfl
namespace Go.Proofs.Ytpnjkjahfklfnaa
/- THE CELL 'sum', in the pinned program and in every row, IS THE sha256 OF THE DUMP (.gsa) THAT YtpnjkjahfklfnaaProg.lean LOADS. Nothing in Lean hashes anything: it is a label: what it is worth is what the hold of that sum in a sandbox is worth. -/
noncomputable def Try.pinned : Pinned := { name := "ytpnjkjahfklfnaa", sum := "2e439f12ce484445aee373ba4711c440aa0ca32ce6c818ca57148b540a33205d", checked := Try.checked }
namespace Rows
def none {H : Type} : Left H := { results := [], args := [] }

/-- 'laws.FnExactRatioOf': WHATEVER THE INPUT: true; the input reads as it did. -/
def fnExactRatioOfSpec : ChangeSpec := { name := "fnExactRatioOf", fn := fun _ => fun
  | [d1, d2] => { results := [.lit (.bool true)], args := [d1, d2] }
  | _ => none }
def fnExactRatioOfRow : OpenClaim := { program := "ytpnjkjahfklfnaa", sum := "2e439f12ce484445aee373ba4711c440aa0ca32ce6c818ca57148b540a33205d", func := "loop.example/g00225/laws.FnExactRatioOf", spec := "fnExactRatioOf", inPlace := ["math/bits.Add64", "math/bits.Sub64"], named := ["math/bits.divideError", "math/bits.overflowError"], apart := false }
def FnExactRatioOfSaid : Prop := fnExactRatioOfRow.holds Try.pinned (OpenSpec.ofChange fnExactRatioOfSpec)

/-- ITS FALSE NEIGHBOUR: 'it returns false'. Refute it at one input. -/
def fnExactRatioOfWrong : ChangeSpec := { name := "fnExactRatioOf", fn := fun _ => fun
  | [d1, d2] => { results := [.lit (.bool false)], args := [d1, d2] }
  | _ => none }
def FnExactRatioOfWrongFalsely : Prop := fnExactRatioOfRow.holds Try.pinned (OpenSpec.ofChange fnExactRatioOfWrong)

/-- 'laws.FnExactRatioMul': WHATEVER THE INPUT: true; the input reads as it did. -/
def fnExactRatioMulSpec : ChangeSpec := { name := "fnExactRatioMul", fn := fun _ => fun
  | [d1, d2] => { results := [.lit (.bool true)], args := [d1, d2] }
  | _ => none }
def fnExactRatioMulRow : OpenClaim := { program := "ytpnjkjahfklfnaa", sum := "2e439f12ce484445aee373ba4711c440aa0ca32ce6c818ca57148b540a33205d", func := "loop.example/g00225/laws.FnExactRatioMul", spec := "fnExactRatioMul", inPlace := ["math/bits.Add64", "math/bits.Sub64"], named := ["math/bits.divideError", "math/bits.overflowError"], apart := false }
def FnExactRatioMulSaid : Prop := fnExactRatioMulRow.holds Try.pinned (OpenSpec.ofChange fnExactRatioMulSpec)

/-- ITS FALSE NEIGHBOUR: 'it returns false'. Refute it at one input. -/
def fnExactRatioMulWrong : ChangeSpec := { name := "fnExactRatioMul", fn := fun _ => fun
  | [d1, d2] => { results := [.lit (.bool false)], args := [d1, d2] }
  | _ => none }
def FnExactRatioMulWrongFalsely : Prop := fnExactRatioMulRow.holds Try.pinned (OpenSpec.ofChange fnExactRatioMulWrong)

/-- 'laws.FnExactRatioDiv': WHATEVER THE INPUT: true; the input reads as it did. -/
def fnExactRatioDivSpec : ChangeSpec := { name := "fnExactRatioDiv", fn := fun _ => fun
  | [d1, d2] => { results := [.lit (.bool true)], args := [d1, d2] }
  | _ => none }
def fnExactRatioDivRow : OpenClaim := { program := "ytpnjkjahfklfnaa", sum := "2e439f12ce484445aee373ba4711c440aa0ca32ce6c818ca57148b540a33205d", func := "loop.example/g00225/laws.FnExactRatioDiv", spec := "fnExactRatioDiv", inPlace := ["math/bits.Add64", "math/bits.Sub64"], named := ["math/bits.divideError", "math/bits.overflowError"], apart := false }
def FnExactRatioDivSaid : Prop := fnExactRatioDivRow.holds Try.pinned (OpenSpec.ofChange fnExactRatioDivSpec)

/-- ITS FALSE NEIGHBOUR: 'it returns false'. Refute it at one input. -/
def fnExactRatioDivWrong : ChangeSpec := { name := "fnExactRatioDiv", fn := fun _ => fun
  | [d1, d2] => { results := [.lit (.bool false)], args := [d1, d2] }
  | _ => none }
def FnExactRatioDivWrongFalsely : Prop := fnExactRatioDivRow.holds Try.pinned (OpenSpec.ofChange fnExactRatioDivWrong)

/-- 'laws.FnExactRatioAdd': WHATEVER THE INPUT: true; the input reads as it did. -/
def fnExactRatioAddSpec : ChangeSpec := { name := "fnExactRatioAdd", fn := fun _ => fun
  | [d1, d2] => { results := [.lit (.bool true)], args := [d1, d2] }
  | _ => none }
def fnExactRatioAddRow : OpenClaim := { program := "ytpnjkjahfklfnaa", sum := "2e439f12ce484445aee373ba4711c440aa0ca32ce6c818ca57148b540a33205d", func := "loop.example/g00225/laws.FnExactRatioAdd", spec := "fnExactRatioAdd", inPlace := ["math/bits.Add64", "math/bits.Sub64"], named := ["math/bits.divideError", "math/bits.overflowError"], apart := false }
def FnExactRatioAddSaid : Prop := fnExactRatioAddRow.holds Try.pinned (OpenSpec.ofChange fnExactRatioAddSpec)

/-- ITS FALSE NEIGHBOUR: 'it returns false'. Refute it at one input. -/
def fnExactRatioAddWrong : ChangeSpec := { name := "fnExactRatioAdd", fn := fun _ => fun
  | [d1, d2] => { results := [.lit (.bool false)], args := [d1, d2] }
  | _ => none }
def FnExactRatioAddWrongFalsely : Prop := fnExactRatioAddRow.holds Try.pinned (OpenSpec.ofChange fnExactRatioAddWrong)

/-- 'laws.FnExactRatioText': WHATEVER THE INPUT: true; the input reads as it did. -/
def fnExactRatioTextSpec : ChangeSpec := { name := "fnExactRatioText", fn := fun _ => fun
  | [d] => { results := [.lit (.bool true)], args := [d] }
  | _ => none }
def fnExactRatioTextRow : OpenClaim := { program := "ytpnjkjahfklfnaa", sum := "2e439f12ce484445aee373ba4711c440aa0ca32ce6c818ca57148b540a33205d", func := "loop.example/g00225/laws.FnExactRatioText", spec := "fnExactRatioText", inPlace := ["math/bits.Add64", "math/bits.Sub64"], named := ["math/bits.divideError", "math/bits.overflowError"], apart := false }
def FnExactRatioTextSaid : Prop := fnExactRatioTextRow.holds Try.pinned (OpenSpec.ofChange fnExactRatioTextSpec)

/-- ITS FALSE NEIGHBOUR: 'it returns false'. Refute it at one input. -/
def fnExactRatioTextWrong : ChangeSpec := { name := "fnExactRatioText", fn := fun _ => fun
  | [d] => { results := [.lit (.bool false)], args := [d] }
  | _ => none }
def FnExactRatioTextWrongFalsely : Prop := fnExactRatioTextRow.holds Try.pinned (OpenSpec.ofChange fnExactRatioTextWrong)

/-- 'laws.FnExactReadRatio': WHATEVER THE INPUT: true; the input reads as it did. -/
def fnExactReadRatioSpec : ChangeSpec := { name := "fnExactReadRatio", fn := fun _ => fun
  | [d] => { results := [.lit (.bool true)], args := [d] }
  | _ => none }
def fnExactReadRatioRow : OpenClaim := { program := "ytpnjkjahfklfnaa", sum := "2e439f12ce484445aee373ba4711c440aa0ca32ce6c818ca57148b540a33205d", func := "loop.example/g00225/laws.FnExactReadRatio", spec := "fnExactReadRatio", inPlace := ["internal/bytealg.IndexByteString", "internal/bytealg.IndexString", "math/bits.Add64", "math/bits.Sub64"], named := ["internal/bytealg.MaxLen", "math/bits.divideError", "math/bits.overflowError"], apart := false }
def FnExactReadRatioSaid : Prop := fnExactReadRatioRow.holds Try.pinned (OpenSpec.ofChange fnExactReadRatioSpec)

/-- ITS FALSE NEIGHBOUR: 'it returns false'. Refute it at one input. -/
def fnExactReadRatioWrong : ChangeSpec := { name := "fnExactReadRatio", fn := fun _ => fun
  | [d] => { results := [.lit (.bool false)], args := [d] }
  | _ => none }
def FnExactReadRatioWrongFalsely : Prop := fnExactReadRatioRow.holds Try.pinned (OpenSpec.ofChange fnExactReadRatioWrong)

/-- 'laws.FnExactPointOk': WHATEVER THE INPUT: true; the input reads as it did. -/
def fnExactPointOkSpec : ChangeSpec := { name := "fnExactPointOk", fn := fun _ => fun
  | [d] => { results := [.lit (.bool true)], args := [d] }
  | _ => none }
def fnExactPointOkRow : OpenClaim := { program := "ytpnjkjahfklfnaa", sum := "2e439f12ce484445aee373ba4711c440aa0ca32ce6c818ca57148b540a33205d", func := "loop.example/g00225/laws.FnExactPointOk", spec := "fnExactPointOk", inPlace := ["math/bits.Add64", "math/bits.Sub64"], named := ["math/bits.divideError", "math/bits.overflowError"], apart := false }
def FnExactPointOkSaid : Prop := fnExactPointOkRow.holds Try.pinned (OpenSpec.ofChange fnExactPointOkSpec)

/-- ITS FALSE NEIGHBOUR: 'it returns false'. Refute it at one input. -/
def fnExactPointOkWrong : ChangeSpec := { name := "fnExactPointOk", fn := fun _ => fun
  | [d] => { results := [.lit (.bool false)], args := [d] }
  | _ => none }
def FnExactPointOkWrongFalsely : Prop := fnExactPointOkRow.holds Try.pinned (OpenSpec.ofChange fnExactPointOkWrong)

/-- 'laws.FnExactPointMake': WHATEVER THE INPUT: true; the input reads as it did. -/
def fnExactPointMakeSpec : ChangeSpec := { name := "fnExactPointMake", fn := fun _ => fun
  | [d1, d2, d3] => { results := [.lit (.bool true)], args := [d1, d2, d3] }
  | _ => none }
def fnExactPointMakeRow : OpenClaim := { program := "ytpnjkjahfklfnaa", sum := "2e439f12ce484445aee373ba4711c440aa0ca32ce6c818ca57148b540a33205d", func := "loop.example/g00225/laws.FnExactPointMake", spec := "fnExactPointMake", inPlace := ["math/bits.Add64", "math/bits.Sub64"], named := ["math/bits.divideError", "math/bits.overflowError"], apart := false }
def FnExactPointMakeSaid : Prop := fnExactPointMakeRow.holds Try.pinned (OpenSpec.ofChange fnExactPointMakeSpec)

/-- ITS FALSE NEIGHBOUR: 'it returns false'. Refute it at one input. -/
def fnExactPointMakeWrong : ChangeSpec := { name := "fnExactPointMake", fn := fun _ => fun
  | [d1, d2, d3] => { results := [.lit (.bool false)], args := [d1, d2, d3] }
  | _ => none }
def FnExactPointMakeWrongFalsely : Prop := fnExactPointMakeRow.holds Try.pinned (OpenSpec.ofChange fnExactPointMakeWrong)

/-- 'laws.FnExactPointCmp': WHATEVER THE INPUT: true; the input reads as it did. -/
def fnExactPointCmpSpec : ChangeSpec := { name := "fnExactPointCmp", fn := fun _ => fun
  | [d1, d2] => { results := [.lit (.bool true)], args := [d1, d2] }
  | _ => none }
def fnExactPointCmpRow : OpenClaim := { program := "ytpnjkjahfklfnaa", sum := "2e439f12ce484445aee373ba4711c440aa0ca32ce6c818ca57148b540a33205d", func := "loop.example/g00225/laws.FnExactPointCmp", spec := "fnExactPointCmp", inPlace := ["math/bits.Add64", "math/bits.Sub64"], named := ["math/bits.divideError", "math/bits.overflowError"], apart := false }
def FnExactPointCmpSaid : Prop := fnExactPointCmpRow.holds Try.pinned (OpenSpec.ofChange fnExactPointCmpSpec)

/-- ITS FALSE NEIGHBOUR: 'it returns false'. Refute it at one input. -/
def fnExactPointCmpWrong : ChangeSpec := { name := "fnExactPointCmp", fn := fun _ => fun
  | [d1, d2] => { results := [.lit (.bool false)], args := [d1, d2] }
  | _ => none }
def FnExactPointCmpWrongFalsely : Prop := fnExactPointCmpRow.holds Try.pinned (OpenSpec.ofChange fnExactPointCmpWrong)

/-- 'laws.FnExactOrient': WHATEVER THE INPUT: true; the input reads as it did. -/
def fnExactOrientSpec : ChangeSpec := { name := "fnExactOrient", fn := fun _ => fun
  | [d1, d2, d3] => { results := [.lit (.bool true)], args := [d1, d2, d3] }
  | _ => none }
def fnExactOrientRow : OpenClaim := { program := "ytpnjkjahfklfnaa", sum := "2e439f12ce484445aee373ba4711c440aa0ca32ce6c818ca57148b540a33205d", func := "loop.example/g00225/laws.FnExactOrient", spec := "fnExactOrient", inPlace := ["math/bits.Add64", "math/bits.Sub64"], named := ["math/bits.divideError", "math/bits.overflowError"], apart := false }
def FnExactOrientSaid : Prop := fnExactOrientRow.holds Try.pinned (OpenSpec.ofChange fnExactOrientSpec)

/-- ITS FALSE NEIGHBOUR: 'it returns false'. Refute it at one input. -/
def fnExactOrientWrong : ChangeSpec := { name := "fnExactOrient", fn := fun _ => fun
  | [d1, d2, d3] => { results := [.lit (.bool false)], args := [d1, d2, d3] }
  | _ => none }
def FnExactOrientWrongFalsely : Prop := fnExactOrientRow.holds Try.pinned (OpenSpec.ofChange fnExactOrientWrong)

/-- 'laws.FnExactPointText': WHATEVER THE INPUT: true; the input reads as it did. -/
def fnExactPointTextSpec : ChangeSpec := { name := "fnExactPointText", fn := fun _ => fun
  | [d] => { results := [.lit (.bool true)], args := [d] }
  | _ => none }
def fnExactPointTextRow : OpenClaim := { program := "ytpnjkjahfklfnaa", sum := "2e439f12ce484445aee373ba4711c440aa0ca32ce6c818ca57148b540a33205d", func := "loop.example/g00225/laws.FnExactPointText", spec := "fnExactPointText", inPlace := ["math/bits.Add64", "math/bits.Sub64"], named := ["math/bits.divideError", "math/bits.overflowError"], apart := false }
def FnExactPointTextSaid : Prop := fnExactPointTextRow.holds Try.pinned (OpenSpec.ofChange fnExactPointTextSpec)

/-- ITS FALSE NEIGHBOUR: 'it returns false'. Refute it at one input. -/
def fnExactPointTextWrong : ChangeSpec := { name := "fnExactPointText", fn := fun _ => fun
  | [d] => { results := [.lit (.bool false)], args := [d] }
  | _ => none }
def FnExactPointTextWrongFalsely : Prop := fnExactPointTextRow.holds Try.pinned (OpenSpec.ofChange fnExactPointTextWrong)

/-- 'laws.FnExactReadPoint': WHATEVER THE INPUT: true; the input reads as it did. -/
def fnExactReadPointSpec : ChangeSpec := { name := "fnExactReadPoint", fn := fun _ => fun
  | [d] => { results := [.lit (.bool true)], args := [d] }
  | _ => none }
def fnExactReadPointRow : OpenClaim := { program := "ytpnjkjahfklfnaa", sum := "2e439f12ce484445aee373ba4711c440aa0ca32ce6c818ca57148b540a33205d", func := "loop.example/g00225/laws.FnExactReadPoint", spec := "fnExactReadPoint", inPlace := ["internal/bytealg.IndexByteString", "internal/bytealg.IndexString", "math/bits.Add64", "math/bits.Sub64"], named := ["internal/bytealg.MaxLen", "math/bits.divideError", "math/bits.overflowError"], apart := false }
def FnExactReadPointSaid : Prop := fnExactReadPointRow.holds Try.pinned (OpenSpec.ofChange fnExactReadPointSpec)

/-- ITS FALSE NEIGHBOUR: 'it returns false'. Refute it at one input. -/
def fnExactReadPointWrong : ChangeSpec := { name := "fnExactReadPoint", fn := fun _ => fun
  | [d] => { results := [.lit (.bool false)], args := [d] }
  | _ => none }
def FnExactReadPointWrongFalsely : Prop := fnExactReadPointRow.holds Try.pinned (OpenSpec.ofChange fnExactReadPointWrong)

/- THE SECOND FORM. 'bulk': how many values and letters a reading holds, each counted each time it is reached (what is shared counts as often as it is met; a slice's spare places count too). A statement '..UptoSaid' is the law's where the arguments, and the package variables that the reading takes, are together of bulk at most 1048576: NARROWER than '..Said'. Prove '..Said' where nothing that the law and all that it calls make is longer than what came in: it says more and counts as full. Else prove '..UptoSaid'. A law counts once. -/
mutual
def uptoBulk {H : Type} : DataW H → Nat
  | .lit (.string bytes) => bytes.length + 1
  | .lit _ => 1
  | .nil => 1
  | .ptr d => uptoBulk d + 1
  | .slice elems spare => uptoBulkAll elems + uptoBulkAll spare + 1
  | .agg parts => uptoBulkAll parts + 1
  | .iface _ d => uptoBulk d + 1
  | .map entries => uptoBulkEntries entries + 1
  | .held _ => 1
def uptoBulkAll {H : Type} : List (DataW H) → Nat
  | [] => 0
  | d :: r => uptoBulk d + uptoBulkAll r
def uptoBulkEntries {H : Type} : List (Lit × DataW H) → Nat
  | [] => 0
  | x :: r => uptoBulkEntry x + uptoBulkEntries r
def uptoBulkEntry {H : Type} : Lit × DataW H → Nat
  | (.string bytes, d) => bytes.length + uptoBulk d + 1
  | (_, d) => uptoBulk d + 1
 end
def uptoSmall : (H : Type) → List (DataW H) → Bool := fun _ ds => decide (uptoBulkAll ds ≤ 1048576)
def OpenSpec.upto (s : _root_.Go.ChangeSpec) : _root_.Go.OpenSpec := { _root_.Go.OpenSpec.ofChange s with cond := some uptoSmall }

/-- 'laws.FnExactRatioOf', WHERE WHAT IT READS IS OF BULK AT MOST 1048576: true; the input reads as it did. -/
def fnExactRatioOfUptoRow : OpenClaim := { program := "ytpnjkjahfklfnaa", sum := "2e439f12ce484445aee373ba4711c440aa0ca32ce6c818ca57148b540a33205d", func := "loop.example/g00225/laws.FnExactRatioOf", spec := "fnExactRatioOf", inPlace := ["math/bits.Add64", "math/bits.Sub64"], named := ["math/bits.divideError", "math/bits.overflowError"], apart := false, narrowed := true }
def FnExactRatioOfUptoSaid : Prop := fnExactRatioOfUptoRow.holds Try.pinned (OpenSpec.upto fnExactRatioOfSpec)

/-- 'laws.FnExactRatioMul', WHERE WHAT IT READS IS OF BULK AT MOST 1048576: true; the input reads as it did. -/
def fnExactRatioMulUptoRow : OpenClaim := { program := "ytpnjkjahfklfnaa", sum := "2e439f12ce484445aee373ba4711c440aa0ca32ce6c818ca57148b540a33205d", func := "loop.example/g00225/laws.FnExactRatioMul", spec := "fnExactRatioMul", inPlace := ["math/bits.Add64", "math/bits.Sub64"], named := ["math/bits.divideError", "math/bits.overflowError"], apart := false, narrowed := true }
def FnExactRatioMulUptoSaid : Prop := fnExactRatioMulUptoRow.holds Try.pinned (OpenSpec.upto fnExactRatioMulSpec)

/-- 'laws.FnExactRatioDiv', WHERE WHAT IT READS IS OF BULK AT MOST 1048576: true; the input reads as it did. -/
def fnExactRatioDivUptoRow : OpenClaim := { program := "ytpnjkjahfklfnaa", sum := "2e439f12ce484445aee373ba4711c440aa0ca32ce6c818ca57148b540a33205d", func := "loop.example/g00225/laws.FnExactRatioDiv", spec := "fnExactRatioDiv", inPlace := ["math/bits.Add64", "math/bits.Sub64"], named := ["math/bits.divideError", "math/bits.overflowError"], apart := false, narrowed := true }
def FnExactRatioDivUptoSaid : Prop := fnExactRatioDivUptoRow.holds Try.pinned (OpenSpec.upto fnExactRatioDivSpec)

/-- 'laws.FnExactRatioAdd', WHERE WHAT IT READS IS OF BULK AT MOST 1048576: true; the input reads as it did. -/
def fnExactRatioAddUptoRow : OpenClaim := { program := "ytpnjkjahfklfnaa", sum := "2e439f12ce484445aee373ba4711c440aa0ca32ce6c818ca57148b540a33205d", func := "loop.example/g00225/laws.FnExactRatioAdd", spec := "fnExactRatioAdd", inPlace := ["math/bits.Add64", "math/bits.Sub64"], named := ["math/bits.divideError", "math/bits.overflowError"], apart := false, narrowed := true }
def FnExactRatioAddUptoSaid : Prop := fnExactRatioAddUptoRow.holds Try.pinned (OpenSpec.upto fnExactRatioAddSpec)

/-- 'laws.FnExactRatioText', WHERE WHAT IT READS IS OF BULK AT MOST 1048576: true; the input reads as it did. -/
def fnExactRatioTextUptoRow : OpenClaim := { program := "ytpnjkjahfklfnaa", sum := "2e439f12ce484445aee373ba4711c440aa0ca32ce6c818ca57148b540a33205d", func := "loop.example/g00225/laws.FnExactRatioText", spec := "fnExactRatioText", inPlace := ["math/bits.Add64", "math/bits.Sub64"], named := ["math/bits.divideError", "math/bits.overflowError"], apart := false, narrowed := true }
def FnExactRatioTextUptoSaid : Prop := fnExactRatioTextUptoRow.holds Try.pinned (OpenSpec.upto fnExactRatioTextSpec)

/-- 'laws.FnExactReadRatio', WHERE WHAT IT READS IS OF BULK AT MOST 1048576: true; the input reads as it did. -/
def fnExactReadRatioUptoRow : OpenClaim := { program := "ytpnjkjahfklfnaa", sum := "2e439f12ce484445aee373ba4711c440aa0ca32ce6c818ca57148b540a33205d", func := "loop.example/g00225/laws.FnExactReadRatio", spec := "fnExactReadRatio", inPlace := ["internal/bytealg.IndexByteString", "internal/bytealg.IndexString", "math/bits.Add64", "math/bits.Sub64"], named := ["internal/bytealg.MaxLen", "math/bits.divideError", "math/bits.overflowError"], apart := false, narrowed := true }
def FnExactReadRatioUptoSaid : Prop := fnExactReadRatioUptoRow.holds Try.pinned (OpenSpec.upto fnExactReadRatioSpec)

/-- 'laws.FnExactPointOk', WHERE WHAT IT READS IS OF BULK AT MOST 1048576: true; the input reads as it did. -/
def fnExactPointOkUptoRow : OpenClaim := { program := "ytpnjkjahfklfnaa", sum := "2e439f12ce484445aee373ba4711c440aa0ca32ce6c818ca57148b540a33205d", func := "loop.example/g00225/laws.FnExactPointOk", spec := "fnExactPointOk", inPlace := ["math/bits.Add64", "math/bits.Sub64"], named := ["math/bits.divideError", "math/bits.overflowError"], apart := false, narrowed := true }
def FnExactPointOkUptoSaid : Prop := fnExactPointOkUptoRow.holds Try.pinned (OpenSpec.upto fnExactPointOkSpec)

/-- 'laws.FnExactPointMake', WHERE WHAT IT READS IS OF BULK AT MOST 1048576: true; the input reads as it did. -/
def fnExactPointMakeUptoRow : OpenClaim := { program := "ytpnjkjahfklfnaa", sum := "2e439f12ce484445aee373ba4711c440aa0ca32ce6c818ca57148b540a33205d", func := "loop.example/g00225/laws.FnExactPointMake", spec := "fnExactPointMake", inPlace := ["math/bits.Add64", "math/bits.Sub64"], named := ["math/bits.divideError", "math/bits.overflowError"], apart := false, narrowed := true }
def FnExactPointMakeUptoSaid : Prop := fnExactPointMakeUptoRow.holds Try.pinned (OpenSpec.upto fnExactPointMakeSpec)

/-- 'laws.FnExactPointCmp', WHERE WHAT IT READS IS OF BULK AT MOST 1048576: true; the input reads as it did. -/
def fnExactPointCmpUptoRow : OpenClaim := { program := "ytpnjkjahfklfnaa", sum := "2e439f12ce484445aee373ba4711c440aa0ca32ce6c818ca57148b540a33205d", func := "loop.example/g00225/laws.FnExactPointCmp", spec := "fnExactPointCmp", inPlace := ["math/bits.Add64", "math/bits.Sub64"], named := ["math/bits.divideError", "math/bits.overflowError"], apart := false, narrowed := true }
def FnExactPointCmpUptoSaid : Prop := fnExactPointCmpUptoRow.holds Try.pinned (OpenSpec.upto fnExactPointCmpSpec)

/-- 'laws.FnExactOrient', WHERE WHAT IT READS IS OF BULK AT MOST 1048576: true; the input reads as it did. -/
def fnExactOrientUptoRow : OpenClaim := { program := "ytpnjkjahfklfnaa", sum := "2e439f12ce484445aee373ba4711c440aa0ca32ce6c818ca57148b540a33205d", func := "loop.example/g00225/laws.FnExactOrient", spec := "fnExactOrient", inPlace := ["math/bits.Add64", "math/bits.Sub64"], named := ["math/bits.divideError", "math/bits.overflowError"], apart := false, narrowed := true }
def FnExactOrientUptoSaid : Prop := fnExactOrientUptoRow.holds Try.pinned (OpenSpec.upto fnExactOrientSpec)

/-- 'laws.FnExactPointText', WHERE WHAT IT READS IS OF BULK AT MOST 1048576: true; the input reads as it did. -/
def fnExactPointTextUptoRow : OpenClaim := { program := "ytpnjkjahfklfnaa", sum := "2e439f12ce484445aee373ba4711c440aa0ca32ce6c818ca57148b540a33205d", func := "loop.example/g00225/laws.FnExactPointText", spec := "fnExactPointText", inPlace := ["math/bits.Add64", "math/bits.Sub64"], named := ["math/bits.divideError", "math/bits.overflowError"], apart := false, narrowed := true }
def FnExactPointTextUptoSaid : Prop := fnExactPointTextUptoRow.holds Try.pinned (OpenSpec.upto fnExactPointTextSpec)

/-- 'laws.FnExactReadPoint', WHERE WHAT IT READS IS OF BULK AT MOST 1048576: true; the input reads as it did. -/
def fnExactReadPointUptoRow : OpenClaim := { program := "ytpnjkjahfklfnaa", sum := "2e439f12ce484445aee373ba4711c440aa0ca32ce6c818ca57148b540a33205d", func := "loop.example/g00225/laws.FnExactReadPoint", spec := "fnExactReadPoint", inPlace := ["internal/bytealg.IndexByteString", "internal/bytealg.IndexString", "math/bits.Add64", "math/bits.Sub64"], named := ["internal/bytealg.MaxLen", "math/bits.divideError", "math/bits.overflowError"], apart := false, narrowed := true }
def FnExactReadPointUptoSaid : Prop := fnExactReadPointUptoRow.holds Try.pinned (OpenSpec.upto fnExactReadPointSpec)

end Rows
end Go.Proofs.Ytpnjkjahfklfnaa
