/-
  No cell of these rows narrows 'for every input' (looked for: loops, veiled, ifaces, maps, wideKeys, modest, calm, conditions, laid).
  DERIVED. THE GIVEN ROWS OF THIS SEAT. 12 by the template 'for every input the law returns true; each argument reads behind the call as it read before'; 0 by the template 'total and deterministic' (their statements: YtjahakhbdjadaaaTotals.lean).
  GIVEN WITH THE SEED: the statements are not yours to turn. If you find one false, say at which input.
  Laid BY PROGRAM, IN A SANDBOX (cutbox-rows.mjs): the forced cells as the released guide's own fill.sh prints them over the translation 5d593a65e5f3bb92… (all of the seat's roots in one cut). By AI agents, Wed Nov 11 2026. No macro, syntax, notation, axiom, sorry.
-/
import Derived.Test.YtjahakhbdjadaaaChecked
import GoSem.Claim
import GoSem.ClaimJoined
import GoSem.ClaimMapViews
import Derived.JoinedTies
import Derived.KernelRfl
namespace Go.Proofs.Ytjahakhbdjadaaa
/- THE CELL 'sum', in the pinned program and in every row, IS THE sha256 OF THE DUMP (.gsa) THAT YtjahakhbdjadaaaProg.lean LOADS. Nothing in Lean hashes anything: it is a label: what it is worth is what the hold of that sum in a sandbox is worth. -/
noncomputable def Try.pinned : Pinned := { name := "ytjahakhbdjadaaa", sum := "5d593a65e5f3bb92d37b56b09e843dfc73f3c4888288ce87230a6f460b5d8e64", checked := Try.checked }
namespace Rows
def none {H : Type} : Left H := { results := [], args := [] }

/-- 'laws.FnExactWideSign': WHATEVER THE INPUT: true; the input reads as it did. -/
def fnExactWideSignSpec : ChangeSpec := { name := "fnExactWideSign", fn := fun _ => fun
  | [d] => { results := [.lit (.bool true)], args := [d] }
  | _ => none }
def fnExactWideSignRow : OpenClaim := { program := "ytjahakhbdjadaaa", sum := "5d593a65e5f3bb92d37b56b09e843dfc73f3c4888288ce87230a6f460b5d8e64", func := "loop.example/g00225/laws.FnExactWideSign", spec := "fnExactWideSign", inPlace := ["math/bits.Add64"], apart := false }
def FnExactWideSignSaid : Prop := fnExactWideSignRow.holds Try.pinned (OpenSpec.ofChange fnExactWideSignSpec)

/-- ITS FALSE NEIGHBOUR: 'it returns false'. Refute it at one input. -/
def fnExactWideSignWrong : ChangeSpec := { name := "fnExactWideSign", fn := fun _ => fun
  | [d] => { results := [.lit (.bool false)], args := [d] }
  | _ => none }
def FnExactWideSignWrongFalsely : Prop := fnExactWideSignRow.holds Try.pinned (OpenSpec.ofChange fnExactWideSignWrong)

/-- 'laws.FnExactWideBits': WHATEVER THE INPUT: true; the input reads as it did. -/
def fnExactWideBitsSpec : ChangeSpec := { name := "fnExactWideBits", fn := fun _ => fun
  | [d] => { results := [.lit (.bool true)], args := [d] }
  | _ => none }
def fnExactWideBitsRow : OpenClaim := { program := "ytjahakhbdjadaaa", sum := "5d593a65e5f3bb92d37b56b09e843dfc73f3c4888288ce87230a6f460b5d8e64", func := "loop.example/g00225/laws.FnExactWideBits", spec := "fnExactWideBits", inPlace := ["math/bits.Add64"], apart := false }
def FnExactWideBitsSaid : Prop := fnExactWideBitsRow.holds Try.pinned (OpenSpec.ofChange fnExactWideBitsSpec)

/-- ITS FALSE NEIGHBOUR: 'it returns false'. Refute it at one input. -/
def fnExactWideBitsWrong : ChangeSpec := { name := "fnExactWideBits", fn := fun _ => fun
  | [d] => { results := [.lit (.bool false)], args := [d] }
  | _ => none }
def FnExactWideBitsWrongFalsely : Prop := fnExactWideBitsRow.holds Try.pinned (OpenSpec.ofChange fnExactWideBitsWrong)

/-- 'laws.FnExactWideCmp': WHATEVER THE INPUT: true; the input reads as it did. -/
def fnExactWideCmpSpec : ChangeSpec := { name := "fnExactWideCmp", fn := fun _ => fun
  | [d1, d2] => { results := [.lit (.bool true)], args := [d1, d2] }
  | _ => none }
def fnExactWideCmpRow : OpenClaim := { program := "ytjahakhbdjadaaa", sum := "5d593a65e5f3bb92d37b56b09e843dfc73f3c4888288ce87230a6f460b5d8e64", func := "loop.example/g00225/laws.FnExactWideCmp", spec := "fnExactWideCmp", inPlace := ["math/bits.Add64", "math/bits.Sub64"], apart := false }
def FnExactWideCmpSaid : Prop := fnExactWideCmpRow.holds Try.pinned (OpenSpec.ofChange fnExactWideCmpSpec)

/-- ITS FALSE NEIGHBOUR: 'it returns false'. Refute it at one input. -/
def fnExactWideCmpWrong : ChangeSpec := { name := "fnExactWideCmp", fn := fun _ => fun
  | [d1, d2] => { results := [.lit (.bool false)], args := [d1, d2] }
  | _ => none }
def FnExactWideCmpWrongFalsely : Prop := fnExactWideCmpRow.holds Try.pinned (OpenSpec.ofChange fnExactWideCmpWrong)

/-- 'laws.FnExactWideOf': WHATEVER THE INPUT: true; the input reads as it did. -/
def fnExactWideOfSpec : ChangeSpec := { name := "fnExactWideOf", fn := fun _ => fun
  | [d] => { results := [.lit (.bool true)], args := [d] }
  | _ => none }
def fnExactWideOfRow : OpenClaim := { program := "ytjahakhbdjadaaa", sum := "5d593a65e5f3bb92d37b56b09e843dfc73f3c4888288ce87230a6f460b5d8e64", func := "loop.example/g00225/laws.FnExactWideOf", spec := "fnExactWideOf", inPlace := ["math/bits.Add64", "math/bits.Sub64"], apart := false }
def FnExactWideOfSaid : Prop := fnExactWideOfRow.holds Try.pinned (OpenSpec.ofChange fnExactWideOfSpec)

/-- ITS FALSE NEIGHBOUR: 'it returns false'. Refute it at one input. -/
def fnExactWideOfWrong : ChangeSpec := { name := "fnExactWideOf", fn := fun _ => fun
  | [d] => { results := [.lit (.bool false)], args := [d] }
  | _ => none }
def FnExactWideOfWrongFalsely : Prop := fnExactWideOfRow.holds Try.pinned (OpenSpec.ofChange fnExactWideOfWrong)

/-- 'laws.FnExactWideNeg': WHATEVER THE INPUT: true; the input reads as it did. -/
def fnExactWideNegSpec : ChangeSpec := { name := "fnExactWideNeg", fn := fun _ => fun
  | [d] => { results := [.lit (.bool true)], args := [d] }
  | _ => none }
def fnExactWideNegRow : OpenClaim := { program := "ytjahakhbdjadaaa", sum := "5d593a65e5f3bb92d37b56b09e843dfc73f3c4888288ce87230a6f460b5d8e64", func := "loop.example/g00225/laws.FnExactWideNeg", spec := "fnExactWideNeg", inPlace := ["math/bits.Add64", "math/bits.Sub64"], apart := false }
def FnExactWideNegSaid : Prop := fnExactWideNegRow.holds Try.pinned (OpenSpec.ofChange fnExactWideNegSpec)

/-- ITS FALSE NEIGHBOUR: 'it returns false'. Refute it at one input. -/
def fnExactWideNegWrong : ChangeSpec := { name := "fnExactWideNeg", fn := fun _ => fun
  | [d] => { results := [.lit (.bool false)], args := [d] }
  | _ => none }
def FnExactWideNegWrongFalsely : Prop := fnExactWideNegRow.holds Try.pinned (OpenSpec.ofChange fnExactWideNegWrong)

/-- 'laws.FnExactPointOf': WHATEVER THE INPUT: true; the input reads as it did. -/
def fnExactPointOfSpec : ChangeSpec := { name := "fnExactPointOf", fn := fun _ => fun
  | [d] => { results := [.lit (.bool true)], args := [d] }
  | _ => none }
def fnExactPointOfRow : OpenClaim := { program := "ytjahakhbdjadaaa", sum := "5d593a65e5f3bb92d37b56b09e843dfc73f3c4888288ce87230a6f460b5d8e64", func := "loop.example/g00225/laws.FnExactPointOf", spec := "fnExactPointOf", inPlace := ["math/bits.Add64", "math/bits.Sub64"], apart := false }
def FnExactPointOfSaid : Prop := fnExactPointOfRow.holds Try.pinned (OpenSpec.ofChange fnExactPointOfSpec)

/-- ITS FALSE NEIGHBOUR: 'it returns false'. Refute it at one input. -/
def fnExactPointOfWrong : ChangeSpec := { name := "fnExactPointOf", fn := fun _ => fun
  | [d] => { results := [.lit (.bool false)], args := [d] }
  | _ => none }
def FnExactPointOfWrongFalsely : Prop := fnExactPointOfRow.holds Try.pinned (OpenSpec.ofChange fnExactPointOfWrong)

/-- 'laws.FnExactWideAdd': WHATEVER THE INPUT: true; the input reads as it did. -/
def fnExactWideAddSpec : ChangeSpec := { name := "fnExactWideAdd", fn := fun _ => fun
  | [d1, d2] => { results := [.lit (.bool true)], args := [d1, d2] }
  | _ => none }
def fnExactWideAddRow : OpenClaim := { program := "ytjahakhbdjadaaa", sum := "5d593a65e5f3bb92d37b56b09e843dfc73f3c4888288ce87230a6f460b5d8e64", func := "loop.example/g00225/laws.FnExactWideAdd", spec := "fnExactWideAdd", inPlace := ["math/bits.Add64", "math/bits.Sub64"], apart := false }
def FnExactWideAddSaid : Prop := fnExactWideAddRow.holds Try.pinned (OpenSpec.ofChange fnExactWideAddSpec)

/-- ITS FALSE NEIGHBOUR: 'it returns false'. Refute it at one input. -/
def fnExactWideAddWrong : ChangeSpec := { name := "fnExactWideAdd", fn := fun _ => fun
  | [d1, d2] => { results := [.lit (.bool false)], args := [d1, d2] }
  | _ => none }
def FnExactWideAddWrongFalsely : Prop := fnExactWideAddRow.holds Try.pinned (OpenSpec.ofChange fnExactWideAddWrong)

/-- 'laws.FnExactWideSub': WHATEVER THE INPUT: true; the input reads as it did. -/
def fnExactWideSubSpec : ChangeSpec := { name := "fnExactWideSub", fn := fun _ => fun
  | [d1, d2] => { results := [.lit (.bool true)], args := [d1, d2] }
  | _ => none }
def fnExactWideSubRow : OpenClaim := { program := "ytjahakhbdjadaaa", sum := "5d593a65e5f3bb92d37b56b09e843dfc73f3c4888288ce87230a6f460b5d8e64", func := "loop.example/g00225/laws.FnExactWideSub", spec := "fnExactWideSub", inPlace := ["math/bits.Add64", "math/bits.Sub64"], apart := false }
def FnExactWideSubSaid : Prop := fnExactWideSubRow.holds Try.pinned (OpenSpec.ofChange fnExactWideSubSpec)

/-- ITS FALSE NEIGHBOUR: 'it returns false'. Refute it at one input. -/
def fnExactWideSubWrong : ChangeSpec := { name := "fnExactWideSub", fn := fun _ => fun
  | [d1, d2] => { results := [.lit (.bool false)], args := [d1, d2] }
  | _ => none }
def FnExactWideSubWrongFalsely : Prop := fnExactWideSubRow.holds Try.pinned (OpenSpec.ofChange fnExactWideSubWrong)

/-- 'laws.FnExactWideMul': WHATEVER THE INPUT: true; the input reads as it did. -/
def fnExactWideMulSpec : ChangeSpec := { name := "fnExactWideMul", fn := fun _ => fun
  | [d1, d2] => { results := [.lit (.bool true)], args := [d1, d2] }
  | _ => none }
def fnExactWideMulRow : OpenClaim := { program := "ytjahakhbdjadaaa", sum := "5d593a65e5f3bb92d37b56b09e843dfc73f3c4888288ce87230a6f460b5d8e64", func := "loop.example/g00225/laws.FnExactWideMul", spec := "fnExactWideMul", inPlace := ["math/bits.Add64", "math/bits.Sub64"], apart := false }
def FnExactWideMulSaid : Prop := fnExactWideMulRow.holds Try.pinned (OpenSpec.ofChange fnExactWideMulSpec)

/-- ITS FALSE NEIGHBOUR: 'it returns false'. Refute it at one input. -/
def fnExactWideMulWrong : ChangeSpec := { name := "fnExactWideMul", fn := fun _ => fun
  | [d1, d2] => { results := [.lit (.bool false)], args := [d1, d2] }
  | _ => none }
def FnExactWideMulWrongFalsely : Prop := fnExactWideMulRow.holds Try.pinned (OpenSpec.ofChange fnExactWideMulWrong)

/-- 'laws.FnExactWideText': WHATEVER THE INPUT: true; the input reads as it did. -/
def fnExactWideTextSpec : ChangeSpec := { name := "fnExactWideText", fn := fun _ => fun
  | [d] => { results := [.lit (.bool true)], args := [d] }
  | _ => none }
def fnExactWideTextRow : OpenClaim := { program := "ytjahakhbdjadaaa", sum := "5d593a65e5f3bb92d37b56b09e843dfc73f3c4888288ce87230a6f460b5d8e64", func := "loop.example/g00225/laws.FnExactWideText", spec := "fnExactWideText", inPlace := ["math/bits.Add64", "math/bits.Sub64"], named := ["math/bits.divideError", "math/bits.overflowError"], apart := false }
def FnExactWideTextSaid : Prop := fnExactWideTextRow.holds Try.pinned (OpenSpec.ofChange fnExactWideTextSpec)

/-- ITS FALSE NEIGHBOUR: 'it returns false'. Refute it at one input. -/
def fnExactWideTextWrong : ChangeSpec := { name := "fnExactWideText", fn := fun _ => fun
  | [d] => { results := [.lit (.bool false)], args := [d] }
  | _ => none }
def FnExactWideTextWrongFalsely : Prop := fnExactWideTextRow.holds Try.pinned (OpenSpec.ofChange fnExactWideTextWrong)

/-- 'laws.FnWideOrder': WHATEVER THE INPUT: true; the input reads as it did. -/
def fnWideOrderSpec : ChangeSpec := { name := "fnWideOrder", fn := fun _ => fun
  | [d] => { results := [.lit (.bool true)], args := [d] }
  | _ => none }
def fnWideOrderRow : OpenClaim := { program := "ytjahakhbdjadaaa", sum := "5d593a65e5f3bb92d37b56b09e843dfc73f3c4888288ce87230a6f460b5d8e64", func := "loop.example/g00225/laws.FnWideOrder", spec := "fnWideOrder", inPlace := ["math/bits.Add64", "math/bits.Sub64"], apart := false }
def FnWideOrderSaid : Prop := fnWideOrderRow.holds Try.pinned (OpenSpec.ofChange fnWideOrderSpec)

/-- ITS FALSE NEIGHBOUR: 'it returns false'. Refute it at one input. -/
def fnWideOrderWrong : ChangeSpec := { name := "fnWideOrder", fn := fun _ => fun
  | [d] => { results := [.lit (.bool false)], args := [d] }
  | _ => none }
def FnWideOrderWrongFalsely : Prop := fnWideOrderRow.holds Try.pinned (OpenSpec.ofChange fnWideOrderWrong)

/-- 'laws.FnWideSums': WHATEVER THE INPUT: true; the input reads as it did. -/
def fnWideSumsSpec : ChangeSpec := { name := "fnWideSums", fn := fun _ => fun
  | [d] => { results := [.lit (.bool true)], args := [d] }
  | _ => none }
def fnWideSumsRow : OpenClaim := { program := "ytjahakhbdjadaaa", sum := "5d593a65e5f3bb92d37b56b09e843dfc73f3c4888288ce87230a6f460b5d8e64", func := "loop.example/g00225/laws.FnWideSums", spec := "fnWideSums", inPlace := ["math/bits.Add64", "math/bits.Sub64"], apart := false }
def FnWideSumsSaid : Prop := fnWideSumsRow.holds Try.pinned (OpenSpec.ofChange fnWideSumsSpec)

/-- ITS FALSE NEIGHBOUR: 'it returns false'. Refute it at one input. -/
def fnWideSumsWrong : ChangeSpec := { name := "fnWideSums", fn := fun _ => fun
  | [d] => { results := [.lit (.bool false)], args := [d] }
  | _ => none }
def FnWideSumsWrongFalsely : Prop := fnWideSumsRow.holds Try.pinned (OpenSpec.ofChange fnWideSumsWrong)

/- THE SECOND FORM. 'bulk': how many values and letters a reading holds, each counted each time it is reached (what is shared counts as often as it is met; a slice's spare places count too). A statement '..UptoSaid' is the law's where the arguments, and the package variables that the reading takes, are together of bulk at most 1048576: NARROWER than '..Said'. Prove '..Said' where nothing that the law and all that it calls make is longer than what came in: it says more and counts as full. Else prove '..UptoSaid'. A law counts once. -/
mutual
def uptoBulk {H : Type} : DataW H → Nat
  | .lit (.string bytes) => bytes.length + 1
  | .lit _ => 1
  | .nil => 1
  | .ptr d => uptoBulk d + 1
  | .slice elems spare => uptoBulkAll elems + uptoBulkAll spare + 1
  | .agg parts => uptoBulkAll parts + 1
  | .iface _ d => uptoBulk d + 1
  | .map entries => uptoBulkEntries entries + 1
  | .held _ => 1
def uptoBulkAll {H : Type} : List (DataW H) → Nat
  | [] => 0
  | d :: r => uptoBulk d + uptoBulkAll r
def uptoBulkEntries {H : Type} : List (Lit × DataW H) → Nat
  | [] => 0
  | x :: r => uptoBulkEntry x + uptoBulkEntries r
def uptoBulkEntry {H : Type} : Lit × DataW H → Nat
  | (.string bytes, d) => bytes.length + uptoBulk d + 1
  | (_, d) => uptoBulk d + 1
 end
def uptoSmall : (H : Type) → List (DataW H) → Bool := fun _ ds => decide (uptoBulkAll ds ≤ 1048576)
def OpenSpec.upto (s : _root_.Go.ChangeSpec) : _root_.Go.OpenSpec := { _root_.Go.OpenSpec.ofChange s with cond := some uptoSmall }

/-- 'laws.FnExactWideSign', WHERE WHAT IT READS IS OF BULK AT MOST 1048576: true; the input reads as it did. -/
def fnExactWideSignUptoRow : OpenClaim := { program := "ytjahakhbdjadaaa", sum := "5d593a65e5f3bb92d37b56b09e843dfc73f3c4888288ce87230a6f460b5d8e64", func := "loop.example/g00225/laws.FnExactWideSign", spec := "fnExactWideSign", inPlace := ["math/bits.Add64"], apart := false, narrowed := true }
def FnExactWideSignUptoSaid : Prop := fnExactWideSignUptoRow.holds Try.pinned (OpenSpec.upto fnExactWideSignSpec)

/-- 'laws.FnExactWideBits', WHERE WHAT IT READS IS OF BULK AT MOST 1048576: true; the input reads as it did. -/
def fnExactWideBitsUptoRow : OpenClaim := { program := "ytjahakhbdjadaaa", sum := "5d593a65e5f3bb92d37b56b09e843dfc73f3c4888288ce87230a6f460b5d8e64", func := "loop.example/g00225/laws.FnExactWideBits", spec := "fnExactWideBits", inPlace := ["math/bits.Add64"], apart := false, narrowed := true }
def FnExactWideBitsUptoSaid : Prop := fnExactWideBitsUptoRow.holds Try.pinned (OpenSpec.upto fnExactWideBitsSpec)

/-- 'laws.FnExactWideCmp', WHERE WHAT IT READS IS OF BULK AT MOST 1048576: true; the input reads as it did. -/
def fnExactWideCmpUptoRow : OpenClaim := { program := "ytjahakhbdjadaaa", sum := "5d593a65e5f3bb92d37b56b09e843dfc73f3c4888288ce87230a6f460b5d8e64", func := "loop.example/g00225/laws.FnExactWideCmp", spec := "fnExactWideCmp", inPlace := ["math/bits.Add64", "math/bits.Sub64"], apart := false, narrowed := true }
def FnExactWideCmpUptoSaid : Prop := fnExactWideCmpUptoRow.holds Try.pinned (OpenSpec.upto fnExactWideCmpSpec)

/-- 'laws.FnExactWideOf', WHERE WHAT IT READS IS OF BULK AT MOST 1048576: true; the input reads as it did. -/
def fnExactWideOfUptoRow : OpenClaim := { program := "ytjahakhbdjadaaa", sum := "5d593a65e5f3bb92d37b56b09e843dfc73f3c4888288ce87230a6f460b5d8e64", func := "loop.example/g00225/laws.FnExactWideOf", spec := "fnExactWideOf", inPlace := ["math/bits.Add64", "math/bits.Sub64"], apart := false, narrowed := true }
def FnExactWideOfUptoSaid : Prop := fnExactWideOfUptoRow.holds Try.pinned (OpenSpec.upto fnExactWideOfSpec)

/-- 'laws.FnExactWideNeg', WHERE WHAT IT READS IS OF BULK AT MOST 1048576: true; the input reads as it did. -/
def fnExactWideNegUptoRow : OpenClaim := { program := "ytjahakhbdjadaaa", sum := "5d593a65e5f3bb92d37b56b09e843dfc73f3c4888288ce87230a6f460b5d8e64", func := "loop.example/g00225/laws.FnExactWideNeg", spec := "fnExactWideNeg", inPlace := ["math/bits.Add64", "math/bits.Sub64"], apart := false, narrowed := true }
def FnExactWideNegUptoSaid : Prop := fnExactWideNegUptoRow.holds Try.pinned (OpenSpec.upto fnExactWideNegSpec)

/-- 'laws.FnExactPointOf', WHERE WHAT IT READS IS OF BULK AT MOST 1048576: true; the input reads as it did. -/
def fnExactPointOfUptoRow : OpenClaim := { program := "ytjahakhbdjadaaa", sum := "5d593a65e5f3bb92d37b56b09e843dfc73f3c4888288ce87230a6f460b5d8e64", func := "loop.example/g00225/laws.FnExactPointOf", spec := "fnExactPointOf", inPlace := ["math/bits.Add64", "math/bits.Sub64"], apart := false, narrowed := true }
def FnExactPointOfUptoSaid : Prop := fnExactPointOfUptoRow.holds Try.pinned (OpenSpec.upto fnExactPointOfSpec)

/-- 'laws.FnExactWideAdd', WHERE WHAT IT READS IS OF BULK AT MOST 1048576: true; the input reads as it did. -/
def fnExactWideAddUptoRow : OpenClaim := { program := "ytjahakhbdjadaaa", sum := "5d593a65e5f3bb92d37b56b09e843dfc73f3c4888288ce87230a6f460b5d8e64", func := "loop.example/g00225/laws.FnExactWideAdd", spec := "fnExactWideAdd", inPlace := ["math/bits.Add64", "math/bits.Sub64"], apart := false, narrowed := true }
def FnExactWideAddUptoSaid : Prop := fnExactWideAddUptoRow.holds Try.pinned (OpenSpec.upto fnExactWideAddSpec)

/-- 'laws.FnExactWideSub', WHERE WHAT IT READS IS OF BULK AT MOST 1048576: true; the input reads as it did. -/
def fnExactWideSubUptoRow : OpenClaim := { program := "ytjahakhbdjadaaa", sum := "5d593a65e5f3bb92d37b56b09e843dfc73f3c4888288ce87230a6f460b5d8e64", func := "loop.example/g00225/laws.FnExactWideSub", spec := "fnExactWideSub", inPlace := ["math/bits.Add64", "math/bits.Sub64"], apart := false, narrowed := true }
def FnExactWideSubUptoSaid : Prop := fnExactWideSubUptoRow.holds Try.pinned (OpenSpec.upto fnExactWideSubSpec)

/-- 'laws.FnExactWideMul', WHERE WHAT IT READS IS OF BULK AT MOST 1048576: true; the input reads as it did. -/
def fnExactWideMulUptoRow : OpenClaim := { program := "ytjahakhbdjadaaa", sum := "5d593a65e5f3bb92d37b56b09e843dfc73f3c4888288ce87230a6f460b5d8e64", func := "loop.example/g00225/laws.FnExactWideMul", spec := "fnExactWideMul", inPlace := ["math/bits.Add64", "math/bits.Sub64"], apart := false, narrowed := true }
def FnExactWideMulUptoSaid : Prop := fnExactWideMulUptoRow.holds Try.pinned (OpenSpec.upto fnExactWideMulSpec)

/-- 'laws.FnExactWideText', WHERE WHAT IT READS IS OF BULK AT MOST 1048576: true; the input reads as it did. -/
def fnExactWideTextUptoRow : OpenClaim := { program := "ytjahakhbdjadaaa", sum := "5d593a65e5f3bb92d37b56b09e843dfc73f3c4888288ce87230a6f460b5d8e64", func := "loop.example/g00225/laws.FnExactWideText", spec := "fnExactWideText", inPlace := ["math/bits.Add64", "math/bits.Sub64"], named := ["math/bits.divideError", "math/bits.overflowError"], apart := false, narrowed := true }
def FnExactWideTextUptoSaid : Prop := fnExactWideTextUptoRow.holds Try.pinned (OpenSpec.upto fnExactWideTextSpec)

/-- 'laws.FnWideOrder', WHERE WHAT IT READS IS OF BULK AT MOST 1048576: true; the input reads as it did. -/
def fnWideOrderUptoRow : OpenClaim := { program := "ytjahakhbdjadaaa", sum := "5d593a65e5f3bb92d37b56b09e843dfc73f3c4888288ce87230a6f460b5d8e64", func := "loop.example/g00225/laws.FnWideOrder", spec := "fnWideOrder", inPlace := ["math/bits.Add64", "math/bits.Sub64"], apart := false, narrowed := true }
def FnWideOrderUptoSaid : Prop := fnWideOrderUptoRow.holds Try.pinned (OpenSpec.upto fnWideOrderSpec)

/-- 'laws.FnWideSums', WHERE WHAT IT READS IS OF BULK AT MOST 1048576: true; the input reads as it did. -/
def fnWideSumsUptoRow : OpenClaim := { program := "ytjahakhbdjadaaa", sum := "5d593a65e5f3bb92d37b56b09e843dfc73f3c4888288ce87230a6f460b5d8e64", func := "loop.example/g00225/laws.FnWideSums", spec := "fnWideSums", inPlace := ["math/bits.Add64", "math/bits.Sub64"], apart := false, narrowed := true }
def FnWideSumsUptoSaid : Prop := fnWideSumsUptoRow.holds Try.pinned (OpenSpec.upto fnWideSumsSpec)

end Rows
end Go.Proofs.Ytjahakhbdjadaaa
