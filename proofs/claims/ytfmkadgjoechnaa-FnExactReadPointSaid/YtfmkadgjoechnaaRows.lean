/-
  No cell of these rows narrows 'for every input' (looked for: loops, veiled, ifaces, maps, wideKeys, modest, calm, conditions, laid).
  DERIVED. THE GIVEN ROWS OF THIS SEAT. 8 by the template 'for every input the law returns true; each argument reads behind the call as it read before'; 0 by the template 'total and deterministic' (their statements: YtfmkadgjoechnaaTotals.lean).
  GIVEN WITH THE SEED: the statements are not yours to turn. If you find one false, say at which input.
  Laid BY PROGRAM, IN A SANDBOX (cutbox-rows.mjs): the forced cells as the released guide's own fill.sh prints them over the translation e97d019640dd3e2b… (all of the seat's roots in one cut). By AI agents, Wed Nov 11 2026. No macro, syntax, notation, axiom, sorry.
-/
import Derived.Test.YtfmkadgjoechnaaChecked
import GoSem.Claim
import GoSem.ClaimJoined
import GoSem.ClaimMapViews
import Derived.JoinedTies
import Derived.KernelRfl
namespace Go.Proofs.Ytfmkadgjoechnaa
/- THE CELL 'sum', in the pinned program and in every row, IS THE sha256 OF THE DUMP (.gsa) THAT YtfmkadgjoechnaaProg.lean LOADS. Nothing in Lean hashes anything: it is a label: what it is worth is what the hold of that sum in a sandbox is worth. -/
noncomputable def Try.pinned : Pinned := { name := "ytfmkadgjoechnaa", sum := "e97d019640dd3e2be6d0a066ab42fc598ce360708d6daa9f473b710967f253c2", checked := Try.checked }
namespace Rows
def none {H : Type} : Left H := { results := [], args := [] }

/-- 'laws.FnWideOrder': WHATEVER THE INPUT: true; the input reads as it did. -/
def fnWideOrderSpec : ChangeSpec := { name := "fnWideOrder", fn := fun _ => fun
  | [d] => { results := [.lit (.bool true)], args := [d] }
  | _ => none }
def fnWideOrderRow : OpenClaim := { program := "ytfmkadgjoechnaa", sum := "e97d019640dd3e2be6d0a066ab42fc598ce360708d6daa9f473b710967f253c2", func := "loop.example/g00225/laws.FnWideOrder", spec := "fnWideOrder", inPlace := ["math/bits.Add64", "math/bits.Sub64"], apart := false }
def FnWideOrderSaid : Prop := fnWideOrderRow.holds Try.pinned (OpenSpec.ofChange fnWideOrderSpec)

/-- ITS FALSE NEIGHBOUR: 'it returns false'. Refute it at one input. -/
def fnWideOrderWrong : ChangeSpec := { name := "fnWideOrder", fn := fun _ => fun
  | [d] => { results := [.lit (.bool false)], args := [d] }
  | _ => none }
def FnWideOrderWrongFalsely : Prop := fnWideOrderRow.holds Try.pinned (OpenSpec.ofChange fnWideOrderWrong)

/-- 'laws.FnWideSums': WHATEVER THE INPUT: true; the input reads as it did. -/
def fnWideSumsSpec : ChangeSpec := { name := "fnWideSums", fn := fun _ => fun
  | [d] => { results := [.lit (.bool true)], args := [d] }
  | _ => none }
def fnWideSumsRow : OpenClaim := { program := "ytfmkadgjoechnaa", sum := "e97d019640dd3e2be6d0a066ab42fc598ce360708d6daa9f473b710967f253c2", func := "loop.example/g00225/laws.FnWideSums", spec := "fnWideSums", inPlace := ["math/bits.Add64", "math/bits.Sub64"], apart := false }
def FnWideSumsSaid : Prop := fnWideSumsRow.holds Try.pinned (OpenSpec.ofChange fnWideSumsSpec)

/-- ITS FALSE NEIGHBOUR: 'it returns false'. Refute it at one input. -/
def fnWideSumsWrong : ChangeSpec := { name := "fnWideSums", fn := fun _ => fun
  | [d] => { results := [.lit (.bool false)], args := [d] }
  | _ => none }
def FnWideSumsWrongFalsely : Prop := fnWideSumsRow.holds Try.pinned (OpenSpec.ofChange fnWideSumsWrong)

/-- 'laws.FnExactReadWide': WHATEVER THE INPUT: true; the input reads as it did. -/
def fnExactReadWideSpec : ChangeSpec := { name := "fnExactReadWide", fn := fun _ => fun
  | [d] => { results := [.lit (.bool true)], args := [d] }
  | _ => none }
def fnExactReadWideRow : OpenClaim := { program := "ytfmkadgjoechnaa", sum := "e97d019640dd3e2be6d0a066ab42fc598ce360708d6daa9f473b710967f253c2", func := "loop.example/g00225/laws.FnExactReadWide", spec := "fnExactReadWide", inPlace := ["math/bits.Add64", "math/bits.Sub64"], named := ["math/bits.divideError", "math/bits.overflowError"], apart := false }
def FnExactReadWideSaid : Prop := fnExactReadWideRow.holds Try.pinned (OpenSpec.ofChange fnExactReadWideSpec)

/-- ITS FALSE NEIGHBOUR: 'it returns false'. Refute it at one input. -/
def fnExactReadWideWrong : ChangeSpec := { name := "fnExactReadWide", fn := fun _ => fun
  | [d] => { results := [.lit (.bool false)], args := [d] }
  | _ => none }
def FnExactReadWideWrongFalsely : Prop := fnExactReadWideRow.holds Try.pinned (OpenSpec.ofChange fnExactReadWideWrong)

/-- 'laws.FnWideCommon': WHATEVER THE INPUT: true; the input reads as it did. -/
def fnWideCommonSpec : ChangeSpec := { name := "fnWideCommon", fn := fun _ => fun
  | [d] => { results := [.lit (.bool true)], args := [d] }
  | _ => none }
def fnWideCommonRow : OpenClaim := { program := "ytfmkadgjoechnaa", sum := "e97d019640dd3e2be6d0a066ab42fc598ce360708d6daa9f473b710967f253c2", func := "loop.example/g00225/laws.FnWideCommon", spec := "fnWideCommon", inPlace := ["math/bits.Add64", "math/bits.Sub64"], named := ["math/bits.divideError", "math/bits.overflowError"], apart := false }
def FnWideCommonSaid : Prop := fnWideCommonRow.holds Try.pinned (OpenSpec.ofChange fnWideCommonSpec)

/-- ITS FALSE NEIGHBOUR: 'it returns false'. Refute it at one input. -/
def fnWideCommonWrong : ChangeSpec := { name := "fnWideCommon", fn := fun _ => fun
  | [d] => { results := [.lit (.bool false)], args := [d] }
  | _ => none }
def FnWideCommonWrongFalsely : Prop := fnWideCommonRow.holds Try.pinned (OpenSpec.ofChange fnWideCommonWrong)

/-- 'laws.FnWideTexts': WHATEVER THE INPUT: true; the input reads as it did. -/
def fnWideTextsSpec : ChangeSpec := { name := "fnWideTexts", fn := fun _ => fun
  | [d] => { results := [.lit (.bool true)], args := [d] }
  | _ => none }
def fnWideTextsRow : OpenClaim := { program := "ytfmkadgjoechnaa", sum := "e97d019640dd3e2be6d0a066ab42fc598ce360708d6daa9f473b710967f253c2", func := "loop.example/g00225/laws.FnWideTexts", spec := "fnWideTexts", inPlace := ["math/bits.Add64", "math/bits.Sub64"], named := ["math/bits.divideError", "math/bits.overflowError"], apart := false }
def FnWideTextsSaid : Prop := fnWideTextsRow.holds Try.pinned (OpenSpec.ofChange fnWideTextsSpec)

/-- ITS FALSE NEIGHBOUR: 'it returns false'. Refute it at one input. -/
def fnWideTextsWrong : ChangeSpec := { name := "fnWideTexts", fn := fun _ => fun
  | [d] => { results := [.lit (.bool false)], args := [d] }
  | _ => none }
def FnWideTextsWrongFalsely : Prop := fnWideTextsRow.holds Try.pinned (OpenSpec.ofChange fnWideTextsWrong)

/-- 'laws.FnWideParted': WHATEVER THE INPUT: true; the input reads as it did. -/
def fnWidePartedSpec : ChangeSpec := { name := "fnWideParted", fn := fun _ => fun
  | [d] => { results := [.lit (.bool true)], args := [d] }
  | _ => none }
def fnWidePartedRow : OpenClaim := { program := "ytfmkadgjoechnaa", sum := "e97d019640dd3e2be6d0a066ab42fc598ce360708d6daa9f473b710967f253c2", func := "loop.example/g00225/laws.FnWideParted", spec := "fnWideParted", inPlace := ["math/bits.Add64", "math/bits.Sub64"], named := ["math/bits.divideError", "math/bits.overflowError"], apart := false }
def FnWidePartedSaid : Prop := fnWidePartedRow.holds Try.pinned (OpenSpec.ofChange fnWidePartedSpec)

/-- ITS FALSE NEIGHBOUR: 'it returns false'. Refute it at one input. -/
def fnWidePartedWrong : ChangeSpec := { name := "fnWideParted", fn := fun _ => fun
  | [d] => { results := [.lit (.bool false)], args := [d] }
  | _ => none }
def FnWidePartedWrongFalsely : Prop := fnWidePartedRow.holds Try.pinned (OpenSpec.ofChange fnWidePartedWrong)

/-- 'laws.FnExactReadRatio': WHATEVER THE INPUT: true; the input reads as it did. -/
def fnExactReadRatioSpec : ChangeSpec := { name := "fnExactReadRatio", fn := fun _ => fun
  | [d] => { results := [.lit (.bool true)], args := [d] }
  | _ => none }
def fnExactReadRatioRow : OpenClaim := { program := "ytfmkadgjoechnaa", sum := "e97d019640dd3e2be6d0a066ab42fc598ce360708d6daa9f473b710967f253c2", func := "loop.example/g00225/laws.FnExactReadRatio", spec := "fnExactReadRatio", inPlace := ["internal/bytealg.IndexByteString", "internal/bytealg.IndexString", "math/bits.Add64", "math/bits.Sub64"], named := ["internal/bytealg.MaxLen", "math/bits.divideError", "math/bits.overflowError"], apart := false }
def FnExactReadRatioSaid : Prop := fnExactReadRatioRow.holds Try.pinned (OpenSpec.ofChange fnExactReadRatioSpec)

/-- ITS FALSE NEIGHBOUR: 'it returns false'. Refute it at one input. -/
def fnExactReadRatioWrong : ChangeSpec := { name := "fnExactReadRatio", fn := fun _ => fun
  | [d] => { results := [.lit (.bool false)], args := [d] }
  | _ => none }
def FnExactReadRatioWrongFalsely : Prop := fnExactReadRatioRow.holds Try.pinned (OpenSpec.ofChange fnExactReadRatioWrong)

/-- 'laws.FnExactReadPoint': WHATEVER THE INPUT: true; the input reads as it did. -/
def fnExactReadPointSpec : ChangeSpec := { name := "fnExactReadPoint", fn := fun _ => fun
  | [d] => { results := [.lit (.bool true)], args := [d] }
  | _ => none }
def fnExactReadPointRow : OpenClaim := { program := "ytfmkadgjoechnaa", sum := "e97d019640dd3e2be6d0a066ab42fc598ce360708d6daa9f473b710967f253c2", func := "loop.example/g00225/laws.FnExactReadPoint", spec := "fnExactReadPoint", inPlace := ["internal/bytealg.IndexByteString", "internal/bytealg.IndexString", "math/bits.Add64", "math/bits.Sub64"], named := ["internal/bytealg.MaxLen", "math/bits.divideError", "math/bits.overflowError"], apart := false }
def FnExactReadPointSaid : Prop := fnExactReadPointRow.holds Try.pinned (OpenSpec.ofChange fnExactReadPointSpec)

/-- ITS FALSE NEIGHBOUR: 'it returns false'. Refute it at one input. -/
def fnExactReadPointWrong : ChangeSpec := { name := "fnExactReadPoint", fn := fun _ => fun
  | [d] => { results := [.lit (.bool false)], args := [d] }
  | _ => none }
def FnExactReadPointWrongFalsely : Prop := fnExactReadPointRow.holds Try.pinned (OpenSpec.ofChange fnExactReadPointWrong)

/- THE SECOND FORM. 'bulk': how many values and letters a reading holds, each counted each time it is reached (what is shared counts as often as it is met; a slice's spare places count too). A statement '..UptoSaid' is the law's where the arguments, and the package variables that the reading takes, are together of bulk at most 1048576: NARROWER than '..Said'. Prove '..Said' where nothing that the law and all that it calls make is longer than what came in: it says more and counts as full. Else prove '..UptoSaid'. A law counts once. -/
mutual
def uptoBulk {H : Type} : DataW H → Nat
  | .lit (.string bytes) => bytes.length + 1
  | .lit _ => 1
  | .nil => 1
  | .ptr d => uptoBulk d + 1
  | .slice elems spare => uptoBulkAll elems + uptoBulkAll spare + 1
  | .agg parts => uptoBulkAll parts + 1
  | .iface _ d => uptoBulk d + 1
  | .map entries => uptoBulkEntries entries + 1
  | .held _ => 1
def uptoBulkAll {H : Type} : List (DataW H) → Nat
  | [] => 0
  | d :: r => uptoBulk d + uptoBulkAll r
def uptoBulkEntries {H : Type} : List (Lit × DataW H) → Nat
  | [] => 0
  | x :: r => uptoBulkEntry x + uptoBulkEntries r
def uptoBulkEntry {H : Type} : Lit × DataW H → Nat
  | (.string bytes, d) => bytes.length + uptoBulk d + 1
  | (_, d) => uptoBulk d + 1
 end
def uptoSmall : (H : Type) → List (DataW H) → Bool := fun _ ds => decide (uptoBulkAll ds ≤ 1048576)
def OpenSpec.upto (s : _root_.Go.ChangeSpec) : _root_.Go.OpenSpec := { _root_.Go.OpenSpec.ofChange s with cond := some uptoSmall }

/-- 'laws.FnWideOrder', WHERE WHAT IT READS IS OF BULK AT MOST 1048576: true; the input reads as it did. -/
def fnWideOrderUptoRow : OpenClaim := { program := "ytfmkadgjoechnaa", sum := "e97d019640dd3e2be6d0a066ab42fc598ce360708d6daa9f473b710967f253c2", func := "loop.example/g00225/laws.FnWideOrder", spec := "fnWideOrder", inPlace := ["math/bits.Add64", "math/bits.Sub64"], apart := false, narrowed := true }
def FnWideOrderUptoSaid : Prop := fnWideOrderUptoRow.holds Try.pinned (OpenSpec.upto fnWideOrderSpec)

/-- 'laws.FnWideSums', WHERE WHAT IT READS IS OF BULK AT MOST 1048576: true; the input reads as it did. -/
def fnWideSumsUptoRow : OpenClaim := { program := "ytfmkadgjoechnaa", sum := "e97d019640dd3e2be6d0a066ab42fc598ce360708d6daa9f473b710967f253c2", func := "loop.example/g00225/laws.FnWideSums", spec := "fnWideSums", inPlace := ["math/bits.Add64", "math/bits.Sub64"], apart := false, narrowed := true }
def FnWideSumsUptoSaid : Prop := fnWideSumsUptoRow.holds Try.pinned (OpenSpec.upto fnWideSumsSpec)

/-- 'laws.FnExactReadWide', WHERE WHAT IT READS IS OF BULK AT MOST 1048576: true; the input reads as it did. -/
def fnExactReadWideUptoRow : OpenClaim := { program := "ytfmkadgjoechnaa", sum := "e97d019640dd3e2be6d0a066ab42fc598ce360708d6daa9f473b710967f253c2", func := "loop.example/g00225/laws.FnExactReadWide", spec := "fnExactReadWide", inPlace := ["math/bits.Add64", "math/bits.Sub64"], named := ["math/bits.divideError", "math/bits.overflowError"], apart := false, narrowed := true }
def FnExactReadWideUptoSaid : Prop := fnExactReadWideUptoRow.holds Try.pinned (OpenSpec.upto fnExactReadWideSpec)

/-- 'laws.FnWideCommon', WHERE WHAT IT READS IS OF BULK AT MOST 1048576: true; the input reads as it did. -/
def fnWideCommonUptoRow : OpenClaim := { program := "ytfmkadgjoechnaa", sum := "e97d019640dd3e2be6d0a066ab42fc598ce360708d6daa9f473b710967f253c2", func := "loop.example/g00225/laws.FnWideCommon", spec := "fnWideCommon", inPlace := ["math/bits.Add64", "math/bits.Sub64"], named := ["math/bits.divideError", "math/bits.overflowError"], apart := false, narrowed := true }
def FnWideCommonUptoSaid : Prop := fnWideCommonUptoRow.holds Try.pinned (OpenSpec.upto fnWideCommonSpec)

/-- 'laws.FnWideTexts', WHERE WHAT IT READS IS OF BULK AT MOST 1048576: true; the input reads as it did. -/
def fnWideTextsUptoRow : OpenClaim := { program := "ytfmkadgjoechnaa", sum := "e97d019640dd3e2be6d0a066ab42fc598ce360708d6daa9f473b710967f253c2", func := "loop.example/g00225/laws.FnWideTexts", spec := "fnWideTexts", inPlace := ["math/bits.Add64", "math/bits.Sub64"], named := ["math/bits.divideError", "math/bits.overflowError"], apart := false, narrowed := true }
def FnWideTextsUptoSaid : Prop := fnWideTextsUptoRow.holds Try.pinned (OpenSpec.upto fnWideTextsSpec)

/-- 'laws.FnWideParted', WHERE WHAT IT READS IS OF BULK AT MOST 1048576: true; the input reads as it did. -/
def fnWidePartedUptoRow : OpenClaim := { program := "ytfmkadgjoechnaa", sum := "e97d019640dd3e2be6d0a066ab42fc598ce360708d6daa9f473b710967f253c2", func := "loop.example/g00225/laws.FnWideParted", spec := "fnWideParted", inPlace := ["math/bits.Add64", "math/bits.Sub64"], named := ["math/bits.divideError", "math/bits.overflowError"], apart := false, narrowed := true }
def FnWidePartedUptoSaid : Prop := fnWidePartedUptoRow.holds Try.pinned (OpenSpec.upto fnWidePartedSpec)

/-- 'laws.FnExactReadRatio', WHERE WHAT IT READS IS OF BULK AT MOST 1048576: true; the input reads as it did. -/
def fnExactReadRatioUptoRow : OpenClaim := { program := "ytfmkadgjoechnaa", sum := "e97d019640dd3e2be6d0a066ab42fc598ce360708d6daa9f473b710967f253c2", func := "loop.example/g00225/laws.FnExactReadRatio", spec := "fnExactReadRatio", inPlace := ["internal/bytealg.IndexByteString", "internal/bytealg.IndexString", "math/bits.Add64", "math/bits.Sub64"], named := ["internal/bytealg.MaxLen", "math/bits.divideError", "math/bits.overflowError"], apart := false, narrowed := true }
def FnExactReadRatioUptoSaid : Prop := fnExactReadRatioUptoRow.holds Try.pinned (OpenSpec.upto fnExactReadRatioSpec)

/-- 'laws.FnExactReadPoint', WHERE WHAT IT READS IS OF BULK AT MOST 1048576: true; the input reads as it did. -/
def fnExactReadPointUptoRow : OpenClaim := { program := "ytfmkadgjoechnaa", sum := "e97d019640dd3e2be6d0a066ab42fc598ce360708d6daa9f473b710967f253c2", func := "loop.example/g00225/laws.FnExactReadPoint", spec := "fnExactReadPoint", inPlace := ["internal/bytealg.IndexByteString", "internal/bytealg.IndexString", "math/bits.Add64", "math/bits.Sub64"], named := ["internal/bytealg.MaxLen", "math/bits.divideError", "math/bits.overflowError"], apart := false, narrowed := true }
def FnExactReadPointUptoSaid : Prop := fnExactReadPointUptoRow.holds Try.pinned (OpenSpec.upto fnExactReadPointSpec)

end Rows
end Go.Proofs.Ytfmkadgjoechnaa
