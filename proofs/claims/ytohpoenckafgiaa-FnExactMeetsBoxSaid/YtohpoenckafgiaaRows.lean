/-
  No cell of these rows narrows 'for every input' (looked for: loops, veiled, ifaces, maps, wideKeys, modest, calm, conditions, laid).
  DERIVED. THE GIVEN ROWS OF THIS SEAT. 6 by the template 'for every input the law returns true; each argument reads behind the call as it read before'; 0 by the template 'total and deterministic' (their statements: YtohpoenckafgiaaTotals.lean).
  GIVEN WITH THE SEED: the statements are not yours to turn. If you find one false, say at which input.
  Laid BY PROGRAM, IN A SANDBOX (cutbox-rows.mjs): the forced cells as the released guide's own fill.sh prints them over the translation ca61d536cead887f… (all of the seat's roots in one cut). By AI agents, Wed Nov 11 2026. No macro, syntax, notation, axiom, sorry.
-/
import Derived.Test.YtohpoenckafgiaaChecked
import GoSem.Claim
import GoSem.ClaimJoined
import GoSem.ClaimMapViews
import Derived.JoinedTies
import Derived.KernelRfl
namespace Go.Proofs.Ytohpoenckafgiaa
/- THE CELL 'sum', in the pinned program and in every row, IS THE sha256 OF THE DUMP (.gsa) THAT YtohpoenckafgiaaProg.lean LOADS. Nothing in Lean hashes anything: it is a label: what it is worth is what the hold of that sum in a sandbox is worth. -/
noncomputable def Try.pinned : Pinned := { name := "ytohpoenckafgiaa", sum := "ca61d536cead887f345f7ebf8928e5b851567eb166388d85fbd62a0bbf382420", checked := Try.checked }
namespace Rows
def none {H : Type} : Left H := { results := [], args := [] }

/-- 'laws.FnExactConstants': WHATEVER THE INPUT: true; the input reads as it did. -/
def fnExactConstantsSpec : ChangeSpec := { name := "fnExactConstants", fn := fun _ => fun
  | [] => { results := [.lit (.bool true)], args := [] }
  | _ => none }
def fnExactConstantsRow : OpenClaim := { program := "ytohpoenckafgiaa", sum := "ca61d536cead887f345f7ebf8928e5b851567eb166388d85fbd62a0bbf382420", func := "loop.example/g00225/laws.FnExactConstants", spec := "fnExactConstants", apart := false }
def FnExactConstantsSaid : Prop := fnExactConstantsRow.holds Try.pinned (OpenSpec.ofChange fnExactConstantsSpec)

/-- ITS FALSE NEIGHBOUR: 'it returns false'. Refute it at one input. -/
def fnExactConstantsWrong : ChangeSpec := { name := "fnExactConstants", fn := fun _ => fun
  | [] => { results := [.lit (.bool false)], args := [] }
  | _ => none }
def FnExactConstantsWrongFalsely : Prop := fnExactConstantsRow.holds Try.pinned (OpenSpec.ofChange fnExactConstantsWrong)

/-- 'laws.FnExactSpotOk': WHATEVER THE INPUT: true; the input reads as it did. -/
def fnExactSpotOkSpec : ChangeSpec := { name := "fnExactSpotOk", fn := fun _ => fun
  | [d] => { results := [.lit (.bool true)], args := [d] }
  | _ => none }
def fnExactSpotOkRow : OpenClaim := { program := "ytohpoenckafgiaa", sum := "ca61d536cead887f345f7ebf8928e5b851567eb166388d85fbd62a0bbf382420", func := "loop.example/g00225/laws.FnExactSpotOk", spec := "fnExactSpotOk", apart := false }
def FnExactSpotOkSaid : Prop := fnExactSpotOkRow.holds Try.pinned (OpenSpec.ofChange fnExactSpotOkSpec)

/-- ITS FALSE NEIGHBOUR: 'it returns false'. Refute it at one input. -/
def fnExactSpotOkWrong : ChangeSpec := { name := "fnExactSpotOk", fn := fun _ => fun
  | [d] => { results := [.lit (.bool false)], args := [d] }
  | _ => none }
def FnExactSpotOkWrongFalsely : Prop := fnExactSpotOkRow.holds Try.pinned (OpenSpec.ofChange fnExactSpotOkWrong)

/-- 'laws.FnExactSegOk': WHATEVER THE INPUT: true; the input reads as it did. -/
def fnExactSegOkSpec : ChangeSpec := { name := "fnExactSegOk", fn := fun _ => fun
  | [d] => { results := [.lit (.bool true)], args := [d] }
  | _ => none }
def fnExactSegOkRow : OpenClaim := { program := "ytohpoenckafgiaa", sum := "ca61d536cead887f345f7ebf8928e5b851567eb166388d85fbd62a0bbf382420", func := "loop.example/g00225/laws.FnExactSegOk", spec := "fnExactSegOk", apart := false }
def FnExactSegOkSaid : Prop := fnExactSegOkRow.holds Try.pinned (OpenSpec.ofChange fnExactSegOkSpec)

/-- ITS FALSE NEIGHBOUR: 'it returns false'. Refute it at one input. -/
def fnExactSegOkWrong : ChangeSpec := { name := "fnExactSegOk", fn := fun _ => fun
  | [d] => { results := [.lit (.bool false)], args := [d] }
  | _ => none }
def FnExactSegOkWrongFalsely : Prop := fnExactSegOkRow.holds Try.pinned (OpenSpec.ofChange fnExactSegOkWrong)

/-- 'laws.FnExactSegOf': WHATEVER THE INPUT: true; the input reads as it did. -/
def fnExactSegOfSpec : ChangeSpec := { name := "fnExactSegOf", fn := fun _ => fun
  | [d1, d2] => { results := [.lit (.bool true)], args := [d1, d2] }
  | _ => none }
def fnExactSegOfRow : OpenClaim := { program := "ytohpoenckafgiaa", sum := "ca61d536cead887f345f7ebf8928e5b851567eb166388d85fbd62a0bbf382420", func := "loop.example/g00225/laws.FnExactSegOf", spec := "fnExactSegOf", apart := false }
def FnExactSegOfSaid : Prop := fnExactSegOfRow.holds Try.pinned (OpenSpec.ofChange fnExactSegOfSpec)

/-- ITS FALSE NEIGHBOUR: 'it returns false'. Refute it at one input. -/
def fnExactSegOfWrong : ChangeSpec := { name := "fnExactSegOf", fn := fun _ => fun
  | [d1, d2] => { results := [.lit (.bool false)], args := [d1, d2] }
  | _ => none }
def FnExactSegOfWrongFalsely : Prop := fnExactSegOfRow.holds Try.pinned (OpenSpec.ofChange fnExactSegOfWrong)

/-- 'laws.FnExactMeetsBox': WHATEVER THE INPUT: true; the input reads as it did. -/
def fnExactMeetsBoxSpec : ChangeSpec := { name := "fnExactMeetsBox", fn := fun _ => fun
  | [d1, d2, d3] => { results := [.lit (.bool true)], args := [d1, d2, d3] }
  | _ => none }
def fnExactMeetsBoxRow : OpenClaim := { program := "ytohpoenckafgiaa", sum := "ca61d536cead887f345f7ebf8928e5b851567eb166388d85fbd62a0bbf382420", func := "loop.example/g00225/laws.FnExactMeetsBox", spec := "fnExactMeetsBox", apart := false }
def FnExactMeetsBoxSaid : Prop := fnExactMeetsBoxRow.holds Try.pinned (OpenSpec.ofChange fnExactMeetsBoxSpec)

/-- ITS FALSE NEIGHBOUR: 'it returns false'. Refute it at one input. -/
def fnExactMeetsBoxWrong : ChangeSpec := { name := "fnExactMeetsBox", fn := fun _ => fun
  | [d1, d2, d3] => { results := [.lit (.bool false)], args := [d1, d2, d3] }
  | _ => none }
def FnExactMeetsBoxWrongFalsely : Prop := fnExactMeetsBoxRow.holds Try.pinned (OpenSpec.ofChange fnExactMeetsBoxWrong)

/-- 'laws.FnExactSegsFault': WHATEVER THE INPUT: true; the input reads as it did. -/
def fnExactSegsFaultSpec : ChangeSpec := { name := "fnExactSegsFault", fn := fun _ => fun
  | [d] => { results := [.lit (.bool true)], args := [d] }
  | _ => none }
def fnExactSegsFaultRow : OpenClaim := { program := "ytohpoenckafgiaa", sum := "ca61d536cead887f345f7ebf8928e5b851567eb166388d85fbd62a0bbf382420", func := "loop.example/g00225/laws.FnExactSegsFault", spec := "fnExactSegsFault", apart := false }
def FnExactSegsFaultSaid : Prop := fnExactSegsFaultRow.holds Try.pinned (OpenSpec.ofChange fnExactSegsFaultSpec)

/-- ITS FALSE NEIGHBOUR: 'it returns false'. Refute it at one input. -/
def fnExactSegsFaultWrong : ChangeSpec := { name := "fnExactSegsFault", fn := fun _ => fun
  | [d] => { results := [.lit (.bool false)], args := [d] }
  | _ => none }
def FnExactSegsFaultWrongFalsely : Prop := fnExactSegsFaultRow.holds Try.pinned (OpenSpec.ofChange fnExactSegsFaultWrong)

/- THE SECOND FORM. 'bulk': how many values and letters a reading holds, each counted each time it is reached (what is shared counts as often as it is met; a slice's spare places count too). A statement '..UptoSaid' is the law's where the arguments, and the package variables that the reading takes, are together of bulk at most 1048576: NARROWER than '..Said'. Prove '..Said' where nothing that the law and all that it calls make is longer than what came in: it says more and counts as full. Else prove '..UptoSaid'. A law counts once. -/
mutual
def uptoBulk {H : Type} : DataW H → Nat
  | .lit (.string bytes) => bytes.length + 1
  | .lit _ => 1
  | .nil => 1
  | .ptr d => uptoBulk d + 1
  | .slice elems spare => uptoBulkAll elems + uptoBulkAll spare + 1
  | .agg parts => uptoBulkAll parts + 1
  | .iface _ d => uptoBulk d + 1
  | .map entries => uptoBulkEntries entries + 1
  | .held _ => 1
def uptoBulkAll {H : Type} : List (DataW H) → Nat
  | [] => 0
  | d :: r => uptoBulk d + uptoBulkAll r
def uptoBulkEntries {H : Type} : List (Lit × DataW H) → Nat
  | [] => 0
  | x :: r => uptoBulkEntry x + uptoBulkEntries r
def uptoBulkEntry {H : Type} : Lit × DataW H → Nat
  | (.string bytes, d) => bytes.length + uptoBulk d + 1
  | (_, d) => uptoBulk d + 1
 end
def uptoSmall : (H : Type) → List (DataW H) → Bool := fun _ ds => decide (uptoBulkAll ds ≤ 1048576)
def OpenSpec.upto (s : _root_.Go.ChangeSpec) : _root_.Go.OpenSpec := { _root_.Go.OpenSpec.ofChange s with cond := some uptoSmall }

/-- 'laws.FnExactConstants', WHERE WHAT IT READS IS OF BULK AT MOST 1048576: true; the input reads as it did. -/
def fnExactConstantsUptoRow : OpenClaim := { program := "ytohpoenckafgiaa", sum := "ca61d536cead887f345f7ebf8928e5b851567eb166388d85fbd62a0bbf382420", func := "loop.example/g00225/laws.FnExactConstants", spec := "fnExactConstants", apart := false, narrowed := true }
def FnExactConstantsUptoSaid : Prop := fnExactConstantsUptoRow.holds Try.pinned (OpenSpec.upto fnExactConstantsSpec)

/-- 'laws.FnExactSpotOk', WHERE WHAT IT READS IS OF BULK AT MOST 1048576: true; the input reads as it did. -/
def fnExactSpotOkUptoRow : OpenClaim := { program := "ytohpoenckafgiaa", sum := "ca61d536cead887f345f7ebf8928e5b851567eb166388d85fbd62a0bbf382420", func := "loop.example/g00225/laws.FnExactSpotOk", spec := "fnExactSpotOk", apart := false, narrowed := true }
def FnExactSpotOkUptoSaid : Prop := fnExactSpotOkUptoRow.holds Try.pinned (OpenSpec.upto fnExactSpotOkSpec)

/-- 'laws.FnExactSegOk', WHERE WHAT IT READS IS OF BULK AT MOST 1048576: true; the input reads as it did. -/
def fnExactSegOkUptoRow : OpenClaim := { program := "ytohpoenckafgiaa", sum := "ca61d536cead887f345f7ebf8928e5b851567eb166388d85fbd62a0bbf382420", func := "loop.example/g00225/laws.FnExactSegOk", spec := "fnExactSegOk", apart := false, narrowed := true }
def FnExactSegOkUptoSaid : Prop := fnExactSegOkUptoRow.holds Try.pinned (OpenSpec.upto fnExactSegOkSpec)

/-- 'laws.FnExactSegOf', WHERE WHAT IT READS IS OF BULK AT MOST 1048576: true; the input reads as it did. -/
def fnExactSegOfUptoRow : OpenClaim := { program := "ytohpoenckafgiaa", sum := "ca61d536cead887f345f7ebf8928e5b851567eb166388d85fbd62a0bbf382420", func := "loop.example/g00225/laws.FnExactSegOf", spec := "fnExactSegOf", apart := false, narrowed := true }
def FnExactSegOfUptoSaid : Prop := fnExactSegOfUptoRow.holds Try.pinned (OpenSpec.upto fnExactSegOfSpec)

/-- 'laws.FnExactMeetsBox', WHERE WHAT IT READS IS OF BULK AT MOST 1048576: true; the input reads as it did. -/
def fnExactMeetsBoxUptoRow : OpenClaim := { program := "ytohpoenckafgiaa", sum := "ca61d536cead887f345f7ebf8928e5b851567eb166388d85fbd62a0bbf382420", func := "loop.example/g00225/laws.FnExactMeetsBox", spec := "fnExactMeetsBox", apart := false, narrowed := true }
def FnExactMeetsBoxUptoSaid : Prop := fnExactMeetsBoxUptoRow.holds Try.pinned (OpenSpec.upto fnExactMeetsBoxSpec)

/-- 'laws.FnExactSegsFault', WHERE WHAT IT READS IS OF BULK AT MOST 1048576: true; the input reads as it did. -/
def fnExactSegsFaultUptoRow : OpenClaim := { program := "ytohpoenckafgiaa", sum := "ca61d536cead887f345f7ebf8928e5b851567eb166388d85fbd62a0bbf382420", func := "loop.example/g00225/laws.FnExactSegsFault", spec := "fnExactSegsFault", apart := false, narrowed := true }
def FnExactSegsFaultUptoSaid : Prop := fnExactSegsFaultUptoRow.holds Try.pinned (OpenSpec.upto fnExactSegsFaultSpec)

end Rows
end Go.Proofs.Ytohpoenckafgiaa
