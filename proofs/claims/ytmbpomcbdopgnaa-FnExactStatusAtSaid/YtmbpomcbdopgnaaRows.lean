/-
  No cell of these rows narrows 'for every input' (looked for: loops, veiled, ifaces, maps, wideKeys, modest, calm, conditions, laid).
  DERIVED. THE GIVEN ROWS OF THIS SEAT. 4 by the template 'for every input the law returns true; each argument reads behind the call as it read before'; 0 by the template 'total and deterministic' (their statements: YtmbpomcbdopgnaaTotals.lean).
  GIVEN WITH THE SEED: the statements are not yours to turn. If you find one false, say at which input.
  Laid BY PROGRAM, IN A SANDBOX (cutbox-rows.mjs): the forced cells as the released guide's own fill.sh prints them over the translation 018026187c2e4f40… (all of the seat's roots in one cut). By AI agents, Wed Nov 11 2026. No macro, syntax, notation, axiom, sorry.
-/
import Derived.Test.YtmbpomcbdopgnaaChecked
import GoSem.Claim
import GoSem.ClaimJoined
import GoSem.ClaimMapViews
import Derived.JoinedTies
import Derived.KernelRfl
namespace Go.Proofs.Ytmbpomcbdopgnaa
/- THE CELL 'sum', in the pinned program and in every row, IS THE sha256 OF THE DUMP (.gsa) THAT YtmbpomcbdopgnaaProg.lean LOADS. Nothing in Lean hashes anything: it is a label: what it is worth is what the hold of that sum in a sandbox is worth. -/
noncomputable def Try.pinned : Pinned := { name := "ytmbpomcbdopgnaa", sum := "018026187c2e4f40f52454ce61327e9b7574182edb1af124d803100c2f7dcf04", checked := Try.checked }
namespace Rows
def none {H : Type} : Left H := { results := [], args := [] }

/-- 'laws.FnBoxed': WHATEVER THE INPUT: true; the input reads as it did. -/
def fnBoxedSpec : ChangeSpec := { name := "fnBoxed", fn := fun _ => fun
  | [d] => { results := [.lit (.bool true)], args := [d] }
  | _ => none }
def fnBoxedRow : OpenClaim := { program := "ytmbpomcbdopgnaa", sum := "018026187c2e4f40f52454ce61327e9b7574182edb1af124d803100c2f7dcf04", func := "loop.example/g00225/laws.FnBoxed", spec := "fnBoxed", inPlace := ["math/bits.Add64", "math/bits.Sub64"], unfollowed := true, recurses := true, named := ["math/bits.divideError", "math/bits.overflowError"], apart := false }
def FnBoxedSaid : Prop := fnBoxedRow.holds Try.pinned (OpenSpec.ofChange fnBoxedSpec)

/-- ITS FALSE NEIGHBOUR: 'it returns false'. Refute it at one input. -/
def fnBoxedWrong : ChangeSpec := { name := "fnBoxed", fn := fun _ => fun
  | [d] => { results := [.lit (.bool false)], args := [d] }
  | _ => none }
def FnBoxedWrongFalsely : Prop := fnBoxedRow.holds Try.pinned (OpenSpec.ofChange fnBoxedWrong)

/-- 'laws.FnExactEventsOk': WHATEVER THE INPUT: true; the input reads as it did. -/
def fnExactEventsOkSpec : ChangeSpec := { name := "fnExactEventsOk", fn := fun _ => fun
  | [d] => { results := [.lit (.bool true)], args := [d] }
  | _ => none }
def fnExactEventsOkRow : OpenClaim := { program := "ytmbpomcbdopgnaa", sum := "018026187c2e4f40f52454ce61327e9b7574182edb1af124d803100c2f7dcf04", func := "loop.example/g00225/laws.FnExactEventsOk", spec := "fnExactEventsOk", inPlace := ["math/bits.Add64", "math/bits.Sub64"], named := ["math/bits.divideError", "math/bits.overflowError"], apart := false }
def FnExactEventsOkSaid : Prop := fnExactEventsOkRow.holds Try.pinned (OpenSpec.ofChange fnExactEventsOkSpec)

/-- ITS FALSE NEIGHBOUR: 'it returns false'. Refute it at one input. -/
def fnExactEventsOkWrong : ChangeSpec := { name := "fnExactEventsOk", fn := fun _ => fun
  | [d] => { results := [.lit (.bool false)], args := [d] }
  | _ => none }
def FnExactEventsOkWrongFalsely : Prop := fnExactEventsOkRow.holds Try.pinned (OpenSpec.ofChange fnExactEventsOkWrong)

/-- 'laws.FnExactEventTake': WHATEVER THE INPUT: true; the input reads as it did. -/
def fnExactEventTakeSpec : ChangeSpec := { name := "fnExactEventTake", fn := fun _ => fun
  | [d] => { results := [.lit (.bool true)], args := [d] }
  | _ => none }
def fnExactEventTakeRow : OpenClaim := { program := "ytmbpomcbdopgnaa", sum := "018026187c2e4f40f52454ce61327e9b7574182edb1af124d803100c2f7dcf04", func := "loop.example/g00225/laws.FnExactEventTake", spec := "fnExactEventTake", inPlace := ["math/bits.Add64", "math/bits.Sub64"], named := ["math/bits.divideError", "math/bits.overflowError"], apart := false }
def FnExactEventTakeSaid : Prop := fnExactEventTakeRow.holds Try.pinned (OpenSpec.ofChange fnExactEventTakeSpec)

/-- ITS FALSE NEIGHBOUR: 'it returns false'. Refute it at one input. -/
def fnExactEventTakeWrong : ChangeSpec := { name := "fnExactEventTake", fn := fun _ => fun
  | [d] => { results := [.lit (.bool false)], args := [d] }
  | _ => none }
def FnExactEventTakeWrongFalsely : Prop := fnExactEventTakeRow.holds Try.pinned (OpenSpec.ofChange fnExactEventTakeWrong)

/-- 'laws.FnExactStatusAt': WHATEVER THE INPUT: true; the input reads as it did. -/
def fnExactStatusAtSpec : ChangeSpec := { name := "fnExactStatusAt", fn := fun _ => fun
  | [d1, d2] => { results := [.lit (.bool true)], args := [d1, d2] }
  | _ => none }
def fnExactStatusAtRow : OpenClaim := { program := "ytmbpomcbdopgnaa", sum := "018026187c2e4f40f52454ce61327e9b7574182edb1af124d803100c2f7dcf04", func := "loop.example/g00225/laws.FnExactStatusAt", spec := "fnExactStatusAt", inPlace := ["math/bits.Add64", "math/bits.Sub64"], unfollowed := true, recurses := true, named := ["math/bits.divideError", "math/bits.overflowError"], apart := false }
def FnExactStatusAtSaid : Prop := fnExactStatusAtRow.holds Try.pinned (OpenSpec.ofChange fnExactStatusAtSpec)

/-- ITS FALSE NEIGHBOUR: 'it returns false'. Refute it at one input. -/
def fnExactStatusAtWrong : ChangeSpec := { name := "fnExactStatusAt", fn := fun _ => fun
  | [d1, d2] => { results := [.lit (.bool false)], args := [d1, d2] }
  | _ => none }
def FnExactStatusAtWrongFalsely : Prop := fnExactStatusAtRow.holds Try.pinned (OpenSpec.ofChange fnExactStatusAtWrong)

/- THE SECOND FORM. 'bulk': how many values and letters a reading holds, each counted each time it is reached (what is shared counts as often as it is met; a slice's spare places count too). A statement '..UptoSaid' is the law's where the arguments, and the package variables that the reading takes, are together of bulk at most 1048576: NARROWER than '..Said'. Prove '..Said' where nothing that the law and all that it calls make is longer than what came in: it says more and counts as full. Else prove '..UptoSaid'. A law counts once. -/
mutual
def uptoBulk {H : Type} : DataW H → Nat
  | .lit (.string bytes) => bytes.length + 1
  | .lit _ => 1
  | .nil => 1
  | .ptr d => uptoBulk d + 1
  | .slice elems spare => uptoBulkAll elems + uptoBulkAll spare + 1
  | .agg parts => uptoBulkAll parts + 1
  | .iface _ d => uptoBulk d + 1
  | .map entries => uptoBulkEntries entries + 1
  | .held _ => 1
def uptoBulkAll {H : Type} : List (DataW H) → Nat
  | [] => 0
  | d :: r => uptoBulk d + uptoBulkAll r
def uptoBulkEntries {H : Type} : List (Lit × DataW H) → Nat
  | [] => 0
  | x :: r => uptoBulkEntry x + uptoBulkEntries r
def uptoBulkEntry {H : Type} : Lit × DataW H → Nat
  | (.string bytes, d) => bytes.length + uptoBulk d + 1
  | (_, d) => uptoBulk d + 1
 end
def uptoSmall : (H : Type) → List (DataW H) → Bool := fun _ ds => decide (uptoBulkAll ds ≤ 1048576)
def OpenSpec.upto (s : _root_.Go.ChangeSpec) : _root_.Go.OpenSpec := { _root_.Go.OpenSpec.ofChange s with cond := some uptoSmall }

/-- 'laws.FnBoxed', WHERE WHAT IT READS IS OF BULK AT MOST 1048576: true; the input reads as it did. -/
def fnBoxedUptoRow : OpenClaim := { program := "ytmbpomcbdopgnaa", sum := "018026187c2e4f40f52454ce61327e9b7574182edb1af124d803100c2f7dcf04", func := "loop.example/g00225/laws.FnBoxed", spec := "fnBoxed", inPlace := ["math/bits.Add64", "math/bits.Sub64"], unfollowed := true, recurses := true, named := ["math/bits.divideError", "math/bits.overflowError"], apart := false, narrowed := true }
def FnBoxedUptoSaid : Prop := fnBoxedUptoRow.holds Try.pinned (OpenSpec.upto fnBoxedSpec)

/-- 'laws.FnExactEventsOk', WHERE WHAT IT READS IS OF BULK AT MOST 1048576: true; the input reads as it did. -/
def fnExactEventsOkUptoRow : OpenClaim := { program := "ytmbpomcbdopgnaa", sum := "018026187c2e4f40f52454ce61327e9b7574182edb1af124d803100c2f7dcf04", func := "loop.example/g00225/laws.FnExactEventsOk", spec := "fnExactEventsOk", inPlace := ["math/bits.Add64", "math/bits.Sub64"], named := ["math/bits.divideError", "math/bits.overflowError"], apart := false, narrowed := true }
def FnExactEventsOkUptoSaid : Prop := fnExactEventsOkUptoRow.holds Try.pinned (OpenSpec.upto fnExactEventsOkSpec)

/-- 'laws.FnExactEventTake', WHERE WHAT IT READS IS OF BULK AT MOST 1048576: true; the input reads as it did. -/
def fnExactEventTakeUptoRow : OpenClaim := { program := "ytmbpomcbdopgnaa", sum := "018026187c2e4f40f52454ce61327e9b7574182edb1af124d803100c2f7dcf04", func := "loop.example/g00225/laws.FnExactEventTake", spec := "fnExactEventTake", inPlace := ["math/bits.Add64", "math/bits.Sub64"], named := ["math/bits.divideError", "math/bits.overflowError"], apart := false, narrowed := true }
def FnExactEventTakeUptoSaid : Prop := fnExactEventTakeUptoRow.holds Try.pinned (OpenSpec.upto fnExactEventTakeSpec)

/-- 'laws.FnExactStatusAt', WHERE WHAT IT READS IS OF BULK AT MOST 1048576: true; the input reads as it did. -/
def fnExactStatusAtUptoRow : OpenClaim := { program := "ytmbpomcbdopgnaa", sum := "018026187c2e4f40f52454ce61327e9b7574182edb1af124d803100c2f7dcf04", func := "loop.example/g00225/laws.FnExactStatusAt", spec := "fnExactStatusAt", inPlace := ["math/bits.Add64", "math/bits.Sub64"], unfollowed := true, recurses := true, named := ["math/bits.divideError", "math/bits.overflowError"], apart := false, narrowed := true }
def FnExactStatusAtUptoSaid : Prop := fnExactStatusAtUptoRow.holds Try.pinned (OpenSpec.upto fnExactStatusAtSpec)

end Rows
end Go.Proofs.Ytmbpomcbdopgnaa
