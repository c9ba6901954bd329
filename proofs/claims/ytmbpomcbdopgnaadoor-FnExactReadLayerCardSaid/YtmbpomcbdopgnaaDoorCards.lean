/-
  DERIVED. GIVEN WITH THE SEED: THE CARDS: each row of YtmbpomcbdopgnaaDoorRows.lean that lists a variable, with what it lists TIED to the program's text (the seventh form; the later family's looks); each row that meets fmt, with fmt's text TOLD by the authors' own Lean function (tested against real Go, not proved from fmt's source: count such statements apart). THE CARD IS WHAT COUNTS. Prove the row's statement (the work); the ties are given (YtmbpomcbdopgnaaDoorTie.lean); close each card by the builder's one call (the guide's Derived/Test/ToyasCard.lean, 'card_holds'). Laid BY PROGRAM, IN A SANDBOX (cutbox-door.mjs). By AI agents, Wed Nov 11 2026. No macro, syntax, notation, axiom, sorry.
-/
import Derived.Test.YtmbpomcbdopgnaaDoorRows
import GoSem.ClaimSeven
namespace Go.Proofs.YtmbpomcbdopgnaaDoor
namespace Rows

/-- THE TIED CARD OF 'laws.FnExactReadLayer'. -/
def fnExactReadLayerCard : Claim7 := { stood := { row := fnExactReadLayerRow, standIns := [], harness := (true, "5215d8bde579fd98832708d7ad27e3e5d74656ff3f60ea34a9b251631daae45c"), looks := true }, kinds := [], alts := [], laidByText := true, laidKinds := [.data, .data, .data, .data, .sentinel, .sentinel, .pinned], laidTests := true, laidLooks := .later }
def FnExactReadLayerCardSaid : Prop := Claim7.holds Tryd.pinned (.plain (OpenSpec.ofChange fnExactReadLayerSpec)) fnExactReadLayerCard

/-- THE TIED CARD OF 'laws.FnExactLayerText'. -/
def fnExactLayerTextCard : Claim7 := { stood := { row := fnExactLayerTextRow, standIns := [], harness := (true, "5215d8bde579fd98832708d7ad27e3e5d74656ff3f60ea34a9b251631daae45c"), looks := true }, kinds := [], alts := [], laidByText := true, laidKinds := [.data, .data, .data], laidTests := true, laidLooks := .later }
def FnExactLayerTextCardSaid : Prop := Claim7.holds Tryd.pinned (.plain (OpenSpec.ofChange fnExactLayerTextSpec)) fnExactLayerTextCard

/-- THE SECOND FORM's CARD OF 'laws.FnExactReadLayer'. -/
def fnExactReadLayerUptoCard : Claim7 := { stood := { row := fnExactReadLayerUptoRow, standIns := [], harness := (true, "5215d8bde579fd98832708d7ad27e3e5d74656ff3f60ea34a9b251631daae45c"), looks := true }, kinds := [], alts := [], laidByText := true, laidKinds := [.data, .data, .data, .data, .sentinel, .sentinel, .pinned], laidTests := true, laidLooks := .later }
def FnExactReadLayerUptoCardSaid : Prop := Claim7.holds Tryd.pinned (.plain (OpenSpec.upto fnExactReadLayerSpec)) fnExactReadLayerUptoCard

/-- THE SECOND FORM's CARD OF 'laws.FnExactLayerText'. -/
def fnExactLayerTextUptoCard : Claim7 := { stood := { row := fnExactLayerTextUptoRow, standIns := [], harness := (true, "5215d8bde579fd98832708d7ad27e3e5d74656ff3f60ea34a9b251631daae45c"), looks := true }, kinds := [], alts := [], laidByText := true, laidKinds := [.data, .data, .data], laidTests := true, laidLooks := .later }
def FnExactLayerTextUptoCardSaid : Prop := Claim7.holds Tryd.pinned (.plain (OpenSpec.upto fnExactLayerTextSpec)) fnExactLayerTextUptoCard
end Rows
end Go.Proofs.YtmbpomcbdopgnaaDoor
