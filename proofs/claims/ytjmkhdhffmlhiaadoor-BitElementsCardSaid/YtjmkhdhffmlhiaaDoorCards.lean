/-
  DERIVED. GIVEN WITH THE SEED: THE CARDS: each row of YtjmkhdhffmlhiaaDoorRows.lean that lists a variable, with what it lists TIED to the program's text (the seventh form; the later family's looks); each row that meets fmt, with fmt's text TOLD by the authors' own Lean function (tested against real Go, not proved from fmt's source: count such statements apart). THE CARD IS WHAT COUNTS. Prove the row's statement (the work); the ties are given (YtjmkhdhffmlhiaaDoorTie.lean); close each card by the builder's one call (the guide's Derived/Test/ToyasCard.lean, 'card_holds'). Laid BY PROGRAM, IN A SANDBOX (cutbox-door.mjs). By AI agents, Wed Nov 11 2026. No macro, syntax, notation, axiom, sorry.
-/
import Derived.Test.YtjmkhdhffmlhiaaDoorRows
import GoSem.ClaimSeven
namespace Go.Proofs.YtjmkhdhffmlhiaaDoor
namespace Rows

/-- THE TIED CARD OF 'slopelaw3.BitMoves'. -/
def bitMovesCard : Claim7 := { stood := { row := bitMovesRow, standIns := [], harness := (true, "ddf727768a5c9c516bf101b343889104525b756402b2ad0dc2ad1191749f0869"), looks := false }, kinds := [], alts := [], laidByText := true, laidKinds := [.data], laidTests := true, laidLooks := .later }
def BitMovesCardSaid : Prop := Claim7.holds Tryd.pinned (.plain (OpenSpec.ofChange bitMovesSpec)) bitMovesCard

/-- THE TIED CARD OF 'slopelaw3.BitPlaces'. -/
def bitPlacesCard : Claim7 := { stood := { row := bitPlacesRow, standIns := [], harness := (true, "ddf727768a5c9c516bf101b343889104525b756402b2ad0dc2ad1191749f0869"), looks := false }, kinds := [], alts := [], laidByText := true, laidKinds := [.data], laidTests := true, laidLooks := .later }
def BitPlacesCardSaid : Prop := Claim7.holds Tryd.pinned (.plain (OpenSpec.ofChange bitPlacesSpec)) bitPlacesCard

/-- THE TIED CARD OF 'slopelaw3.BitRanks'. -/
def bitRanksCard : Claim7 := { stood := { row := bitRanksRow, standIns := [], harness := (true, "ddf727768a5c9c516bf101b343889104525b756402b2ad0dc2ad1191749f0869"), looks := false }, kinds := [], alts := [], laidByText := true, laidKinds := [.data], laidTests := true, laidLooks := .later }
def BitRanksCardSaid : Prop := Claim7.holds Tryd.pinned (.plain (OpenSpec.ofChange bitRanksSpec)) bitRanksCard

/-- THE TIED CARD OF 'slopelaw3.BitElements'. -/
def bitElementsCard : Claim7 := { stood := { row := bitElementsRow, standIns := [], harness := (true, "ddf727768a5c9c516bf101b343889104525b756402b2ad0dc2ad1191749f0869"), looks := false }, kinds := [], alts := [], laidByText := true, laidKinds := [.data], laidTests := true, laidLooks := .later }
def BitElementsCardSaid : Prop := Claim7.holds Tryd.pinned (.plain (OpenSpec.ofChange bitElementsSpec)) bitElementsCard

/-- THE TIED CARD OF 'slopelaw3.BitTurned'. -/
def bitTurnedCard : Claim7 := { stood := { row := bitTurnedRow, standIns := [], harness := (true, "ddf727768a5c9c516bf101b343889104525b756402b2ad0dc2ad1191749f0869"), looks := false }, kinds := [], alts := [], laidByText := true, laidKinds := [.data], laidTests := true, laidLooks := .later }
def BitTurnedCardSaid : Prop := Claim7.holds Tryd.pinned (.plain (OpenSpec.ofChange bitTurnedSpec)) bitTurnedCard

/-- THE TIED CARD OF 'slopelaw3.BitTables'. -/
def bitTablesCard : Claim7 := { stood := { row := bitTablesRow, standIns := [], harness := (true, "ddf727768a5c9c516bf101b343889104525b756402b2ad0dc2ad1191749f0869"), looks := false }, kinds := [], alts := [], laidByText := true, laidKinds := [.data], laidTests := true, laidLooks := .later }
def BitTablesCardSaid : Prop := Claim7.holds Tryd.pinned (.plain (OpenSpec.ofChange bitTablesSpec)) bitTablesCard

/-- THE TIED CARD OF 'slopelaw3.BitProducts'. -/
def bitProductsCard : Claim7 := { stood := { row := bitProductsRow, standIns := [], harness := (true, "ddf727768a5c9c516bf101b343889104525b756402b2ad0dc2ad1191749f0869"), looks := false }, kinds := [], alts := [], laidByText := true, laidKinds := [.data], laidTests := true, laidLooks := .later }
def BitProductsCardSaid : Prop := Claim7.holds Tryd.pinned (.plain (OpenSpec.ofChange bitProductsSpec)) bitProductsCard

/-- THE TIED CARD OF 'slopelaw3.BitClosed'. -/
def bitClosedCard : Claim7 := { stood := { row := bitClosedRow, standIns := [], harness := (true, "ddf727768a5c9c516bf101b343889104525b756402b2ad0dc2ad1191749f0869"), looks := false }, kinds := [], alts := [], laidByText := true, laidKinds := [.data], laidTests := true, laidLooks := .later }
def BitClosedCardSaid : Prop := Claim7.holds Tryd.pinned (.plain (OpenSpec.ofChange bitClosedSpec)) bitClosedCard

/-- THE TIED CARD OF 'slopelaw3.BitPrints'. -/
def bitPrintsCard : Claim7 := { stood := { row := bitPrintsRow, standIns := [], harness := (true, "ddf727768a5c9c516bf101b343889104525b756402b2ad0dc2ad1191749f0869"), looks := false }, kinds := [], alts := [], laidByText := true, laidKinds := [.data, .data, .data], laidTests := true, laidLooks := .later }
def BitPrintsCardSaid : Prop := Claim7.holds Tryd.pinned (.plain (OpenSpec.ofChange bitPrintsSpec)) bitPrintsCard

/-- THE TIED CARD OF 'slopelaw3.BitRound'. -/
def bitRoundCard : Claim7 := { stood := { row := bitRoundRow, standIns := [], harness := (true, "ddf727768a5c9c516bf101b343889104525b756402b2ad0dc2ad1191749f0869"), looks := false }, kinds := [], alts := [], laidByText := true, laidKinds := [.data, .data, .data], laidTests := true, laidLooks := .later }
def BitRoundCardSaid : Prop := Claim7.holds Tryd.pinned (.plain (OpenSpec.ofChange bitRoundSpec)) bitRoundCard

/-- THE TIED CARD OF 'slopelaw3.BitLists'. -/
def bitListsCard : Claim7 := { stood := { row := bitListsRow, standIns := [], harness := (true, "ddf727768a5c9c516bf101b343889104525b756402b2ad0dc2ad1191749f0869"), looks := false }, kinds := [], alts := [], laidByText := true, laidKinds := [.data, .data, .data], laidTests := true, laidLooks := .later }
def BitListsCardSaid : Prop := Claim7.holds Tryd.pinned (.plain (OpenSpec.ofChange bitListsSpec)) bitListsCard

/-- THE SECOND FORM's CARD OF 'slopelaw3.BitMoves'. -/
def bitMovesUptoCard : Claim7 := { stood := { row := bitMovesUptoRow, standIns := [], harness := (true, "ddf727768a5c9c516bf101b343889104525b756402b2ad0dc2ad1191749f0869"), looks := false }, kinds := [], alts := [], laidByText := true, laidKinds := [.data], laidTests := true, laidLooks := .later }
def BitMovesUptoCardSaid : Prop := Claim7.holds Tryd.pinned (.plain (OpenSpec.upto bitMovesSpec)) bitMovesUptoCard

/-- THE SECOND FORM's CARD OF 'slopelaw3.BitPlaces'. -/
def bitPlacesUptoCard : Claim7 := { stood := { row := bitPlacesUptoRow, standIns := [], harness := (true, "ddf727768a5c9c516bf101b343889104525b756402b2ad0dc2ad1191749f0869"), looks := false }, kinds := [], alts := [], laidByText := true, laidKinds := [.data], laidTests := true, laidLooks := .later }
def BitPlacesUptoCardSaid : Prop := Claim7.holds Tryd.pinned (.plain (OpenSpec.upto bitPlacesSpec)) bitPlacesUptoCard

/-- THE SECOND FORM's CARD OF 'slopelaw3.BitRanks'. -/
def bitRanksUptoCard : Claim7 := { stood := { row := bitRanksUptoRow, standIns := [], harness := (true, "ddf727768a5c9c516bf101b343889104525b756402b2ad0dc2ad1191749f0869"), looks := false }, kinds := [], alts := [], laidByText := true, laidKinds := [.data], laidTests := true, laidLooks := .later }
def BitRanksUptoCardSaid : Prop := Claim7.holds Tryd.pinned (.plain (OpenSpec.upto bitRanksSpec)) bitRanksUptoCard

/-- THE SECOND FORM's CARD OF 'slopelaw3.BitElements'. -/
def bitElementsUptoCard : Claim7 := { stood := { row := bitElementsUptoRow, standIns := [], harness := (true, "ddf727768a5c9c516bf101b343889104525b756402b2ad0dc2ad1191749f0869"), looks := false }, kinds := [], alts := [], laidByText := true, laidKinds := [.data], laidTests := true, laidLooks := .later }
def BitElementsUptoCardSaid : Prop := Claim7.holds Tryd.pinned (.plain (OpenSpec.upto bitElementsSpec)) bitElementsUptoCard

/-- THE SECOND FORM's CARD OF 'slopelaw3.BitTurned'. -/
def bitTurnedUptoCard : Claim7 := { stood := { row := bitTurnedUptoRow, standIns := [], harness := (true, "ddf727768a5c9c516bf101b343889104525b756402b2ad0dc2ad1191749f0869"), looks := false }, kinds := [], alts := [], laidByText := true, laidKinds := [.data], laidTests := true, laidLooks := .later }
def BitTurnedUptoCardSaid : Prop := Claim7.holds Tryd.pinned (.plain (OpenSpec.upto bitTurnedSpec)) bitTurnedUptoCard

/-- THE SECOND FORM's CARD OF 'slopelaw3.BitTables'. -/
def bitTablesUptoCard : Claim7 := { stood := { row := bitTablesUptoRow, standIns := [], harness := (true, "ddf727768a5c9c516bf101b343889104525b756402b2ad0dc2ad1191749f0869"), looks := false }, kinds := [], alts := [], laidByText := true, laidKinds := [.data], laidTests := true, laidLooks := .later }
def BitTablesUptoCardSaid : Prop := Claim7.holds Tryd.pinned (.plain (OpenSpec.upto bitTablesSpec)) bitTablesUptoCard

/-- THE SECOND FORM's CARD OF 'slopelaw3.BitProducts'. -/
def bitProductsUptoCard : Claim7 := { stood := { row := bitProductsUptoRow, standIns := [], harness := (true, "ddf727768a5c9c516bf101b343889104525b756402b2ad0dc2ad1191749f0869"), looks := false }, kinds := [], alts := [], laidByText := true, laidKinds := [.data], laidTests := true, laidLooks := .later }
def BitProductsUptoCardSaid : Prop := Claim7.holds Tryd.pinned (.plain (OpenSpec.upto bitProductsSpec)) bitProductsUptoCard

/-- THE SECOND FORM's CARD OF 'slopelaw3.BitClosed'. -/
def bitClosedUptoCard : Claim7 := { stood := { row := bitClosedUptoRow, standIns := [], harness := (true, "ddf727768a5c9c516bf101b343889104525b756402b2ad0dc2ad1191749f0869"), looks := false }, kinds := [], alts := [], laidByText := true, laidKinds := [.data], laidTests := true, laidLooks := .later }
def BitClosedUptoCardSaid : Prop := Claim7.holds Tryd.pinned (.plain (OpenSpec.upto bitClosedSpec)) bitClosedUptoCard

/-- THE SECOND FORM's CARD OF 'slopelaw3.BitPrints'. -/
def bitPrintsUptoCard : Claim7 := { stood := { row := bitPrintsUptoRow, standIns := [], harness := (true, "ddf727768a5c9c516bf101b343889104525b756402b2ad0dc2ad1191749f0869"), looks := false }, kinds := [], alts := [], laidByText := true, laidKinds := [.data, .data, .data], laidTests := true, laidLooks := .later }
def BitPrintsUptoCardSaid : Prop := Claim7.holds Tryd.pinned (.plain (OpenSpec.upto bitPrintsSpec)) bitPrintsUptoCard

/-- THE SECOND FORM's CARD OF 'slopelaw3.BitRound'. -/
def bitRoundUptoCard : Claim7 := { stood := { row := bitRoundUptoRow, standIns := [], harness := (true, "ddf727768a5c9c516bf101b343889104525b756402b2ad0dc2ad1191749f0869"), looks := false }, kinds := [], alts := [], laidByText := true, laidKinds := [.data, .data, .data], laidTests := true, laidLooks := .later }
def BitRoundUptoCardSaid : Prop := Claim7.holds Tryd.pinned (.plain (OpenSpec.upto bitRoundSpec)) bitRoundUptoCard

/-- THE SECOND FORM's CARD OF 'slopelaw3.BitLists'. -/
def bitListsUptoCard : Claim7 := { stood := { row := bitListsUptoRow, standIns := [], harness := (true, "ddf727768a5c9c516bf101b343889104525b756402b2ad0dc2ad1191749f0869"), looks := false }, kinds := [], alts := [], laidByText := true, laidKinds := [.data, .data, .data], laidTests := true, laidLooks := .later }
def BitListsUptoCardSaid : Prop := Claim7.holds Tryd.pinned (.plain (OpenSpec.upto bitListsSpec)) bitListsUptoCard
end Rows
end Go.Proofs.YtjmkhdhffmlhiaaDoor
