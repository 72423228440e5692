/-
  DERIVED. GIVEN WITH THE SEED: THE CARDS: each row of YtdcgcjmajacgiaaDoorRows.lean that lists a variable, with what it lists TIED to the program's text (the seventh form; the later family's looks); each row that meets fmt, with fmt's text TOLD by the authors' own Lean function (tested against real Go, not proved from fmt's source: count such statements apart). THE CARD IS WHAT COUNTS. Prove the row's statement (the work); the ties are given (YtdcgcjmajacgiaaDoorTie.lean); close each card by the builder's one call (the guide's Derived/Test/ToyasCard.lean, 'card_holds'). Laid BY PROGRAM, IN A SANDBOX (cutbox-door.mjs). By AI agents, Wed Nov 11 2026. No macro, syntax, notation, axiom, sorry.
-/
import Derived.Test.YtdcgcjmajacgiaaDoorRows
import GoSem.ClaimSeven
namespace Go.Proofs.YtdcgcjmajacgiaaDoor
namespace Rows

/-- THE TIED CARD OF 'abacuslaw20.FromintBack'. -/
def fromintBackCard : Claim7 := { stood := { row := fromintBackRow, standIns := [], harness := (true, "9c03aea7278df5a18531458d6d3a08aec8c21938b4a4e01a7d05c8ad9a638a45"), looks := false }, kinds := [], alts := [], laidByText := true, laidKinds := [.data], laidTests := true, laidLooks := .later }
def FromintBackCardSaid : Prop := Claim7.holds Tryd.pinned (.plain (OpenSpec.ofChange fromintBackSpec)) fromintBackCard

/-- THE TIED CARD OF 'abacuslaw11.AddNear'. -/
def addNearCard : Claim7 := { stood := { row := addNearRow, standIns := [], harness := (true, "9c03aea7278df5a18531458d6d3a08aec8c21938b4a4e01a7d05c8ad9a638a45"), looks := false }, kinds := [], alts := [], laidByText := true, laidKinds := [.data], laidTests := true, laidLooks := .later }
def AddNearCardSaid : Prop := Claim7.holds Tryd.pinned (.plain (OpenSpec.ofChange addNearSpec)) addNearCard

/-- THE TIED CARD OF 'abacuslaw15.FmaInvalid'. -/
def fmaInvalidCard : Claim7 := { stood := { row := fmaInvalidRow, standIns := [], harness := (true, "9c03aea7278df5a18531458d6d3a08aec8c21938b4a4e01a7d05c8ad9a638a45"), looks := false }, kinds := [], alts := [], laidByText := true, laidKinds := [.data], laidTests := true, laidLooks := .later }
def FmaInvalidCardSaid : Prop := Claim7.holds Tryd.pinned (.plain (OpenSpec.ofChange fmaInvalidSpec)) fmaInvalidCard

/-- THE TIED CARD OF 'abacuslaw14.SqrtSquares'. -/
def sqrtSquaresCard : Claim7 := { stood := { row := sqrtSquaresRow, standIns := [], harness := (true, "9c03aea7278df5a18531458d6d3a08aec8c21938b4a4e01a7d05c8ad9a638a45"), looks := false }, kinds := [], alts := [], laidByText := true, laidKinds := [.data], laidTests := true, laidLooks := .later }
def SqrtSquaresCardSaid : Prop := Claim7.holds Tryd.pinned (.plain (OpenSpec.ofChange sqrtSquaresSpec)) sqrtSquaresCard

/-- THE TIED CARD OF 'abacuslaw15.FmaSingle'. -/
def fmaSingleCard : Claim7 := { stood := { row := fmaSingleRow, standIns := [], harness := (true, "9c03aea7278df5a18531458d6d3a08aec8c21938b4a4e01a7d05c8ad9a638a45"), looks := false }, kinds := [], alts := [], laidByText := true, laidKinds := [.data], laidTests := true, laidLooks := .later }
def FmaSingleCardSaid : Prop := Claim7.holds Tryd.pinned (.plain (OpenSpec.ofChange fmaSingleSpec)) fmaSingleCard

/-- THE SECOND FORM's CARD OF 'abacuslaw20.FromintBack'. -/
def fromintBackUptoCard : Claim7 := { stood := { row := fromintBackUptoRow, standIns := [], harness := (true, "9c03aea7278df5a18531458d6d3a08aec8c21938b4a4e01a7d05c8ad9a638a45"), looks := false }, kinds := [], alts := [], laidByText := true, laidKinds := [.data], laidTests := true, laidLooks := .later }
def FromintBackUptoCardSaid : Prop := Claim7.holds Tryd.pinned (.plain (OpenSpec.upto fromintBackSpec)) fromintBackUptoCard

/-- THE SECOND FORM's CARD OF 'abacuslaw11.AddNear'. -/
def addNearUptoCard : Claim7 := { stood := { row := addNearUptoRow, standIns := [], harness := (true, "9c03aea7278df5a18531458d6d3a08aec8c21938b4a4e01a7d05c8ad9a638a45"), looks := false }, kinds := [], alts := [], laidByText := true, laidKinds := [.data], laidTests := true, laidLooks := .later }
def AddNearUptoCardSaid : Prop := Claim7.holds Tryd.pinned (.plain (OpenSpec.upto addNearSpec)) addNearUptoCard

/-- THE SECOND FORM's CARD OF 'abacuslaw15.FmaInvalid'. -/
def fmaInvalidUptoCard : Claim7 := { stood := { row := fmaInvalidUptoRow, standIns := [], harness := (true, "9c03aea7278df5a18531458d6d3a08aec8c21938b4a4e01a7d05c8ad9a638a45"), looks := false }, kinds := [], alts := [], laidByText := true, laidKinds := [.data], laidTests := true, laidLooks := .later }
def FmaInvalidUptoCardSaid : Prop := Claim7.holds Tryd.pinned (.plain (OpenSpec.upto fmaInvalidSpec)) fmaInvalidUptoCard

/-- THE SECOND FORM's CARD OF 'abacuslaw14.SqrtSquares'. -/
def sqrtSquaresUptoCard : Claim7 := { stood := { row := sqrtSquaresUptoRow, standIns := [], harness := (true, "9c03aea7278df5a18531458d6d3a08aec8c21938b4a4e01a7d05c8ad9a638a45"), looks := false }, kinds := [], alts := [], laidByText := true, laidKinds := [.data], laidTests := true, laidLooks := .later }
def SqrtSquaresUptoCardSaid : Prop := Claim7.holds Tryd.pinned (.plain (OpenSpec.upto sqrtSquaresSpec)) sqrtSquaresUptoCard

/-- THE SECOND FORM's CARD OF 'abacuslaw15.FmaSingle'. -/
def fmaSingleUptoCard : Claim7 := { stood := { row := fmaSingleUptoRow, standIns := [], harness := (true, "9c03aea7278df5a18531458d6d3a08aec8c21938b4a4e01a7d05c8ad9a638a45"), looks := false }, kinds := [], alts := [], laidByText := true, laidKinds := [.data], laidTests := true, laidLooks := .later }
def FmaSingleUptoCardSaid : Prop := Claim7.holds Tryd.pinned (.plain (OpenSpec.upto fmaSingleSpec)) fmaSingleUptoCard
end Rows
end Go.Proofs.YtdcgcjmajacgiaaDoor
