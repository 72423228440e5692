/-
  DERIVED. GIVEN WITH THE SEED: THE CARDS: each row of YtbngedcblngnhaaDoorRows.lean that lists a variable, with what it lists TIED to the program's text (the seventh form; the later family's looks); each row that meets fmt, with fmt's text TOLD by the authors' own Lean function (tested against real Go, not proved from fmt's source: count such statements apart). THE CARD IS WHAT COUNTS. Prove the row's statement (the work); the ties are given (YtbngedcblngnhaaDoorTie.lean); close each card by the builder's one call (the guide's Derived/Test/ToyasCard.lean, 'card_holds'). Laid BY PROGRAM, IN A SANDBOX (cutbox-door.mjs). By AI agents, Wed Nov 11 2026. No macro, syntax, notation, axiom, sorry.
-/
import Derived.Test.YtbngedcblngnhaaDoorRows
import GoSem.ClaimSeven
namespace Go.Proofs.YtbngedcblngnhaaDoor
namespace Rows

/-- THE TIED CARD OF 'abacuslaw11.AddNear'. -/
def addNearCard : Claim7 := { stood := { row := addNearRow, standIns := [], harness := (true, "dfb091d358b4ed08a8bb897983ca73cd448d1acb7dc1e0737d44fec306a31b84"), looks := false }, kinds := [], alts := [], laidByText := true, laidKinds := [.data], laidTests := true, laidLooks := .later }
def AddNearCardSaid : Prop := Claim7.holds Tryd.pinned (.plain (OpenSpec.ofChange addNearSpec)) addNearCard

/-- THE TIED CARD OF 'abacuslaw15.FmaInvalid'. -/
def fmaInvalidCard : Claim7 := { stood := { row := fmaInvalidRow, standIns := [], harness := (true, "dfb091d358b4ed08a8bb897983ca73cd448d1acb7dc1e0737d44fec306a31b84"), looks := false }, kinds := [], alts := [], laidByText := true, laidKinds := [.data], laidTests := true, laidLooks := .later }
def FmaInvalidCardSaid : Prop := Claim7.holds Tryd.pinned (.plain (OpenSpec.ofChange fmaInvalidSpec)) fmaInvalidCard

/-- THE TIED CARD OF 'abacuslaw15.FmaSingle'. -/
def fmaSingleCard : Claim7 := { stood := { row := fmaSingleRow, standIns := [], harness := (true, "dfb091d358b4ed08a8bb897983ca73cd448d1acb7dc1e0737d44fec306a31b84"), looks := false }, kinds := [], alts := [], laidByText := true, laidKinds := [.data], laidTests := true, laidLooks := .later }
def FmaSingleCardSaid : Prop := Claim7.holds Tryd.pinned (.plain (OpenSpec.ofChange fmaSingleSpec)) fmaSingleCard

/-- THE SECOND FORM's CARD OF 'abacuslaw11.AddNear'. -/
def addNearUptoCard : Claim7 := { stood := { row := addNearUptoRow, standIns := [], harness := (true, "dfb091d358b4ed08a8bb897983ca73cd448d1acb7dc1e0737d44fec306a31b84"), looks := false }, kinds := [], alts := [], laidByText := true, laidKinds := [.data], laidTests := true, laidLooks := .later }
def AddNearUptoCardSaid : Prop := Claim7.holds Tryd.pinned (.plain (OpenSpec.upto addNearSpec)) addNearUptoCard

/-- THE SECOND FORM's CARD OF 'abacuslaw15.FmaInvalid'. -/
def fmaInvalidUptoCard : Claim7 := { stood := { row := fmaInvalidUptoRow, standIns := [], harness := (true, "dfb091d358b4ed08a8bb897983ca73cd448d1acb7dc1e0737d44fec306a31b84"), looks := false }, kinds := [], alts := [], laidByText := true, laidKinds := [.data], laidTests := true, laidLooks := .later }
def FmaInvalidUptoCardSaid : Prop := Claim7.holds Tryd.pinned (.plain (OpenSpec.upto fmaInvalidSpec)) fmaInvalidUptoCard

/-- THE SECOND FORM's CARD OF 'abacuslaw15.FmaSingle'. -/
def fmaSingleUptoCard : Claim7 := { stood := { row := fmaSingleUptoRow, standIns := [], harness := (true, "dfb091d358b4ed08a8bb897983ca73cd448d1acb7dc1e0737d44fec306a31b84"), looks := false }, kinds := [], alts := [], laidByText := true, laidKinds := [.data], laidTests := true, laidLooks := .later }
def FmaSingleUptoCardSaid : Prop := Claim7.holds Tryd.pinned (.plain (OpenSpec.upto fmaSingleSpec)) fmaSingleUptoCard
end Rows
end Go.Proofs.YtbngedcblngnhaaDoor
