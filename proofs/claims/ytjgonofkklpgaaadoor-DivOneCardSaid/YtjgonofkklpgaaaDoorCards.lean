/-
  DERIVED. GIVEN WITH THE SEED: THE CARDS: each row of YtjgonofkklpgaaaDoorRows.lean that lists a variable, with what it lists TIED to the program's text (the seventh form; the later family's looks); each row that meets fmt, with fmt's text TOLD by the authors' own Lean function (tested against real Go, not proved from fmt's source: count such statements apart). THE CARD IS WHAT COUNTS. Prove the row's statement (the work); the ties are given (YtjgonofkklpgaaaDoorTie.lean); close each card by the builder's one call (the guide's Derived/Test/ToyasCard.lean, 'card_holds'). Laid BY PROGRAM, IN A SANDBOX (cutbox-door.mjs). By AI agents, Wed Nov 11 2026. No macro, syntax, notation, axiom, sorry.
-/
import Derived.Test.YtjgonofkklpgaaaDoorRows
import GoSem.ClaimSeven
namespace Go.Proofs.YtjgonofkklpgaaaDoor
namespace Rows

/-- THE TIED CARD OF 'abacuslaw19.TointWhole'. -/
def tointWholeCard : Claim7 := { stood := { row := tointWholeRow, standIns := [], harness := (true, "df538d1dd8b40b69733ef903482d0ea26fd4d378a83c909b0e0edd723ed13feb"), looks := false }, kinds := [], alts := [], laidByText := true, laidKinds := [.data], laidTests := true, laidLooks := .later }
def TointWholeCardSaid : Prop := Claim7.holds Tryd.pinned (.plain (OpenSpec.ofChange tointWholeSpec)) tointWholeCard

/-- THE TIED CARD OF 'abacuslaw19.TointEnds'. -/
def tointEndsCard : Claim7 := { stood := { row := tointEndsRow, standIns := [], harness := (true, "df538d1dd8b40b69733ef903482d0ea26fd4d378a83c909b0e0edd723ed13feb"), looks := false }, kinds := [], alts := [], laidByText := true, laidKinds := [.data], laidTests := true, laidLooks := .later }
def TointEndsCardSaid : Prop := Claim7.holds Tryd.pinned (.plain (OpenSpec.ofChange tointEndsSpec)) tointEndsCard

/-- THE TIED CARD OF 'abacuslaw18.WidenBack'. -/
def widenBackCard : Claim7 := { stood := { row := widenBackRow, standIns := [], harness := (true, "df538d1dd8b40b69733ef903482d0ea26fd4d378a83c909b0e0edd723ed13feb"), looks := false }, kinds := [], alts := [], laidByText := true, laidKinds := [.data], laidTests := true, laidLooks := .later }
def WidenBackCardSaid : Prop := Claim7.holds Tryd.pinned (.plain (OpenSpec.ofChange widenBackSpec)) widenBackCard

/-- THE TIED CARD OF 'abacuslaw20.FromintBack'. -/
def fromintBackCard : Claim7 := { stood := { row := fromintBackRow, standIns := [], harness := (true, "df538d1dd8b40b69733ef903482d0ea26fd4d378a83c909b0e0edd723ed13feb"), looks := false }, kinds := [], alts := [], laidByText := true, laidKinds := [.data], laidTests := true, laidLooks := .later }
def FromintBackCardSaid : Prop := Claim7.holds Tryd.pinned (.plain (OpenSpec.ofChange fromintBackSpec)) fromintBackCard

/-- THE TIED CARD OF 'abacuslaw12.MulTurned'. -/
def mulTurnedCard : Claim7 := { stood := { row := mulTurnedRow, standIns := [], harness := (true, "df538d1dd8b40b69733ef903482d0ea26fd4d378a83c909b0e0edd723ed13feb"), looks := false }, kinds := [], alts := [], laidByText := true, laidKinds := [.data], laidTests := true, laidLooks := .later }
def MulTurnedCardSaid : Prop := Claim7.holds Tryd.pinned (.plain (OpenSpec.ofChange mulTurnedSpec)) mulTurnedCard

/-- THE TIED CARD OF 'abacuslaw11.AddTurned'. -/
def addTurnedCard : Claim7 := { stood := { row := addTurnedRow, standIns := [], harness := (true, "df538d1dd8b40b69733ef903482d0ea26fd4d378a83c909b0e0edd723ed13feb"), looks := false }, kinds := [], alts := [], laidByText := true, laidKinds := [.data], laidTests := true, laidLooks := .later }
def AddTurnedCardSaid : Prop := Claim7.holds Tryd.pinned (.plain (OpenSpec.ofChange addTurnedSpec)) addTurnedCard

/-- THE TIED CARD OF 'abacuslaw13.DivOne'. -/
def divOneCard : Claim7 := { stood := { row := divOneRow, standIns := [], harness := (true, "df538d1dd8b40b69733ef903482d0ea26fd4d378a83c909b0e0edd723ed13feb"), looks := false }, kinds := [], alts := [], laidByText := true, laidKinds := [.data], laidTests := true, laidLooks := .later }
def DivOneCardSaid : Prop := Claim7.holds Tryd.pinned (.plain (OpenSpec.ofChange divOneSpec)) divOneCard

/-- THE TIED CARD OF 'abacuslaw11.AddNear'. -/
def addNearCard : Claim7 := { stood := { row := addNearRow, standIns := [], harness := (true, "df538d1dd8b40b69733ef903482d0ea26fd4d378a83c909b0e0edd723ed13feb"), looks := false }, kinds := [], alts := [], laidByText := true, laidKinds := [.data], laidTests := true, laidLooks := .later }
def AddNearCardSaid : Prop := Claim7.holds Tryd.pinned (.plain (OpenSpec.ofChange addNearSpec)) addNearCard

/-- THE TIED CARD OF 'abacuslaw15.FmaInvalid'. -/
def fmaInvalidCard : Claim7 := { stood := { row := fmaInvalidRow, standIns := [], harness := (true, "df538d1dd8b40b69733ef903482d0ea26fd4d378a83c909b0e0edd723ed13feb"), looks := false }, kinds := [], alts := [], laidByText := true, laidKinds := [.data], laidTests := true, laidLooks := .later }
def FmaInvalidCardSaid : Prop := Claim7.holds Tryd.pinned (.plain (OpenSpec.ofChange fmaInvalidSpec)) fmaInvalidCard

/-- THE TIED CARD OF 'abacuslaw14.SqrtSquares'. -/
def sqrtSquaresCard : Claim7 := { stood := { row := sqrtSquaresRow, standIns := [], harness := (true, "df538d1dd8b40b69733ef903482d0ea26fd4d378a83c909b0e0edd723ed13feb"), looks := false }, kinds := [], alts := [], laidByText := true, laidKinds := [.data], laidTests := true, laidLooks := .later }
def SqrtSquaresCardSaid : Prop := Claim7.holds Tryd.pinned (.plain (OpenSpec.ofChange sqrtSquaresSpec)) sqrtSquaresCard

/-- THE TIED CARD OF 'abacuslaw15.FmaSingle'. -/
def fmaSingleCard : Claim7 := { stood := { row := fmaSingleRow, standIns := [], harness := (true, "df538d1dd8b40b69733ef903482d0ea26fd4d378a83c909b0e0edd723ed13feb"), looks := false }, kinds := [], alts := [], laidByText := true, laidKinds := [.data], laidTests := true, laidLooks := .later }
def FmaSingleCardSaid : Prop := Claim7.holds Tryd.pinned (.plain (OpenSpec.ofChange fmaSingleSpec)) fmaSingleCard

/-- THE SECOND FORM's CARD OF 'abacuslaw19.TointWhole'. -/
def tointWholeUptoCard : Claim7 := { stood := { row := tointWholeUptoRow, standIns := [], harness := (true, "df538d1dd8b40b69733ef903482d0ea26fd4d378a83c909b0e0edd723ed13feb"), looks := false }, kinds := [], alts := [], laidByText := true, laidKinds := [.data], laidTests := true, laidLooks := .later }
def TointWholeUptoCardSaid : Prop := Claim7.holds Tryd.pinned (.plain (OpenSpec.upto tointWholeSpec)) tointWholeUptoCard

/-- THE SECOND FORM's CARD OF 'abacuslaw19.TointEnds'. -/
def tointEndsUptoCard : Claim7 := { stood := { row := tointEndsUptoRow, standIns := [], harness := (true, "df538d1dd8b40b69733ef903482d0ea26fd4d378a83c909b0e0edd723ed13feb"), looks := false }, kinds := [], alts := [], laidByText := true, laidKinds := [.data], laidTests := true, laidLooks := .later }
def TointEndsUptoCardSaid : Prop := Claim7.holds Tryd.pinned (.plain (OpenSpec.upto tointEndsSpec)) tointEndsUptoCard

/-- THE SECOND FORM's CARD OF 'abacuslaw18.WidenBack'. -/
def widenBackUptoCard : Claim7 := { stood := { row := widenBackUptoRow, standIns := [], harness := (true, "df538d1dd8b40b69733ef903482d0ea26fd4d378a83c909b0e0edd723ed13feb"), looks := false }, kinds := [], alts := [], laidByText := true, laidKinds := [.data], laidTests := true, laidLooks := .later }
def WidenBackUptoCardSaid : Prop := Claim7.holds Tryd.pinned (.plain (OpenSpec.upto widenBackSpec)) widenBackUptoCard

/-- THE SECOND FORM's CARD OF 'abacuslaw20.FromintBack'. -/
def fromintBackUptoCard : Claim7 := { stood := { row := fromintBackUptoRow, standIns := [], harness := (true, "df538d1dd8b40b69733ef903482d0ea26fd4d378a83c909b0e0edd723ed13feb"), looks := false }, kinds := [], alts := [], laidByText := true, laidKinds := [.data], laidTests := true, laidLooks := .later }
def FromintBackUptoCardSaid : Prop := Claim7.holds Tryd.pinned (.plain (OpenSpec.upto fromintBackSpec)) fromintBackUptoCard

/-- THE SECOND FORM's CARD OF 'abacuslaw12.MulTurned'. -/
def mulTurnedUptoCard : Claim7 := { stood := { row := mulTurnedUptoRow, standIns := [], harness := (true, "df538d1dd8b40b69733ef903482d0ea26fd4d378a83c909b0e0edd723ed13feb"), looks := false }, kinds := [], alts := [], laidByText := true, laidKinds := [.data], laidTests := true, laidLooks := .later }
def MulTurnedUptoCardSaid : Prop := Claim7.holds Tryd.pinned (.plain (OpenSpec.upto mulTurnedSpec)) mulTurnedUptoCard

/-- THE SECOND FORM's CARD OF 'abacuslaw11.AddTurned'. -/
def addTurnedUptoCard : Claim7 := { stood := { row := addTurnedUptoRow, standIns := [], harness := (true, "df538d1dd8b40b69733ef903482d0ea26fd4d378a83c909b0e0edd723ed13feb"), looks := false }, kinds := [], alts := [], laidByText := true, laidKinds := [.data], laidTests := true, laidLooks := .later }
def AddTurnedUptoCardSaid : Prop := Claim7.holds Tryd.pinned (.plain (OpenSpec.upto addTurnedSpec)) addTurnedUptoCard

/-- THE SECOND FORM's CARD OF 'abacuslaw13.DivOne'. -/
def divOneUptoCard : Claim7 := { stood := { row := divOneUptoRow, standIns := [], harness := (true, "df538d1dd8b40b69733ef903482d0ea26fd4d378a83c909b0e0edd723ed13feb"), looks := false }, kinds := [], alts := [], laidByText := true, laidKinds := [.data], laidTests := true, laidLooks := .later }
def DivOneUptoCardSaid : Prop := Claim7.holds Tryd.pinned (.plain (OpenSpec.upto divOneSpec)) divOneUptoCard

/-- THE SECOND FORM's CARD OF 'abacuslaw11.AddNear'. -/
def addNearUptoCard : Claim7 := { stood := { row := addNearUptoRow, standIns := [], harness := (true, "df538d1dd8b40b69733ef903482d0ea26fd4d378a83c909b0e0edd723ed13feb"), looks := false }, kinds := [], alts := [], laidByText := true, laidKinds := [.data], laidTests := true, laidLooks := .later }
def AddNearUptoCardSaid : Prop := Claim7.holds Tryd.pinned (.plain (OpenSpec.upto addNearSpec)) addNearUptoCard

/-- THE SECOND FORM's CARD OF 'abacuslaw15.FmaInvalid'. -/
def fmaInvalidUptoCard : Claim7 := { stood := { row := fmaInvalidUptoRow, standIns := [], harness := (true, "df538d1dd8b40b69733ef903482d0ea26fd4d378a83c909b0e0edd723ed13feb"), looks := false }, kinds := [], alts := [], laidByText := true, laidKinds := [.data], laidTests := true, laidLooks := .later }
def FmaInvalidUptoCardSaid : Prop := Claim7.holds Tryd.pinned (.plain (OpenSpec.upto fmaInvalidSpec)) fmaInvalidUptoCard

/-- THE SECOND FORM's CARD OF 'abacuslaw14.SqrtSquares'. -/
def sqrtSquaresUptoCard : Claim7 := { stood := { row := sqrtSquaresUptoRow, standIns := [], harness := (true, "df538d1dd8b40b69733ef903482d0ea26fd4d378a83c909b0e0edd723ed13feb"), looks := false }, kinds := [], alts := [], laidByText := true, laidKinds := [.data], laidTests := true, laidLooks := .later }
def SqrtSquaresUptoCardSaid : Prop := Claim7.holds Tryd.pinned (.plain (OpenSpec.upto sqrtSquaresSpec)) sqrtSquaresUptoCard

/-- THE SECOND FORM's CARD OF 'abacuslaw15.FmaSingle'. -/
def fmaSingleUptoCard : Claim7 := { stood := { row := fmaSingleUptoRow, standIns := [], harness := (true, "df538d1dd8b40b69733ef903482d0ea26fd4d378a83c909b0e0edd723ed13feb"), looks := false }, kinds := [], alts := [], laidByText := true, laidKinds := [.data], laidTests := true, laidLooks := .later }
def FmaSingleUptoCardSaid : Prop := Claim7.holds Tryd.pinned (.plain (OpenSpec.upto fmaSingleSpec)) fmaSingleUptoCard
end Rows
end Go.Proofs.YtjgonofkklpgaaaDoor
