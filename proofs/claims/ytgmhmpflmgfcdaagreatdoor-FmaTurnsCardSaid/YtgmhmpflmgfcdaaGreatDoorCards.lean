/-
  DERIVED. GIVEN WITH THE SEED: THE CARDS: each row of YtgmhmpflmgfcdaaGreatDoorRows.lean that lists a variable, with what it lists TIED to the program's text (the seventh form; the later family's looks); each row that meets fmt, with fmt's text TOLD by the authors' own Lean function (tested against real Go, not proved from fmt's source: count such statements apart). THE CARD IS WHAT COUNTS. Prove the row's statement (the work); the ties are given (YtgmhmpflmgfcdaaGreatDoorTie.lean); close each card by the builder's one call (the guide's Derived/Test/ToyasCard.lean, 'card_holds'). Laid BY PROGRAM, IN A SANDBOX (cutbox-door.mjs). By AI agents, Wed Nov 11 2026. No macro, syntax, notation, axiom, sorry.
-/
import Derived.Test.YtgmhmpflmgfcdaaGreatDoorRows
import GoSem.ClaimSeven
namespace Go.Proofs.YtgmhmpflmgfcdaaGreatDoor
namespace Rows

/-- THE TIED CARD OF 'abacuslaw19.TointConverts'. -/
def tointConvertsCard : Claim7 := { stood := { row := tointConvertsRow, standIns := [], harness := (true, "e1abd4d1500af125422d674be373b399583b178f0e05f812cec176a9cae60b9a"), looks := false }, kinds := [], alts := [], laidByText := true, laidKinds := [.data], laidTests := true, laidLooks := .later }
def TointConvertsCardSaid : Prop := Claim7.holds Tryz.pinned (.plain (OpenSpec.ofChange tointConvertsSpec)) tointConvertsCard

/-- THE TIED CARD OF 'abacuslaw20.FromintConverts'. -/
def fromintConvertsCard : Claim7 := { stood := { row := fromintConvertsRow, standIns := [], harness := (true, "e1abd4d1500af125422d674be373b399583b178f0e05f812cec176a9cae60b9a"), looks := false }, kinds := [], alts := [], laidByText := true, laidKinds := [.data], laidTests := true, laidLooks := .later }
def FromintConvertsCardSaid : Prop := Claim7.holds Tryz.pinned (.plain (OpenSpec.ofChange fromintConvertsSpec)) fromintConvertsCard

/-- THE TIED CARD OF 'abacuslaw13.DivQuotients'. -/
def divQuotientsCard : Claim7 := { stood := { row := divQuotientsRow, standIns := [], harness := (true, "e1abd4d1500af125422d674be373b399583b178f0e05f812cec176a9cae60b9a"), looks := false }, kinds := [], alts := [], laidByText := true, laidKinds := [.data], laidTests := true, laidLooks := .later }
def DivQuotientsCardSaid : Prop := Claim7.holds Tryz.pinned (.plain (OpenSpec.ofChange divQuotientsSpec)) divQuotientsCard

/-- THE TIED CARD OF 'abacuslaw12.MulLists'. -/
def mulListsCard : Claim7 := { stood := { row := mulListsRow, standIns := [], harness := (true, "e1abd4d1500af125422d674be373b399583b178f0e05f812cec176a9cae60b9a"), looks := false }, kinds := [], alts := [], laidByText := true, laidKinds := [.data], laidTests := true, laidLooks := .later }
def MulListsCardSaid : Prop := Claim7.holds Tryz.pinned (.plain (OpenSpec.ofChange mulListsSpec)) mulListsCard

/-- THE TIED CARD OF 'abacuslaw11.AddSums'. -/
def addSumsCard : Claim7 := { stood := { row := addSumsRow, standIns := [], harness := (true, "e1abd4d1500af125422d674be373b399583b178f0e05f812cec176a9cae60b9a"), looks := false }, kinds := [], alts := [], laidByText := true, laidKinds := [.data], laidTests := true, laidLooks := .later }
def AddSumsCardSaid : Prop := Claim7.holds Tryz.pinned (.plain (OpenSpec.ofChange addSumsSpec)) addSumsCard

/-- THE TIED CARD OF 'abacuslaw11.AddLists'. -/
def addListsCard : Claim7 := { stood := { row := addListsRow, standIns := [], harness := (true, "e1abd4d1500af125422d674be373b399583b178f0e05f812cec176a9cae60b9a"), looks := false }, kinds := [], alts := [], laidByText := true, laidKinds := [.data], laidTests := true, laidLooks := .later }
def AddListsCardSaid : Prop := Claim7.holds Tryz.pinned (.plain (OpenSpec.ofChange addListsSpec)) addListsCard

/-- THE TIED CARD OF 'abacuslaw15.FmaAdds'. -/
def fmaAddsCard : Claim7 := { stood := { row := fmaAddsRow, standIns := [], harness := (true, "e1abd4d1500af125422d674be373b399583b178f0e05f812cec176a9cae60b9a"), looks := false }, kinds := [], alts := [], laidByText := true, laidKinds := [.data], laidTests := true, laidLooks := .later }
def FmaAddsCardSaid : Prop := Claim7.holds Tryz.pinned (.plain (OpenSpec.ofChange fmaAddsSpec)) fmaAddsCard

/-- THE TIED CARD OF 'abacuslaw15.FmaDots'. -/
def fmaDotsCard : Claim7 := { stood := { row := fmaDotsRow, standIns := [], harness := (true, "e1abd4d1500af125422d674be373b399583b178f0e05f812cec176a9cae60b9a"), looks := false }, kinds := [], alts := [], laidByText := true, laidKinds := [.data], laidTests := true, laidLooks := .later }
def FmaDotsCardSaid : Prop := Claim7.holds Tryz.pinned (.plain (OpenSpec.ofChange fmaDotsSpec)) fmaDotsCard

/-- THE TIED CARD OF 'abacuslaw15.FmaTurns'. -/
def fmaTurnsCard : Claim7 := { stood := { row := fmaTurnsRow, standIns := [], harness := (true, "e1abd4d1500af125422d674be373b399583b178f0e05f812cec176a9cae60b9a"), looks := false }, kinds := [], alts := [], laidByText := true, laidKinds := [.data], laidTests := true, laidLooks := .later }
def FmaTurnsCardSaid : Prop := Claim7.holds Tryz.pinned (.plain (OpenSpec.ofChange fmaTurnsSpec)) fmaTurnsCard

/-- THE SECOND FORM's CARD OF 'abacuslaw19.TointConverts'. -/
def tointConvertsUptoCard : Claim7 := { stood := { row := tointConvertsUptoRow, standIns := [], harness := (true, "e1abd4d1500af125422d674be373b399583b178f0e05f812cec176a9cae60b9a"), looks := false }, kinds := [], alts := [], laidByText := true, laidKinds := [.data], laidTests := true, laidLooks := .later }
def TointConvertsUptoCardSaid : Prop := Claim7.holds Tryz.pinned (.plain (OpenSpec.upto tointConvertsSpec)) tointConvertsUptoCard

/-- THE SECOND FORM's CARD OF 'abacuslaw20.FromintConverts'. -/
def fromintConvertsUptoCard : Claim7 := { stood := { row := fromintConvertsUptoRow, standIns := [], harness := (true, "e1abd4d1500af125422d674be373b399583b178f0e05f812cec176a9cae60b9a"), looks := false }, kinds := [], alts := [], laidByText := true, laidKinds := [.data], laidTests := true, laidLooks := .later }
def FromintConvertsUptoCardSaid : Prop := Claim7.holds Tryz.pinned (.plain (OpenSpec.upto fromintConvertsSpec)) fromintConvertsUptoCard

/-- THE SECOND FORM's CARD OF 'abacuslaw13.DivQuotients'. -/
def divQuotientsUptoCard : Claim7 := { stood := { row := divQuotientsUptoRow, standIns := [], harness := (true, "e1abd4d1500af125422d674be373b399583b178f0e05f812cec176a9cae60b9a"), looks := false }, kinds := [], alts := [], laidByText := true, laidKinds := [.data], laidTests := true, laidLooks := .later }
def DivQuotientsUptoCardSaid : Prop := Claim7.holds Tryz.pinned (.plain (OpenSpec.upto divQuotientsSpec)) divQuotientsUptoCard

/-- THE SECOND FORM's CARD OF 'abacuslaw12.MulLists'. -/
def mulListsUptoCard : Claim7 := { stood := { row := mulListsUptoRow, standIns := [], harness := (true, "e1abd4d1500af125422d674be373b399583b178f0e05f812cec176a9cae60b9a"), looks := false }, kinds := [], alts := [], laidByText := true, laidKinds := [.data], laidTests := true, laidLooks := .later }
def MulListsUptoCardSaid : Prop := Claim7.holds Tryz.pinned (.plain (OpenSpec.upto mulListsSpec)) mulListsUptoCard

/-- THE SECOND FORM's CARD OF 'abacuslaw11.AddSums'. -/
def addSumsUptoCard : Claim7 := { stood := { row := addSumsUptoRow, standIns := [], harness := (true, "e1abd4d1500af125422d674be373b399583b178f0e05f812cec176a9cae60b9a"), looks := false }, kinds := [], alts := [], laidByText := true, laidKinds := [.data], laidTests := true, laidLooks := .later }
def AddSumsUptoCardSaid : Prop := Claim7.holds Tryz.pinned (.plain (OpenSpec.upto addSumsSpec)) addSumsUptoCard

/-- THE SECOND FORM's CARD OF 'abacuslaw11.AddLists'. -/
def addListsUptoCard : Claim7 := { stood := { row := addListsUptoRow, standIns := [], harness := (true, "e1abd4d1500af125422d674be373b399583b178f0e05f812cec176a9cae60b9a"), looks := false }, kinds := [], alts := [], laidByText := true, laidKinds := [.data], laidTests := true, laidLooks := .later }
def AddListsUptoCardSaid : Prop := Claim7.holds Tryz.pinned (.plain (OpenSpec.upto addListsSpec)) addListsUptoCard

/-- THE SECOND FORM's CARD OF 'abacuslaw15.FmaAdds'. -/
def fmaAddsUptoCard : Claim7 := { stood := { row := fmaAddsUptoRow, standIns := [], harness := (true, "e1abd4d1500af125422d674be373b399583b178f0e05f812cec176a9cae60b9a"), looks := false }, kinds := [], alts := [], laidByText := true, laidKinds := [.data], laidTests := true, laidLooks := .later }
def FmaAddsUptoCardSaid : Prop := Claim7.holds Tryz.pinned (.plain (OpenSpec.upto fmaAddsSpec)) fmaAddsUptoCard

/-- THE SECOND FORM's CARD OF 'abacuslaw15.FmaDots'. -/
def fmaDotsUptoCard : Claim7 := { stood := { row := fmaDotsUptoRow, standIns := [], harness := (true, "e1abd4d1500af125422d674be373b399583b178f0e05f812cec176a9cae60b9a"), looks := false }, kinds := [], alts := [], laidByText := true, laidKinds := [.data], laidTests := true, laidLooks := .later }
def FmaDotsUptoCardSaid : Prop := Claim7.holds Tryz.pinned (.plain (OpenSpec.upto fmaDotsSpec)) fmaDotsUptoCard

/-- THE SECOND FORM's CARD OF 'abacuslaw15.FmaTurns'. -/
def fmaTurnsUptoCard : Claim7 := { stood := { row := fmaTurnsUptoRow, standIns := [], harness := (true, "e1abd4d1500af125422d674be373b399583b178f0e05f812cec176a9cae60b9a"), looks := false }, kinds := [], alts := [], laidByText := true, laidKinds := [.data], laidTests := true, laidLooks := .later }
def FmaTurnsUptoCardSaid : Prop := Claim7.holds Tryz.pinned (.plain (OpenSpec.upto fmaTurnsSpec)) fmaTurnsUptoCard
end Rows
end Go.Proofs.YtgmhmpflmgfcdaaGreatDoor
