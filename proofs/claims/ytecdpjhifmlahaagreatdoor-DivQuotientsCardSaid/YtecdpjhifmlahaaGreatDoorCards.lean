/-
  DERIVED. GIVEN WITH THE SEED: THE CARDS: each row of YtecdpjhifmlahaaGreatDoorRows.lean that lists a variable, with what it lists TIED to the program's text (the seventh form; the later family's looks); each row that meets fmt, with fmt's text TOLD by the authors' own Lean function (tested against real Go, not proved from fmt's source: count such statements apart). THE CARD IS WHAT COUNTS. Prove the row's statement (the work); the ties are given (YtecdpjhifmlahaaGreatDoorTie.lean); close each card by the builder's one call (the guide's Derived/Test/ToyasCard.lean, 'card_holds'). Laid BY PROGRAM, IN A SANDBOX (cutbox-door.mjs). By AI agents, Wed Nov 11 2026. No macro, syntax, notation, axiom, sorry.
-/
import Derived.Test.YtecdpjhifmlahaaGreatDoorRows
import GoSem.ClaimSeven
namespace Go.Proofs.YtecdpjhifmlahaaGreatDoor
namespace Rows

/-- THE TIED CARD OF 'abacuslaw19.TointConverts'. -/
def tointConvertsCard : Claim7 := { stood := { row := tointConvertsRow, standIns := [], harness := (true, "6481b53b0aa6d600ef5e4432e7dd76414730b28406c285fa17f53d321fceb739"), looks := false }, kinds := [], alts := [], laidByText := true, laidKinds := [.data], laidTests := true, laidLooks := .later }
def TointConvertsCardSaid : Prop := Claim7.holds Tryz.pinned (.plain (OpenSpec.ofChange tointConvertsSpec)) tointConvertsCard

/-- THE TIED CARD OF 'abacuslaw20.FromintConverts'. -/
def fromintConvertsCard : Claim7 := { stood := { row := fromintConvertsRow, standIns := [], harness := (true, "6481b53b0aa6d600ef5e4432e7dd76414730b28406c285fa17f53d321fceb739"), looks := false }, kinds := [], alts := [], laidByText := true, laidKinds := [.data], laidTests := true, laidLooks := .later }
def FromintConvertsCardSaid : Prop := Claim7.holds Tryz.pinned (.plain (OpenSpec.ofChange fromintConvertsSpec)) fromintConvertsCard

/-- THE TIED CARD OF 'abacuslaw18.WidenConverts'. -/
def widenConvertsCard : Claim7 := { stood := { row := widenConvertsRow, standIns := [], harness := (true, "6481b53b0aa6d600ef5e4432e7dd76414730b28406c285fa17f53d321fceb739"), looks := false }, kinds := [], alts := [], laidByText := true, laidKinds := [.data], laidTests := true, laidLooks := .later }
def WidenConvertsCardSaid : Prop := Claim7.holds Tryz.pinned (.plain (OpenSpec.ofChange widenConvertsSpec)) widenConvertsCard

/-- THE TIED CARD OF 'abacuslaw18.WidenFits'. -/
def widenFitsCard : Claim7 := { stood := { row := widenFitsRow, standIns := [], harness := (true, "6481b53b0aa6d600ef5e4432e7dd76414730b28406c285fa17f53d321fceb739"), looks := false }, kinds := [], alts := [], laidByText := true, laidKinds := [.data], laidTests := true, laidLooks := .later }
def WidenFitsCardSaid : Prop := Claim7.holds Tryz.pinned (.plain (OpenSpec.ofChange widenFitsSpec)) widenFitsCard

/-- THE TIED CARD OF 'abacuslaw12.MulProducts'. -/
def mulProductsCard : Claim7 := { stood := { row := mulProductsRow, standIns := [], harness := (true, "6481b53b0aa6d600ef5e4432e7dd76414730b28406c285fa17f53d321fceb739"), looks := false }, kinds := [], alts := [], laidByText := true, laidKinds := [.data], laidTests := true, laidLooks := .later }
def MulProductsCardSaid : Prop := Claim7.holds Tryz.pinned (.plain (OpenSpec.ofChange mulProductsSpec)) mulProductsCard

/-- THE TIED CARD OF 'abacuslaw14.SqrtRoots'. -/
def sqrtRootsCard : Claim7 := { stood := { row := sqrtRootsRow, standIns := [], harness := (true, "6481b53b0aa6d600ef5e4432e7dd76414730b28406c285fa17f53d321fceb739"), looks := false }, kinds := [], alts := [], laidByText := true, laidKinds := [.data], laidTests := true, laidLooks := .later }
def SqrtRootsCardSaid : Prop := Claim7.holds Tryz.pinned (.plain (OpenSpec.ofChange sqrtRootsSpec)) sqrtRootsCard

/-- THE TIED CARD OF 'abacuslaw13.DivQuotients'. -/
def divQuotientsCard : Claim7 := { stood := { row := divQuotientsRow, standIns := [], harness := (true, "6481b53b0aa6d600ef5e4432e7dd76414730b28406c285fa17f53d321fceb739"), looks := false }, kinds := [], alts := [], laidByText := true, laidKinds := [.data], laidTests := true, laidLooks := .later }
def DivQuotientsCardSaid : Prop := Claim7.holds Tryz.pinned (.plain (OpenSpec.ofChange divQuotientsSpec)) divQuotientsCard

/-- THE TIED CARD OF 'abacuslaw11.AddSums'. -/
def addSumsCard : Claim7 := { stood := { row := addSumsRow, standIns := [], harness := (true, "6481b53b0aa6d600ef5e4432e7dd76414730b28406c285fa17f53d321fceb739"), looks := false }, kinds := [], alts := [], laidByText := true, laidKinds := [.data], laidTests := true, laidLooks := .later }
def AddSumsCardSaid : Prop := Claim7.holds Tryz.pinned (.plain (OpenSpec.ofChange addSumsSpec)) addSumsCard

/-- THE TIED CARD OF 'abacuslaw15.FmaAdds'. -/
def fmaAddsCard : Claim7 := { stood := { row := fmaAddsRow, standIns := [], harness := (true, "6481b53b0aa6d600ef5e4432e7dd76414730b28406c285fa17f53d321fceb739"), looks := false }, kinds := [], alts := [], laidByText := true, laidKinds := [.data], laidTests := true, laidLooks := .later }
def FmaAddsCardSaid : Prop := Claim7.holds Tryz.pinned (.plain (OpenSpec.ofChange fmaAddsSpec)) fmaAddsCard

/-- THE SECOND FORM's CARD OF 'abacuslaw19.TointConverts'. -/
def tointConvertsUptoCard : Claim7 := { stood := { row := tointConvertsUptoRow, standIns := [], harness := (true, "6481b53b0aa6d600ef5e4432e7dd76414730b28406c285fa17f53d321fceb739"), looks := false }, kinds := [], alts := [], laidByText := true, laidKinds := [.data], laidTests := true, laidLooks := .later }
def TointConvertsUptoCardSaid : Prop := Claim7.holds Tryz.pinned (.plain (OpenSpec.upto tointConvertsSpec)) tointConvertsUptoCard

/-- THE SECOND FORM's CARD OF 'abacuslaw20.FromintConverts'. -/
def fromintConvertsUptoCard : Claim7 := { stood := { row := fromintConvertsUptoRow, standIns := [], harness := (true, "6481b53b0aa6d600ef5e4432e7dd76414730b28406c285fa17f53d321fceb739"), looks := false }, kinds := [], alts := [], laidByText := true, laidKinds := [.data], laidTests := true, laidLooks := .later }
def FromintConvertsUptoCardSaid : Prop := Claim7.holds Tryz.pinned (.plain (OpenSpec.upto fromintConvertsSpec)) fromintConvertsUptoCard

/-- THE SECOND FORM's CARD OF 'abacuslaw18.WidenConverts'. -/
def widenConvertsUptoCard : Claim7 := { stood := { row := widenConvertsUptoRow, standIns := [], harness := (true, "6481b53b0aa6d600ef5e4432e7dd76414730b28406c285fa17f53d321fceb739"), looks := false }, kinds := [], alts := [], laidByText := true, laidKinds := [.data], laidTests := true, laidLooks := .later }
def WidenConvertsUptoCardSaid : Prop := Claim7.holds Tryz.pinned (.plain (OpenSpec.upto widenConvertsSpec)) widenConvertsUptoCard

/-- THE SECOND FORM's CARD OF 'abacuslaw18.WidenFits'. -/
def widenFitsUptoCard : Claim7 := { stood := { row := widenFitsUptoRow, standIns := [], harness := (true, "6481b53b0aa6d600ef5e4432e7dd76414730b28406c285fa17f53d321fceb739"), looks := false }, kinds := [], alts := [], laidByText := true, laidKinds := [.data], laidTests := true, laidLooks := .later }
def WidenFitsUptoCardSaid : Prop := Claim7.holds Tryz.pinned (.plain (OpenSpec.upto widenFitsSpec)) widenFitsUptoCard

/-- THE SECOND FORM's CARD OF 'abacuslaw12.MulProducts'. -/
def mulProductsUptoCard : Claim7 := { stood := { row := mulProductsUptoRow, standIns := [], harness := (true, "6481b53b0aa6d600ef5e4432e7dd76414730b28406c285fa17f53d321fceb739"), looks := false }, kinds := [], alts := [], laidByText := true, laidKinds := [.data], laidTests := true, laidLooks := .later }
def MulProductsUptoCardSaid : Prop := Claim7.holds Tryz.pinned (.plain (OpenSpec.upto mulProductsSpec)) mulProductsUptoCard

/-- THE SECOND FORM's CARD OF 'abacuslaw14.SqrtRoots'. -/
def sqrtRootsUptoCard : Claim7 := { stood := { row := sqrtRootsUptoRow, standIns := [], harness := (true, "6481b53b0aa6d600ef5e4432e7dd76414730b28406c285fa17f53d321fceb739"), looks := false }, kinds := [], alts := [], laidByText := true, laidKinds := [.data], laidTests := true, laidLooks := .later }
def SqrtRootsUptoCardSaid : Prop := Claim7.holds Tryz.pinned (.plain (OpenSpec.upto sqrtRootsSpec)) sqrtRootsUptoCard

/-- THE SECOND FORM's CARD OF 'abacuslaw13.DivQuotients'. -/
def divQuotientsUptoCard : Claim7 := { stood := { row := divQuotientsUptoRow, standIns := [], harness := (true, "6481b53b0aa6d600ef5e4432e7dd76414730b28406c285fa17f53d321fceb739"), looks := false }, kinds := [], alts := [], laidByText := true, laidKinds := [.data], laidTests := true, laidLooks := .later }
def DivQuotientsUptoCardSaid : Prop := Claim7.holds Tryz.pinned (.plain (OpenSpec.upto divQuotientsSpec)) divQuotientsUptoCard

/-- THE SECOND FORM's CARD OF 'abacuslaw11.AddSums'. -/
def addSumsUptoCard : Claim7 := { stood := { row := addSumsUptoRow, standIns := [], harness := (true, "6481b53b0aa6d600ef5e4432e7dd76414730b28406c285fa17f53d321fceb739"), looks := false }, kinds := [], alts := [], laidByText := true, laidKinds := [.data], laidTests := true, laidLooks := .later }
def AddSumsUptoCardSaid : Prop := Claim7.holds Tryz.pinned (.plain (OpenSpec.upto addSumsSpec)) addSumsUptoCard

/-- THE SECOND FORM's CARD OF 'abacuslaw15.FmaAdds'. -/
def fmaAddsUptoCard : Claim7 := { stood := { row := fmaAddsUptoRow, standIns := [], harness := (true, "6481b53b0aa6d600ef5e4432e7dd76414730b28406c285fa17f53d321fceb739"), looks := false }, kinds := [], alts := [], laidByText := true, laidKinds := [.data], laidTests := true, laidLooks := .later }
def FmaAddsUptoCardSaid : Prop := Claim7.holds Tryz.pinned (.plain (OpenSpec.upto fmaAddsSpec)) fmaAddsUptoCard
end Rows
end Go.Proofs.YtecdpjhifmlahaaGreatDoor
