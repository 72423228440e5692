/-
  DERIVED. GIVEN WITH THE SEED: THE CARDS: each row of YtecdpjhifmlahaaDoorRows.lean that lists a variable, with what it lists TIED to the program's text (the seventh form; the later family's looks); each row that meets fmt, with fmt's text TOLD by the authors' own Lean function (tested against real Go, not proved from fmt's source: count such statements apart). THE CARD IS WHAT COUNTS. Prove the row's statement (the work); the ties are given (YtecdpjhifmlahaaDoorTie.lean); close each card by the builder's one call (the guide's Derived/Test/ToyasCard.lean, 'card_holds'). Laid BY PROGRAM, IN A SANDBOX (cutbox-door.mjs). By AI agents, Wed Nov 11 2026. No macro, syntax, notation, axiom, sorry.
-/
import Derived.Test.YtecdpjhifmlahaaDoorRows
import GoSem.ClaimSeven
namespace Go.Proofs.YtecdpjhifmlahaaDoor
namespace Rows

/-- THE TIED CARD OF 'abacuslaw19.TointEnds'. -/
def tointEndsCard : Claim7 := { stood := { row := tointEndsRow, standIns := [], harness := (true, "b325f15de9adb4480cbda1a0edbb8253ba584ad765d7ff78dd9a2beee0bbf58b"), looks := false }, kinds := [], alts := [], laidByText := true, laidKinds := [.data], laidTests := true, laidLooks := .later }
def TointEndsCardSaid : Prop := Claim7.holds Tryd.pinned (.plain (OpenSpec.ofChange tointEndsSpec)) tointEndsCard

/-- THE SECOND FORM's CARD OF 'abacuslaw19.TointEnds'. -/
def tointEndsUptoCard : Claim7 := { stood := { row := tointEndsUptoRow, standIns := [], harness := (true, "b325f15de9adb4480cbda1a0edbb8253ba584ad765d7ff78dd9a2beee0bbf58b"), looks := false }, kinds := [], alts := [], laidByText := true, laidKinds := [.data], laidTests := true, laidLooks := .later }
def TointEndsUptoCardSaid : Prop := Claim7.holds Tryd.pinned (.plain (OpenSpec.upto tointEndsSpec)) tointEndsUptoCard
end Rows
end Go.Proofs.YtecdpjhifmlahaaDoor
