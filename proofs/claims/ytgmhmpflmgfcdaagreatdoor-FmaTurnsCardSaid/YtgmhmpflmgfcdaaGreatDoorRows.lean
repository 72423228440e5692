/-
  NARROWER THAN 'FOR EVERY INPUT', by the rows' own cells (each row's printed sentence says how): TointConverts: laid · FromintConverts: laid · DivQuotients: laid · MulLists: laid · AddSums: laid · AddLists: laid · FmaAdds: laid · FmaDots: laid · FmaTurns: laid.
  DERIVED. THE GIVEN ROWS OF THIS SEAT. 9 by the template 'for every input the law returns true; each argument reads behind the call as it read before'; 0 by the template 'total and deterministic' (their statements: YtgmhmpflmgfcdaaGreatDoorTotals.lean).
  GIVEN WITH THE SEED: the statements are not yours to turn. If you find one false, say at which input.
  Laid BY PROGRAM, IN A SANDBOX (cutbox-rows.mjs): the forced cells as the released guide's own fill.sh prints them over the translation 6b1eb23dcde1c30e… (all of the seat's roots in one cut). By AI agents, Wed Nov 11 2026. No macro, syntax, notation, axiom, sorry.
-/
import Derived.Test.YtgmhmpflmgfcdaaGreatDoorChecked
import GoSem.Claim
import GoSem.ClaimJoined
import GoSem.ClaimMapViews
import Derived.JoinedTies
import Derived.KernelRfl
namespace Go.Proofs.YtgmhmpflmgfcdaaGreatDoor
/- THE CELL 'sum', in the pinned program and in every row, IS THE sha256 OF THE DUMP (.gsa) THAT YtgmhmpflmgfcdaaGreatDoorProg.lean LOADS. Nothing in Lean hashes anything: it is a label: what it is worth is what the hold of that sum in a sandbox is worth. -/
noncomputable def Tryz.pinned : Pinned := { name := "ytgmhmpflmgfcdaagreatdoor", sum := "6b1eb23dcde1c30e8c2ad83046bf92a48936ce8f949c1dbe982b6024c49bdbce", checked := Tryz.checked }
namespace Rows
def none {H : Type} : Left H := { results := [], args := [] }

/- WHAT THE LISTED PACKAGE-LEVEL VARIABLES READ AS WHEN THE CALL BEGINS. Each datum BY PROGRAM (the guide's laid-datum.mjs) off the statement by which the dump's own 'gosem.cut.vars' lays the variable. In a bare row this is a premise. The card (YtgmhmpflmgfcdaaGreatDoorCards.lean) ties it to the program's text. -/
def laid_math_bits_deBruijn64tab {H : Type} : DataW H := .agg [.lit (.int .u8 0), .lit (.int .u8 1), .lit (.int .u8 56), .lit (.int .u8 2), .lit (.int .u8 57), .lit (.int .u8 49), .lit (.int .u8 28), .lit (.int .u8 3), .lit (.int .u8 61), .lit (.int .u8 58), .lit (.int .u8 42), .lit (.int .u8 50), .lit (.int .u8 38), .lit (.int .u8 29), .lit (.int .u8 17), .lit (.int .u8 4), .lit (.int .u8 62), .lit (.int .u8 47), .lit (.int .u8 59), .lit (.int .u8 36), .lit (.int .u8 45), .lit (.int .u8 43), .lit (.int .u8 51), .lit (.int .u8 22), .lit (.int .u8 53), .lit (.int .u8 39), .lit (.int .u8 33), .lit (.int .u8 30), .lit (.int .u8 24), .lit (.int .u8 18), .lit (.int .u8 12), .lit (.int .u8 5), .lit (.int .u8 63), .lit (.int .u8 55), .lit (.int .u8 48), .lit (.int .u8 27), .lit (.int .u8 60), .lit (.int .u8 41), .lit (.int .u8 37), .lit (.int .u8 16), .lit (.int .u8 46), .lit (.int .u8 35), .lit (.int .u8 44), .lit (.int .u8 21), .lit (.int .u8 52), .lit (.int .u8 32), .lit (.int .u8 23), .lit (.int .u8 11), .lit (.int .u8 54), .lit (.int .u8 26), .lit (.int .u8 40), .lit (.int .u8 15), .lit (.int .u8 34), .lit (.int .u8 20), .lit (.int .u8 31), .lit (.int .u8 10), .lit (.int .u8 25), .lit (.int .u8 14), .lit (.int .u8 19), .lit (.int .u8 9), .lit (.int .u8 13), .lit (.int .u8 8), .lit (.int .u8 7), .lit (.int .u8 6)]

/-- 'abacuslaw19.TointConverts': WHATEVER THE INPUT: true; the input reads as it did. -/
def tointConvertsSpec : ChangeSpec := { name := "tointConverts", fn := fun _ => fun
  | [d1, d2, d3, d4] => { results := [.lit (.bool true)], args := [d1, d2, d3, d4] }
  | _ => none }
def tointConvertsRow : OpenClaim := { program := "ytgmhmpflmgfcdaagreatdoor", sum := "6b1eb23dcde1c30e8c2ad83046bf92a48936ce8f949c1dbe982b6024c49bdbce", func := "abacus/abacuslaw19.TointConverts", spec := "tointConverts", named := ["math/bits.deBruijn64tab"], apart := false, laid := [("math/bits.deBruijn64tab", laid_math_bits_deBruijn64tab)] }
def TointConvertsSaid : Prop := tointConvertsRow.holds Tryz.pinned (OpenSpec.ofChange tointConvertsSpec)

/-- ITS FALSE NEIGHBOUR: 'it returns false'. Refute it at one input. -/
def tointConvertsWrong : ChangeSpec := { name := "tointConverts", fn := fun _ => fun
  | [d1, d2, d3, d4] => { results := [.lit (.bool false)], args := [d1, d2, d3, d4] }
  | _ => none }
def TointConvertsWrongFalsely : Prop := tointConvertsRow.holds Tryz.pinned (OpenSpec.ofChange tointConvertsWrong)

/-- 'abacuslaw20.FromintConverts': WHATEVER THE INPUT: true; the input reads as it did. -/
def fromintConvertsSpec : ChangeSpec := { name := "fromintConverts", fn := fun _ => fun
  | [d1, d2, d3, d4] => { results := [.lit (.bool true)], args := [d1, d2, d3, d4] }
  | _ => none }
def fromintConvertsRow : OpenClaim := { program := "ytgmhmpflmgfcdaagreatdoor", sum := "6b1eb23dcde1c30e8c2ad83046bf92a48936ce8f949c1dbe982b6024c49bdbce", func := "abacus/abacuslaw20.FromintConverts", spec := "fromintConverts", unfollowed := true, recurses := true, named := ["math/bits.deBruijn64tab"], apart := false, laid := [("math/bits.deBruijn64tab", laid_math_bits_deBruijn64tab)] }
def FromintConvertsSaid : Prop := fromintConvertsRow.holds Tryz.pinned (OpenSpec.ofChange fromintConvertsSpec)

/-- ITS FALSE NEIGHBOUR: 'it returns false'. Refute it at one input. -/
def fromintConvertsWrong : ChangeSpec := { name := "fromintConverts", fn := fun _ => fun
  | [d1, d2, d3, d4] => { results := [.lit (.bool false)], args := [d1, d2, d3, d4] }
  | _ => none }
def FromintConvertsWrongFalsely : Prop := fromintConvertsRow.holds Tryz.pinned (OpenSpec.ofChange fromintConvertsWrong)

/-- 'abacuslaw13.DivQuotients': WHATEVER THE INPUT: true; the input reads as it did. -/
def divQuotientsSpec : ChangeSpec := { name := "divQuotients", fn := fun _ => fun
  | [d1, d2, d3, d4] => { results := [.lit (.bool true)], args := [d1, d2, d3, d4] }
  | _ => none }
def divQuotientsRow : OpenClaim := { program := "ytgmhmpflmgfcdaagreatdoor", sum := "6b1eb23dcde1c30e8c2ad83046bf92a48936ce8f949c1dbe982b6024c49bdbce", func := "abacus/abacuslaw13.DivQuotients", spec := "divQuotients", named := ["math/bits.deBruijn64tab"], apart := false, laid := [("math/bits.deBruijn64tab", laid_math_bits_deBruijn64tab)] }
def DivQuotientsSaid : Prop := divQuotientsRow.holds Tryz.pinned (OpenSpec.ofChange divQuotientsSpec)

/-- ITS FALSE NEIGHBOUR: 'it returns false'. Refute it at one input. -/
def divQuotientsWrong : ChangeSpec := { name := "divQuotients", fn := fun _ => fun
  | [d1, d2, d3, d4] => { results := [.lit (.bool false)], args := [d1, d2, d3, d4] }
  | _ => none }
def DivQuotientsWrongFalsely : Prop := divQuotientsRow.holds Tryz.pinned (OpenSpec.ofChange divQuotientsWrong)

/-- 'abacuslaw12.MulLists': WHATEVER THE INPUT: true; the input reads as it did. -/
def mulListsSpec : ChangeSpec := { name := "mulLists", fn := fun _ => fun
  | [d1, d2, d3] => { results := [.lit (.bool true)], args := [d1, d2, d3] }
  | _ => none }
def mulListsRow : OpenClaim := { program := "ytgmhmpflmgfcdaagreatdoor", sum := "6b1eb23dcde1c30e8c2ad83046bf92a48936ce8f949c1dbe982b6024c49bdbce", func := "abacus/abacuslaw12.MulLists", spec := "mulLists", named := ["math/bits.deBruijn64tab"], apart := false, laid := [("math/bits.deBruijn64tab", laid_math_bits_deBruijn64tab)] }
def MulListsSaid : Prop := mulListsRow.holds Tryz.pinned (OpenSpec.ofChange mulListsSpec)

/-- ITS FALSE NEIGHBOUR: 'it returns false'. Refute it at one input. -/
def mulListsWrong : ChangeSpec := { name := "mulLists", fn := fun _ => fun
  | [d1, d2, d3] => { results := [.lit (.bool false)], args := [d1, d2, d3] }
  | _ => none }
def MulListsWrongFalsely : Prop := mulListsRow.holds Tryz.pinned (OpenSpec.ofChange mulListsWrong)

/-- 'abacuslaw11.AddSums': WHATEVER THE INPUT: true; the input reads as it did. -/
def addSumsSpec : ChangeSpec := { name := "addSums", fn := fun _ => fun
  | [d1, d2, d3, d4] => { results := [.lit (.bool true)], args := [d1, d2, d3, d4] }
  | _ => none }
def addSumsRow : OpenClaim := { program := "ytgmhmpflmgfcdaagreatdoor", sum := "6b1eb23dcde1c30e8c2ad83046bf92a48936ce8f949c1dbe982b6024c49bdbce", func := "abacus/abacuslaw11.AddSums", spec := "addSums", named := ["math/bits.deBruijn64tab"], apart := false, laid := [("math/bits.deBruijn64tab", laid_math_bits_deBruijn64tab)] }
def AddSumsSaid : Prop := addSumsRow.holds Tryz.pinned (OpenSpec.ofChange addSumsSpec)

/-- ITS FALSE NEIGHBOUR: 'it returns false'. Refute it at one input. -/
def addSumsWrong : ChangeSpec := { name := "addSums", fn := fun _ => fun
  | [d1, d2, d3, d4] => { results := [.lit (.bool false)], args := [d1, d2, d3, d4] }
  | _ => none }
def AddSumsWrongFalsely : Prop := addSumsRow.holds Tryz.pinned (OpenSpec.ofChange addSumsWrong)

/-- 'abacuslaw11.AddLists': WHATEVER THE INPUT: true; the input reads as it did. -/
def addListsSpec : ChangeSpec := { name := "addLists", fn := fun _ => fun
  | [d1, d2, d3] => { results := [.lit (.bool true)], args := [d1, d2, d3] }
  | _ => none }
def addListsRow : OpenClaim := { program := "ytgmhmpflmgfcdaagreatdoor", sum := "6b1eb23dcde1c30e8c2ad83046bf92a48936ce8f949c1dbe982b6024c49bdbce", func := "abacus/abacuslaw11.AddLists", spec := "addLists", named := ["math/bits.deBruijn64tab"], apart := false, laid := [("math/bits.deBruijn64tab", laid_math_bits_deBruijn64tab)] }
def AddListsSaid : Prop := addListsRow.holds Tryz.pinned (OpenSpec.ofChange addListsSpec)

/-- ITS FALSE NEIGHBOUR: 'it returns false'. Refute it at one input. -/
def addListsWrong : ChangeSpec := { name := "addLists", fn := fun _ => fun
  | [d1, d2, d3] => { results := [.lit (.bool false)], args := [d1, d2, d3] }
  | _ => none }
def AddListsWrongFalsely : Prop := addListsRow.holds Tryz.pinned (OpenSpec.ofChange addListsWrong)

/-- 'abacuslaw15.FmaAdds': WHATEVER THE INPUT: true; the input reads as it did. -/
def fmaAddsSpec : ChangeSpec := { name := "fmaAdds", fn := fun _ => fun
  | [d1, d2, d3, d4, d5] => { results := [.lit (.bool true)], args := [d1, d2, d3, d4, d5] }
  | _ => none }
def fmaAddsRow : OpenClaim := { program := "ytgmhmpflmgfcdaagreatdoor", sum := "6b1eb23dcde1c30e8c2ad83046bf92a48936ce8f949c1dbe982b6024c49bdbce", func := "abacus/abacuslaw15.FmaAdds", spec := "fmaAdds", named := ["math/bits.deBruijn64tab"], apart := false, laid := [("math/bits.deBruijn64tab", laid_math_bits_deBruijn64tab)] }
def FmaAddsSaid : Prop := fmaAddsRow.holds Tryz.pinned (OpenSpec.ofChange fmaAddsSpec)

/-- ITS FALSE NEIGHBOUR: 'it returns false'. Refute it at one input. -/
def fmaAddsWrong : ChangeSpec := { name := "fmaAdds", fn := fun _ => fun
  | [d1, d2, d3, d4, d5] => { results := [.lit (.bool false)], args := [d1, d2, d3, d4, d5] }
  | _ => none }
def FmaAddsWrongFalsely : Prop := fmaAddsRow.holds Tryz.pinned (OpenSpec.ofChange fmaAddsWrong)

/-- 'abacuslaw15.FmaDots': WHATEVER THE INPUT: true; the input reads as it did. -/
def fmaDotsSpec : ChangeSpec := { name := "fmaDots", fn := fun _ => fun
  | [d1, d2, d3, d4] => { results := [.lit (.bool true)], args := [d1, d2, d3, d4] }
  | _ => none }
def fmaDotsRow : OpenClaim := { program := "ytgmhmpflmgfcdaagreatdoor", sum := "6b1eb23dcde1c30e8c2ad83046bf92a48936ce8f949c1dbe982b6024c49bdbce", func := "abacus/abacuslaw15.FmaDots", spec := "fmaDots", named := ["math/bits.deBruijn64tab"], apart := false, laid := [("math/bits.deBruijn64tab", laid_math_bits_deBruijn64tab)] }
def FmaDotsSaid : Prop := fmaDotsRow.holds Tryz.pinned (OpenSpec.ofChange fmaDotsSpec)

/-- ITS FALSE NEIGHBOUR: 'it returns false'. Refute it at one input. -/
def fmaDotsWrong : ChangeSpec := { name := "fmaDots", fn := fun _ => fun
  | [d1, d2, d3, d4] => { results := [.lit (.bool false)], args := [d1, d2, d3, d4] }
  | _ => none }
def FmaDotsWrongFalsely : Prop := fmaDotsRow.holds Tryz.pinned (OpenSpec.ofChange fmaDotsWrong)

/-- 'abacuslaw15.FmaTurns': WHATEVER THE INPUT: true; the input reads as it did. -/
def fmaTurnsSpec : ChangeSpec := { name := "fmaTurns", fn := fun _ => fun
  | [d1, d2, d3, d4, d5] => { results := [.lit (.bool true)], args := [d1, d2, d3, d4, d5] }
  | _ => none }
def fmaTurnsRow : OpenClaim := { program := "ytgmhmpflmgfcdaagreatdoor", sum := "6b1eb23dcde1c30e8c2ad83046bf92a48936ce8f949c1dbe982b6024c49bdbce", func := "abacus/abacuslaw15.FmaTurns", spec := "fmaTurns", named := ["math/bits.deBruijn64tab"], apart := false, laid := [("math/bits.deBruijn64tab", laid_math_bits_deBruijn64tab)] }
def FmaTurnsSaid : Prop := fmaTurnsRow.holds Tryz.pinned (OpenSpec.ofChange fmaTurnsSpec)

/-- ITS FALSE NEIGHBOUR: 'it returns false'. Refute it at one input. -/
def fmaTurnsWrong : ChangeSpec := { name := "fmaTurns", fn := fun _ => fun
  | [d1, d2, d3, d4, d5] => { results := [.lit (.bool false)], args := [d1, d2, d3, d4, d5] }
  | _ => none }
def FmaTurnsWrongFalsely : Prop := fmaTurnsRow.holds Tryz.pinned (OpenSpec.ofChange fmaTurnsWrong)

/- THE SECOND FORM. 'bulk': how many values and letters a reading holds, each counted each time it is reached (what is shared counts as often as it is met; a slice's spare places count too). A statement '..UptoSaid' is the law's where the arguments, and the package variables that the reading takes, are together of bulk at most 1048576: NARROWER than '..Said'. Prove '..Said' where nothing that the law and all that it calls make is longer than what came in: it says more and counts as full. Else prove '..UptoSaid'. A law counts once. -/
mutual
def uptoBulk {H : Type} : DataW H → Nat
  | .lit (.string bytes) => bytes.length + 1
  | .lit _ => 1
  | .nil => 1
  | .ptr d => uptoBulk d + 1
  | .slice elems spare => uptoBulkAll elems + uptoBulkAll spare + 1
  | .agg parts => uptoBulkAll parts + 1
  | .iface _ d => uptoBulk d + 1
  | .map entries => uptoBulkEntries entries + 1
  | .held _ => 1
def uptoBulkAll {H : Type} : List (DataW H) → Nat
  | [] => 0
  | d :: r => uptoBulk d + uptoBulkAll r
def uptoBulkEntries {H : Type} : List (Lit × DataW H) → Nat
  | [] => 0
  | x :: r => uptoBulkEntry x + uptoBulkEntries r
def uptoBulkEntry {H : Type} : Lit × DataW H → Nat
  | (.string bytes, d) => bytes.length + uptoBulk d + 1
  | (_, d) => uptoBulk d + 1
 end
def uptoSmall : (H : Type) → List (DataW H) → Bool := fun _ ds => decide (uptoBulkAll ds ≤ 1048576)
def OpenSpec.upto (s : _root_.Go.ChangeSpec) : _root_.Go.OpenSpec := { _root_.Go.OpenSpec.ofChange s with cond := some uptoSmall }

/-- 'abacuslaw19.TointConverts', WHERE WHAT IT READS IS OF BULK AT MOST 1048576: true; the input reads as it did. -/
def tointConvertsUptoRow : OpenClaim := { program := "ytgmhmpflmgfcdaagreatdoor", sum := "6b1eb23dcde1c30e8c2ad83046bf92a48936ce8f949c1dbe982b6024c49bdbce", func := "abacus/abacuslaw19.TointConverts", spec := "tointConverts", named := ["math/bits.deBruijn64tab"], apart := false, laid := [("math/bits.deBruijn64tab", laid_math_bits_deBruijn64tab)], narrowed := true }
def TointConvertsUptoSaid : Prop := tointConvertsUptoRow.holds Tryz.pinned (OpenSpec.upto tointConvertsSpec)

/-- 'abacuslaw20.FromintConverts', WHERE WHAT IT READS IS OF BULK AT MOST 1048576: true; the input reads as it did. -/
def fromintConvertsUptoRow : OpenClaim := { program := "ytgmhmpflmgfcdaagreatdoor", sum := "6b1eb23dcde1c30e8c2ad83046bf92a48936ce8f949c1dbe982b6024c49bdbce", func := "abacus/abacuslaw20.FromintConverts", spec := "fromintConverts", unfollowed := true, recurses := true, named := ["math/bits.deBruijn64tab"], apart := false, laid := [("math/bits.deBruijn64tab", laid_math_bits_deBruijn64tab)], narrowed := true }
def FromintConvertsUptoSaid : Prop := fromintConvertsUptoRow.holds Tryz.pinned (OpenSpec.upto fromintConvertsSpec)

/-- 'abacuslaw13.DivQuotients', WHERE WHAT IT READS IS OF BULK AT MOST 1048576: true; the input reads as it did. -/
def divQuotientsUptoRow : OpenClaim := { program := "ytgmhmpflmgfcdaagreatdoor", sum := "6b1eb23dcde1c30e8c2ad83046bf92a48936ce8f949c1dbe982b6024c49bdbce", func := "abacus/abacuslaw13.DivQuotients", spec := "divQuotients", named := ["math/bits.deBruijn64tab"], apart := false, laid := [("math/bits.deBruijn64tab", laid_math_bits_deBruijn64tab)], narrowed := true }
def DivQuotientsUptoSaid : Prop := divQuotientsUptoRow.holds Tryz.pinned (OpenSpec.upto divQuotientsSpec)

/-- 'abacuslaw12.MulLists', WHERE WHAT IT READS IS OF BULK AT MOST 1048576: true; the input reads as it did. -/
def mulListsUptoRow : OpenClaim := { program := "ytgmhmpflmgfcdaagreatdoor", sum := "6b1eb23dcde1c30e8c2ad83046bf92a48936ce8f949c1dbe982b6024c49bdbce", func := "abacus/abacuslaw12.MulLists", spec := "mulLists", named := ["math/bits.deBruijn64tab"], apart := false, laid := [("math/bits.deBruijn64tab", laid_math_bits_deBruijn64tab)], narrowed := true }
def MulListsUptoSaid : Prop := mulListsUptoRow.holds Tryz.pinned (OpenSpec.upto mulListsSpec)

/-- 'abacuslaw11.AddSums', WHERE WHAT IT READS IS OF BULK AT MOST 1048576: true; the input reads as it did. -/
def addSumsUptoRow : OpenClaim := { program := "ytgmhmpflmgfcdaagreatdoor", sum := "6b1eb23dcde1c30e8c2ad83046bf92a48936ce8f949c1dbe982b6024c49bdbce", func := "abacus/abacuslaw11.AddSums", spec := "addSums", named := ["math/bits.deBruijn64tab"], apart := false, laid := [("math/bits.deBruijn64tab", laid_math_bits_deBruijn64tab)], narrowed := true }
def AddSumsUptoSaid : Prop := addSumsUptoRow.holds Tryz.pinned (OpenSpec.upto addSumsSpec)

/-- 'abacuslaw11.AddLists', WHERE WHAT IT READS IS OF BULK AT MOST 1048576: true; the input reads as it did. -/
def addListsUptoRow : OpenClaim := { program := "ytgmhmpflmgfcdaagreatdoor", sum := "6b1eb23dcde1c30e8c2ad83046bf92a48936ce8f949c1dbe982b6024c49bdbce", func := "abacus/abacuslaw11.AddLists", spec := "addLists", named := ["math/bits.deBruijn64tab"], apart := false, laid := [("math/bits.deBruijn64tab", laid_math_bits_deBruijn64tab)], narrowed := true }
def AddListsUptoSaid : Prop := addListsUptoRow.holds Tryz.pinned (OpenSpec.upto addListsSpec)

/-- 'abacuslaw15.FmaAdds', WHERE WHAT IT READS IS OF BULK AT MOST 1048576: true; the input reads as it did. -/
def fmaAddsUptoRow : OpenClaim := { program := "ytgmhmpflmgfcdaagreatdoor", sum := "6b1eb23dcde1c30e8c2ad83046bf92a48936ce8f949c1dbe982b6024c49bdbce", func := "abacus/abacuslaw15.FmaAdds", spec := "fmaAdds", named := ["math/bits.deBruijn64tab"], apart := false, laid := [("math/bits.deBruijn64tab", laid_math_bits_deBruijn64tab)], narrowed := true }
def FmaAddsUptoSaid : Prop := fmaAddsUptoRow.holds Tryz.pinned (OpenSpec.upto fmaAddsSpec)

/-- 'abacuslaw15.FmaDots', WHERE WHAT IT READS IS OF BULK AT MOST 1048576: true; the input reads as it did. -/
def fmaDotsUptoRow : OpenClaim := { program := "ytgmhmpflmgfcdaagreatdoor", sum := "6b1eb23dcde1c30e8c2ad83046bf92a48936ce8f949c1dbe982b6024c49bdbce", func := "abacus/abacuslaw15.FmaDots", spec := "fmaDots", named := ["math/bits.deBruijn64tab"], apart := false, laid := [("math/bits.deBruijn64tab", laid_math_bits_deBruijn64tab)], narrowed := true }
def FmaDotsUptoSaid : Prop := fmaDotsUptoRow.holds Tryz.pinned (OpenSpec.upto fmaDotsSpec)

/-- 'abacuslaw15.FmaTurns', WHERE WHAT IT READS IS OF BULK AT MOST 1048576: true; the input reads as it did. -/
def fmaTurnsUptoRow : OpenClaim := { program := "ytgmhmpflmgfcdaagreatdoor", sum := "6b1eb23dcde1c30e8c2ad83046bf92a48936ce8f949c1dbe982b6024c49bdbce", func := "abacus/abacuslaw15.FmaTurns", spec := "fmaTurns", named := ["math/bits.deBruijn64tab"], apart := false, laid := [("math/bits.deBruijn64tab", laid_math_bits_deBruijn64tab)], narrowed := true }
def FmaTurnsUptoSaid : Prop := fmaTurnsUptoRow.holds Tryz.pinned (OpenSpec.upto fmaTurnsSpec)

end Rows
end Go.Proofs.YtgmhmpflmgfcdaaGreatDoor
