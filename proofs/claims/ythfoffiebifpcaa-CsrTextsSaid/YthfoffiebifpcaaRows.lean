/-
  No cell of these rows narrows 'for every input' (looked for: loops, veiled, ifaces, maps, wideKeys, modest, calm, conditions, laid).
  DERIVED. THE GIVEN ROWS OF THIS SEAT. 5 by the template 'for every input the law returns true; each argument reads behind the call as it read before'; 0 by the template 'total and deterministic' (their statements: YthfoffiebifpcaaTotals.lean).
  GIVEN WITH THE SEED: the statements are not yours to turn. If you find one false, say at which input.
  Laid BY PROGRAM, IN A SANDBOX (cutbox-rows.mjs): the forced cells as the released guide's own fill.sh prints them over the translation fb0008287f86c5ab… (all of the seat's roots in one cut). By AI agents, Wed Nov 11 2026. No macro, syntax, notation, axiom, sorry.
-/
import Derived.Test.YthfoffiebifpcaaChecked
import GoSem.Claim
import GoSem.ClaimJoined
import GoSem.ClaimMapViews
import Derived.JoinedTies
import Derived.KernelRfl
namespace Go.Proofs.Ythfoffiebifpcaa
/- THE CELL 'sum', in the pinned program and in every row, IS THE sha256 OF THE DUMP (.gsa) THAT YthfoffiebifpcaaProg.lean LOADS. Nothing in Lean hashes anything: it is a label: what it is worth is what the hold of that sum in a sandbox is worth. -/
noncomputable def Try.pinned : Pinned := { name := "ythfoffiebifpcaa", sum := "fb0008287f86c5ab1e2c2b0a163b9d3e4e9009c46be92c9b328455486c1f2f0c", checked := Try.checked }
namespace Rows
def none {H : Type} : Left H := { results := [], args := [] }

/-- 'abacuslaw21.CsrModes': WHATEVER THE INPUT: true; the input reads as it did. -/
def csrModesSpec : ChangeSpec := { name := "csrModes", fn := fun _ => fun
  | [d] => { results := [.lit (.bool true)], args := [d] }
  | _ => none }
def csrModesRow : OpenClaim := { program := "ythfoffiebifpcaa", sum := "fb0008287f86c5ab1e2c2b0a163b9d3e4e9009c46be92c9b328455486c1f2f0c", func := "abacus/abacuslaw21.CsrModes", spec := "csrModes", inPlace := ["internal/abi.NoEscape", "internal/bytealg.MakeNoZero"], apart := false }
def CsrModesSaid : Prop := csrModesRow.holds Try.pinned (OpenSpec.ofChange csrModesSpec)

/-- ITS FALSE NEIGHBOUR: 'it returns false'. Refute it at one input. -/
def csrModesWrong : ChangeSpec := { name := "csrModes", fn := fun _ => fun
  | [d] => { results := [.lit (.bool false)], args := [d] }
  | _ => none }
def CsrModesWrongFalsely : Prop := csrModesRow.holds Try.pinned (OpenSpec.ofChange csrModesWrong)

/-- 'abacuslaw21.CsrParts': WHATEVER THE INPUT: true; the input reads as it did. -/
def csrPartsSpec : ChangeSpec := { name := "csrParts", fn := fun _ => fun
  | [d1, d2] => { results := [.lit (.bool true)], args := [d1, d2] }
  | _ => none }
def csrPartsRow : OpenClaim := { program := "ythfoffiebifpcaa", sum := "fb0008287f86c5ab1e2c2b0a163b9d3e4e9009c46be92c9b328455486c1f2f0c", func := "abacus/abacuslaw21.CsrParts", spec := "csrParts", inPlace := ["internal/abi.NoEscape", "internal/bytealg.MakeNoZero"], apart := false }
def CsrPartsSaid : Prop := csrPartsRow.holds Try.pinned (OpenSpec.ofChange csrPartsSpec)

/-- ITS FALSE NEIGHBOUR: 'it returns false'. Refute it at one input. -/
def csrPartsWrong : ChangeSpec := { name := "csrParts", fn := fun _ => fun
  | [d1, d2] => { results := [.lit (.bool false)], args := [d1, d2] }
  | _ => none }
def CsrPartsWrongFalsely : Prop := csrPartsRow.holds Try.pinned (OpenSpec.ofChange csrPartsWrong)

/-- 'abacuslaw21.CsrActs': WHATEVER THE INPUT: true; the input reads as it did. -/
def csrActsSpec : ChangeSpec := { name := "csrActs", fn := fun _ => fun
  | [d] => { results := [.lit (.bool true)], args := [d] }
  | _ => none }
def csrActsRow : OpenClaim := { program := "ythfoffiebifpcaa", sum := "fb0008287f86c5ab1e2c2b0a163b9d3e4e9009c46be92c9b328455486c1f2f0c", func := "abacus/abacuslaw21.CsrActs", spec := "csrActs", inPlace := ["internal/abi.NoEscape", "internal/bytealg.MakeNoZero"], apart := false }
def CsrActsSaid : Prop := csrActsRow.holds Try.pinned (OpenSpec.ofChange csrActsSpec)

/-- ITS FALSE NEIGHBOUR: 'it returns false'. Refute it at one input. -/
def csrActsWrong : ChangeSpec := { name := "csrActs", fn := fun _ => fun
  | [d] => { results := [.lit (.bool false)], args := [d] }
  | _ => none }
def CsrActsWrongFalsely : Prop := csrActsRow.holds Try.pinned (OpenSpec.ofChange csrActsWrong)

/-- 'abacuslaw21.CsrTurns': WHATEVER THE INPUT: true; the input reads as it did. -/
def csrTurnsSpec : ChangeSpec := { name := "csrTurns", fn := fun _ => fun
  | [d] => { results := [.lit (.bool true)], args := [d] }
  | _ => none }
def csrTurnsRow : OpenClaim := { program := "ythfoffiebifpcaa", sum := "fb0008287f86c5ab1e2c2b0a163b9d3e4e9009c46be92c9b328455486c1f2f0c", func := "abacus/abacuslaw21.CsrTurns", spec := "csrTurns", inPlace := ["internal/abi.NoEscape", "internal/bytealg.MakeNoZero"], apart := false }
def CsrTurnsSaid : Prop := csrTurnsRow.holds Try.pinned (OpenSpec.ofChange csrTurnsSpec)

/-- ITS FALSE NEIGHBOUR: 'it returns false'. Refute it at one input. -/
def csrTurnsWrong : ChangeSpec := { name := "csrTurns", fn := fun _ => fun
  | [d] => { results := [.lit (.bool false)], args := [d] }
  | _ => none }
def CsrTurnsWrongFalsely : Prop := csrTurnsRow.holds Try.pinned (OpenSpec.ofChange csrTurnsWrong)

/-- 'abacuslaw21.CsrTexts': WHATEVER THE INPUT: true; the input reads as it did. -/
def csrTextsSpec : ChangeSpec := { name := "csrTexts", fn := fun _ => fun
  | [d1, d2, d3] => { results := [.lit (.bool true)], args := [d1, d2, d3] }
  | _ => none }
def csrTextsRow : OpenClaim := { program := "ythfoffiebifpcaa", sum := "fb0008287f86c5ab1e2c2b0a163b9d3e4e9009c46be92c9b328455486c1f2f0c", func := "abacus/abacuslaw21.CsrTexts", spec := "csrTexts", inPlace := ["internal/abi.NoEscape", "internal/bytealg.MakeNoZero"], apart := false }
def CsrTextsSaid : Prop := csrTextsRow.holds Try.pinned (OpenSpec.ofChange csrTextsSpec)

/-- ITS FALSE NEIGHBOUR: 'it returns false'. Refute it at one input. -/
def csrTextsWrong : ChangeSpec := { name := "csrTexts", fn := fun _ => fun
  | [d1, d2, d3] => { results := [.lit (.bool false)], args := [d1, d2, d3] }
  | _ => none }
def CsrTextsWrongFalsely : Prop := csrTextsRow.holds Try.pinned (OpenSpec.ofChange csrTextsWrong)

/- THE SECOND FORM. 'bulk': how many values and letters a reading holds, each counted each time it is reached (what is shared counts as often as it is met; a slice's spare places count too). A statement '..UptoSaid' is the law's where the arguments, and the package variables that the reading takes, are together of bulk at most 1048576: NARROWER than '..Said'. Prove '..Said' where nothing that the law and all that it calls make is longer than what came in: it says more and counts as full. Else prove '..UptoSaid'. A law counts once. -/
mutual
def uptoBulk {H : Type} : DataW H → Nat
  | .lit (.string bytes) => bytes.length + 1
  | .lit _ => 1
  | .nil => 1
  | .ptr d => uptoBulk d + 1
  | .slice elems spare => uptoBulkAll elems + uptoBulkAll spare + 1
  | .agg parts => uptoBulkAll parts + 1
  | .iface _ d => uptoBulk d + 1
  | .map entries => uptoBulkEntries entries + 1
  | .held _ => 1
def uptoBulkAll {H : Type} : List (DataW H) → Nat
  | [] => 0
  | d :: r => uptoBulk d + uptoBulkAll r
def uptoBulkEntries {H : Type} : List (Lit × DataW H) → Nat
  | [] => 0
  | x :: r => uptoBulkEntry x + uptoBulkEntries r
def uptoBulkEntry {H : Type} : Lit × DataW H → Nat
  | (.string bytes, d) => bytes.length + uptoBulk d + 1
  | (_, d) => uptoBulk d + 1
 end
def uptoSmall : (H : Type) → List (DataW H) → Bool := fun _ ds => decide (uptoBulkAll ds ≤ 1048576)
def OpenSpec.upto (s : _root_.Go.ChangeSpec) : _root_.Go.OpenSpec := { _root_.Go.OpenSpec.ofChange s with cond := some uptoSmall }

/-- 'abacuslaw21.CsrModes', WHERE WHAT IT READS IS OF BULK AT MOST 1048576: true; the input reads as it did. -/
def csrModesUptoRow : OpenClaim := { program := "ythfoffiebifpcaa", sum := "fb0008287f86c5ab1e2c2b0a163b9d3e4e9009c46be92c9b328455486c1f2f0c", func := "abacus/abacuslaw21.CsrModes", spec := "csrModes", inPlace := ["internal/abi.NoEscape", "internal/bytealg.MakeNoZero"], apart := false, narrowed := true }
def CsrModesUptoSaid : Prop := csrModesUptoRow.holds Try.pinned (OpenSpec.upto csrModesSpec)

/-- 'abacuslaw21.CsrParts', WHERE WHAT IT READS IS OF BULK AT MOST 1048576: true; the input reads as it did. -/
def csrPartsUptoRow : OpenClaim := { program := "ythfoffiebifpcaa", sum := "fb0008287f86c5ab1e2c2b0a163b9d3e4e9009c46be92c9b328455486c1f2f0c", func := "abacus/abacuslaw21.CsrParts", spec := "csrParts", inPlace := ["internal/abi.NoEscape", "internal/bytealg.MakeNoZero"], apart := false, narrowed := true }
def CsrPartsUptoSaid : Prop := csrPartsUptoRow.holds Try.pinned (OpenSpec.upto csrPartsSpec)

/-- 'abacuslaw21.CsrActs', WHERE WHAT IT READS IS OF BULK AT MOST 1048576: true; the input reads as it did. -/
def csrActsUptoRow : OpenClaim := { program := "ythfoffiebifpcaa", sum := "fb0008287f86c5ab1e2c2b0a163b9d3e4e9009c46be92c9b328455486c1f2f0c", func := "abacus/abacuslaw21.CsrActs", spec := "csrActs", inPlace := ["internal/abi.NoEscape", "internal/bytealg.MakeNoZero"], apart := false, narrowed := true }
def CsrActsUptoSaid : Prop := csrActsUptoRow.holds Try.pinned (OpenSpec.upto csrActsSpec)

/-- 'abacuslaw21.CsrTurns', WHERE WHAT IT READS IS OF BULK AT MOST 1048576: true; the input reads as it did. -/
def csrTurnsUptoRow : OpenClaim := { program := "ythfoffiebifpcaa", sum := "fb0008287f86c5ab1e2c2b0a163b9d3e4e9009c46be92c9b328455486c1f2f0c", func := "abacus/abacuslaw21.CsrTurns", spec := "csrTurns", inPlace := ["internal/abi.NoEscape", "internal/bytealg.MakeNoZero"], apart := false, narrowed := true }
def CsrTurnsUptoSaid : Prop := csrTurnsUptoRow.holds Try.pinned (OpenSpec.upto csrTurnsSpec)

/-- 'abacuslaw21.CsrTexts', WHERE WHAT IT READS IS OF BULK AT MOST 1048576: true; the input reads as it did. -/
def csrTextsUptoRow : OpenClaim := { program := "ythfoffiebifpcaa", sum := "fb0008287f86c5ab1e2c2b0a163b9d3e4e9009c46be92c9b328455486c1f2f0c", func := "abacus/abacuslaw21.CsrTexts", spec := "csrTexts", inPlace := ["internal/abi.NoEscape", "internal/bytealg.MakeNoZero"], apart := false, narrowed := true }
def CsrTextsUptoSaid : Prop := csrTextsUptoRow.holds Try.pinned (OpenSpec.upto csrTextsSpec)

end Rows
end Go.Proofs.Ythfoffiebifpcaa
