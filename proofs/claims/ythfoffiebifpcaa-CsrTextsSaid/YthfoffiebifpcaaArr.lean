/- Laws for arrays as values, over any program: an element read. -/
import Derived.WalkKit
import Derived.WalkSpells
import Derived.WalkLawsBesides
namespace Go.Proofs.Ythfoffiebifpcaa
open Go.RowKit

theorem run_index_arr {P : Program} {w : World} {t e : TypeId} {n i : Nat} {cs : Array Value} {v : Value} (k : IntKind) (ht : P.underlying t = some (.array n e))
    (ha : ∀ w, (isAgg e).run P w = .ok false w) (hz : ∀ w, (sizeOf e).run P w = .ok 1 w) (hi : i < n) (hv : cs[i]? = some v) :
    (Instr.index t (.agg cs) (.int k (i : Int))).run P w = .ok v w := by
  simp [Instr.index, asIntOf, run_underlying ht, part, ha, hz, hi, hv, go_sem]

end Go.Proofs.Ythfoffiebifpcaa
