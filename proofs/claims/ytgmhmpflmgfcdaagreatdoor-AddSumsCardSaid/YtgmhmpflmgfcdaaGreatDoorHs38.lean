/- Part 38 of what is proved: Pn. -/
import Derived.Test.YtgmhmpflmgfcdaaGreatDoorHs4
import Derived.Test.YtgmhmpflmgfcdaaGreatDoorHs31
import Derived.Test.YtgmhmpflmgfcdaaGreatDoorHs36
set_option linter.unusedSimpArgs false
set_option linter.unusedVariables false
set_option linter.unnecessarySimpa false
set_option maxRecDepth 100000
set_option maxHeartbeats 3200000
namespace Go.Proofs.YtgmhmpflmgfcdaaGreatDoor
def subA (f m a b : Nat) : Nat × Nat × Int := cond (fitsB f b) (addN f m a (flipN f b)) (0, 0, 2)
end Go.Proofs.YtgmhmpflmgfcdaaGreatDoor
