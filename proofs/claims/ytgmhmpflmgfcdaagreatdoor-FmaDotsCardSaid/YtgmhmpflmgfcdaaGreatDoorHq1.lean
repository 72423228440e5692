/- Part 1 of the proof. -/
import Derived.RegionTactic
import Derived.Deep.RegionHeld3
import Derived.BigQuiet
import Derived.Deep.QuietTactic
import Derived.Deep.RegionWith
import Derived.Outline
import Derived.Lib.ItoaNum
import Derived.WalkKit
import Derived.WalkSpells
import Derived.Handy
import Derived.Lib.Hide
import Derived.Below
import Derived.OrdersHeld
import Derived.Deep.MidRow
import Init
import Derived.Test.YtgmhmpflmgfcdaaGreatDoorRows
import Derived.WalkLawsBesides
import Derived.Laws.BitsAllLaws
import Derived.Shelf.Spec.TrailingZeros
import Derived.Test.YtgmhmpflmgfcdaaGreatDoorProg
import Derived.Shelf.Strconv.Itoa0
import Derived.Shelf.Bits.Mul64
import Derived.ChangeKeysEq
import Derived.Deep.Cut
import Derived.StillTailTactics
import Derived.Laws.AppendOwnNone
namespace Go.Proofs.YtgmhmpflmgfcdaaGreatDoor
open Go.RowKit
set_option maxRecDepth 100000 in
theorem walk7 {P : Prop} (h : P := by
 go_wp2_with (first
  | ((with_reducible refine g0_ rfl ?_); refine H.xb ?_; (intro g w H; simp only [Act.put, q1_, q2_, q3_]))
  | ((with_reducible refine g1_ rfl ?_); refine H.xa ?_; (intro g w H; simp only [Act.put, q1_, q2_, q3_]))
  | ((with_reducible refine g2_ rfl ?_); (first | refine H.xl ?_ | refine H.xm ?_); simp only [Act.put, q1_, q2_, q3_])
  | ((with_reducible refine g3_ rfl ?_); (first | refine H.xs ?_ | refine H.xt ?_); (intro w H; simp only [Act.put]))
  | ((first | go_at_call 82 | go_at_call 110); (with_reducible first | refine H.kc (cX _ H.below) ?_ | refine H.kc (cY _ H.below) ?_ | refine H.kc (cO _ (HT.out.below H.below)) ?_); clear H; intro w H)
  | (go_at_call 121; ((with_reducible refine (cM _).mono ?_); rintro e w' ⟨rfl, rfl⟩))
  | (go_at_call 154; ((with_reducible refine (cF _).mono ?_); rintro e w' ⟨rfl, rfl⟩))
  )
 all_goals (first | (refine bodyPost_ret (results_ct rfl rfl (H.res rQ v2_ (ext_tri _ _ _ _ _ _ _ _ _ _ _ _) (by rfl))) rfl ⟨?_, H.below⟩; exact rfl) | (refine bodyPost_ret (results_ctt rfl rfl (H.res rB v2_ v3_ (by rfl))) rfl ⟨?_, H.below⟩; exact rfl))) : P := h
end Go.Proofs.YtgmhmpflmgfcdaaGreatDoor
