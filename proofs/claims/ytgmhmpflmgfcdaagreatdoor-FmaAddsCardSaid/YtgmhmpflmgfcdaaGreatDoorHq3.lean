/- Part 3 of the proof. -/
import Init
import Derived.Deep.RegionWith
import Derived.Deep.QuietTactic
import Derived.BigQuiet
import Derived.Outline
import Derived.Lib.ItoaNum
import Derived.WalkKit
import Derived.WalkSpells
import Derived.Handy
import Derived.Lib.Hide
import Derived.Below
import Derived.OrdersHeld
import Derived.Deep.MidRow
import Derived.Test.YtgmhmpflmgfcdaaGreatDoorRows
import Derived.WalkLawsBesides
import Derived.Laws.BitsAllLaws
import Derived.Shelf.Spec.TrailingZeros
import Derived.Test.YtgmhmpflmgfcdaaGreatDoorProg
import Derived.Shelf.Strconv.Itoa0
import Derived.Shelf.Bits.Mul64
import Derived.Deep.RegionHeld3
import Derived.StillTailTactics
import Derived.RegionTactic
import Derived.ChangeKeysEq
import Derived.Deep.Cut
import Derived.Deep.Draws
import Derived.Deep.AppendLies
import Derived.Maps.AppendAt
import Derived.OwnWalk
import Derived.Laws.BytesArg
import Derived.Laws.MakeOwn
import Derived.Laws.OwnMore
import Derived.Deep.OwnRows
import Derived.Tactics
import Derived.Lib.ConvBytes
import Derived.Laws.Slices
import Derived.KernelRfl
import Derived.RowKit3
import Derived.Deep.LoopGhost
import Derived.WideLaws
import Derived.Deep.DeepCutAuto
import Derived.Deep.CutBlock
import Derived.Laws.Rows
import Derived.Lib.AppendStr
import Derived.ArgAppend
import Derived.Laws.IdiomCopy
import Derived.Laws.BitsLemmas
import Derived.RowKit
import Derived.Laws.StructEq
import Derived.Laws.AppendOwnNone
namespace Go.Proofs.YtgmhmpflmgfcdaaGreatDoor
open Go.RowKit
set_option maxRecDepth 100000 in
theorem walk5 {P : Prop} (h : P := by
 go_wp2_with (first
  | ((with_reducible refine g0_ rfl ?_); refine H.xb ?_; (intro g w H; simp only [Act.put, q1_, q2_, q3_]))
  | ((with_reducible refine g1_ rfl ?_); refine H.xa ?_; (intro g w H; simp only [Act.put, q1_, q2_, q3_]))
  | ((with_reducible refine g2_ rfl ?_); (first | refine H.xl ?_ | refine H.xm ?_); simp only [Act.put, q1_, q2_, q3_])
  | ((with_reducible refine g3_ rfl ?_); (first | refine H.xs ?_ | refine H.xt ?_); (intro w H; simp only [Act.put]))
  | ((first | go_at_call 33 | go_at_call 34 | go_at_call 35); (with_reducible first | refine H.kc (cA _ (HT.out.below H.below)) ?_ | refine H.kc (cR _) ?_ | refine H.kc (fmaAdds_alive_any _ (HT.out.below H.below)) ?_); clear H; intro w H)
  )
 all_goals (first | (go_ret; exact ⟨rfl, H.below⟩) | (go_ret; exact ⟨by simp, H.below⟩))) : P := h
end Go.Proofs.YtgmhmpflmgfcdaaGreatDoor
