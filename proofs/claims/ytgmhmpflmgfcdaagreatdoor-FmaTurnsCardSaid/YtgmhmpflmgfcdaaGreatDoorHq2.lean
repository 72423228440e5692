/- Part 2 of the proof. -/
import Derived.BigQuiet
import Derived.Deep.QuietTactic
import Derived.RegionTactic
import Derived.Deep.RegionWith
import Derived.Outline
import Derived.Lib.ItoaNum
import Derived.WalkKit
import Derived.WalkSpells
import Derived.Handy
import Derived.Lib.Hide
import Derived.Below
import Derived.OrdersHeld
import Derived.Deep.MidRow
import Init
import Derived.Test.YtgmhmpflmgfcdaaGreatDoorRows
import Derived.WalkLawsBesides
import Derived.Laws.BitsAllLaws
import Derived.Shelf.Spec.TrailingZeros
import Derived.Test.YtgmhmpflmgfcdaaGreatDoorProg
import Derived.Shelf.Strconv.Itoa0
import Derived.Shelf.Bits.Mul64
import Derived.ChangeKeysEq
import Derived.Deep.RegionHeld3
import Derived.Deep.Cut
import Derived.StillTailTactics
import Derived.Deep.Draws
import Derived.Deep.AppendLies
import Derived.Maps.AppendAt
import Derived.OwnWalk
import Derived.Laws.BytesArg
import Derived.Laws.MakeOwn
import Derived.Laws.OwnMore
import Derived.Deep.OwnRows
import Derived.Tactics
import Derived.Lib.ConvBytes
import Derived.Laws.Slices
import Derived.KernelRfl
import Derived.RowKit3
import Derived.Deep.LoopGhost
import Derived.WideLaws
import Derived.Deep.DeepCutAuto
import Derived.Deep.CutBlock
import Derived.Laws.Rows
import Derived.Lib.AppendStr
import Derived.ArgAppend
import Derived.Laws.IdiomCopy
import Derived.Laws.BitsLemmas
import Derived.RowKit
import Derived.Laws.StructEq
import Derived.Laws.AppendOwnNone
namespace Go.Proofs.YtgmhmpflmgfcdaaGreatDoor
open Go.RowKit
set_option maxRecDepth 100000 in
theorem walk6 {P : Prop} (h : P := by
 go_wp2_with (first
  | ((with_reducible refine g0_ rfl ?_); refine H.xb ?_; (intro g w H; simp only [Act.put, q1_, q2_, q3_]))
  | ((with_reducible refine g1_ rfl ?_); refine H.xa ?_; (intro g w H; simp only [Act.put, q1_, q2_, q3_]))
  | ((with_reducible refine g2_ rfl ?_); (first | refine H.xl ?_ | refine H.xm ?_); simp only [Act.put, q1_, q2_, q3_])
  | ((with_reducible refine g3_ rfl ?_); (first | refine H.xs ?_ | refine H.xt ?_); (intro w H; simp only [Act.put]))
  | ((first | go_at_call 33 | go_at_call 35 | go_at_call 38 | go_at_call 39 | go_at_call 40 | go_at_call 41 | go_at_call 92 | go_at_call 108 | go_at_call 119); (with_reducible first | refine H.kc (cM _ (HT.out.below H.below)) ?_ | refine H.kc (cA _ (HT.out.below H.below)) ?_ | refine H.kc (fmaTurns_alive_any _ (HT.out.below H.below)) ?_ | refine H.kc (cA1 _ (HT.out.below H.below)) ?_ | refine H.kc (cR1 _) ?_ | refine H.kc (cR2 _) ?_ | refine H.kc (cR3 _) ?_ | refine H.kc (cA2 _ (HT.out.below H.below)) ?_ | refine H.kc (cA3 _ (HT.out.below H.below)) ?_ | refine H.kc (cTa _) ?_ | refine H.kc (cTc _) ?_ | refine H.kc (cFa _) ?_ | refine H.kc (cFc _) ?_ | refine H.kc (cT _ (HT.out.below H.below)) ?_); clear H; intro w H)
  )
 all_goals (first | (refine bodyPost_ret (results_ctt rfl rfl (H.res rB v2_ v3_ (by rfl))) rfl ⟨?_, H.below⟩; exact rfl) | (go_ret; exact ⟨rfl, H.below⟩) | (go_ret; exact ⟨by simp, H.below⟩))) : P := h
end Go.Proofs.YtgmhmpflmgfcdaaGreatDoor
