/- Part 5 of what is proved: Wlk1_. -/
import Init
import Derived.BigQuiet
import Derived.Deep.QuietTactic
import Derived.RegionTactic
import Derived.Deep.RegionWith
import Derived.Outline
import Derived.Lib.ItoaNum
import Derived.WalkKit
import Derived.WalkSpells
import Derived.Handy
import Derived.Lib.Hide
import Derived.Below
import Derived.OrdersHeld
import Derived.Deep.MidRow
import Derived.Test.YtecdpjhifmlahaaGreatDoorRows
import Derived.WalkLawsBesides
import Derived.Laws.BitsAllLaws
import Derived.Shelf.Spec.TrailingZeros
import Derived.Test.YtecdpjhifmlahaaGreatDoorProg
import Derived.Shelf.Strconv.Itoa0
import Derived.Shelf.Bits.Mul64
import Derived.ChangeKeysEq
import Derived.Deep.RegionHeld3
import Derived.Deep.Cut
import Derived.StillTailTactics
import Derived.Deep.Draws
import Derived.Deep.AppendLies
import Derived.Maps.AppendAt
import Derived.OwnWalk
import Derived.Laws.BytesArg
import Derived.Laws.MakeOwn
import Derived.Laws.OwnMore
import Derived.Deep.OwnRows
import Derived.Tactics
import Derived.Lib.ConvBytes
import Derived.Laws.Slices
import Derived.KernelRfl
import Derived.RowKit3
import Derived.Deep.LoopGhost
import Derived.WideLaws
import Derived.Deep.DeepCutAuto
import Derived.Deep.CutBlock
import Derived.Laws.Rows
import Derived.Lib.AppendStr
import Derived.ArgAppend
import Derived.Laws.IdiomCopy
import Derived.Laws.BitsLemmas
import Derived.RowKit
import Derived.Laws.StructEq
namespace Go.Proofs.YtecdpjhifmlahaaGreatDoor
open Go.RowKit
set_option maxRecDepth 100000 in
theorem walk4 {P : Prop} (h : P := by
  go_wp2_with (first
    | ((with_reducible show wpList _ _ _ (⟨_, .box _ _, _, _, _, _⟩ :: _) _ _); refine H.xb ?_; (intro g w H; simp only [Act.put, q1_, q2_, q3_]))
    | ((with_reducible show wpList _ _ _ (⟨_, .alloc _, _, _, _, _⟩ :: _) _ _); refine H.xa ?_; (intro g w H; simp only [Act.put, q1_, q2_, q3_]))
    | ((with_reducible show wpList _ _ _ (⟨_, .load _ _, _, _, _, _⟩ :: _) _ _); (first | refine H.xl ?_ | refine H.xm ?_); simp only [Act.put, q1_, q2_, q3_])
    | ((with_reducible show wpList _ _ _ (⟨_, .store _ _ _, _, _, _, _⟩ :: _) _ _); (first | refine H.xs ?_ | refine H.xt ?_); (intro w H; simp only [Act.put]))
    | ((with_reducible show wpList _ _ _ (⟨_, .buildSlice 122 _ _, _, _, _, _⟩ :: _) _ _); refine H.bs2 rfl Tryz.underlying122 rB rfl rfl rfl  (by rfl) (by rfl)  (by decide) rfl ?_; (intro g w H; simp only [Act.put, q1_, q2_, q3_]))
    | ((with_reducible show wpList _ _ _ (⟨_, .buildSlice 183 _ _, _, _, _, _⟩ :: _) _ _); refine H.bs2 rfl Tryz.underlying183 rP rfl rfl rfl  (by rfl) (by rfl)  (by decide) rfl ?_; (intro g w H; simp only [Act.put, q1_, q2_, q3_]))
    | ((with_reducible show wpList _ _ _ (⟨_, .build 86 _, _, _, _, _⟩ :: _) _ _); refine wp_bld3 rfl rfl rfl rfl rfl (rough_nse _ _ _ ) ?_; simp only [Act.put, q1_, q2_, q3_])
    | ((with_reducible show Code.wp _ (.region 4 _ true) _ _ _); refine H.heldSub rfl (List.Sublist.refl _) ?_; intro H; refine H.zr 0 ?_; (try simp only [Act.put, q1_, q2_, q3_]); (try simp only [q4_, q5_, q6_]); (first | refine H.zl 1 ?_ | refine H.zm 1 ?_); (try simp only [Act.put, q1_, q2_, q3_]); (try simp only [q4_, q5_, q6_]); refine H.zr 2 ?_; (try simp only [Act.put, q1_, q2_, q3_]); (try simp only [q4_, q5_, q6_]); (first | refine H.zl 3 ?_ | refine H.zm 3 ?_); (try simp only [Act.put, q1_, q2_, q3_]); (try simp only [q4_, q5_, q6_]); refine held2 4 5 ?_ ?_; (refine H.ya ?_; intro g w H; refine H.nx ?_; (try simp only [Act.put, q1_, q2_, q3_]); (try simp only [q4_, q5_, q6_]); refine held1 5 ?_; refine H.ya ?_; intro g w H; refine H.nx ?_; (try simp only [Act.put, q1_, q2_, q3_]); (try simp only [q4_, q5_, q6_]); refine held1 6 ?_; (first | refine H.ys ?_ | refine H.yt ?_); intro w H; refine H.nx ?_; (try simp only [Act.put]); refine held1 7 ?_; (first | refine H.ys ?_ | refine H.yt ?_); intro w H; refine H.nx ?_; (try simp only [Act.put]); refine wpAnyH_done (by kernel_rfl) ?_ _); rotate_left; (refine H.ya ?_; intro g w H; refine H.nx ?_; (try simp only [Act.put, q1_, q2_, q3_]); (try simp only [q4_, q5_, q6_]); refine held1 4 ?_; refine H.ya ?_; intro g w H; refine H.nx ?_; (try simp only [Act.put, q1_, q2_, q3_]); (try simp only [q4_, q5_, q6_]); refine held1 6 ?_; (first | refine H.ys ?_ | refine H.yt ?_); intro w H; refine H.nx ?_; (try simp only [Act.put]); refine held1 7 ?_; (first | refine H.ys ?_ | refine H.yt ?_); intro w H; refine H.nx ?_; (try simp only [Act.put]); refine wpAnyH_done (by kernel_rfl) ?_ _))
    | ((with_reducible show Code.wp _ (.region 5 _ true) _ _ _); refine H.heldSub rfl (List.Sublist.refl _) ?_; intro H; (first | refine H.zl 0 ?_ | refine H.zm 0 ?_); (try simp only [Act.put, q1_, q2_, q3_]); (try simp only [q4_, q5_, q6_]); (first | refine H.zl 2 ?_ | refine H.zm 2 ?_); (try simp only [Act.put, q1_, q2_, q3_]); (try simp only [q4_, q5_, q6_]); refine held1 1 ?_; unfold Oper.wp; go_simp; (first | (go_at_call 86; (with_reducible first | refine (cb1 _).mono ?_ | refine (cb2 _).mono ?_); rintro e w ⟨rfl, hb⟩; replace H := H.call hb; clear hb)); refine H.nx ?_; (try simp only [Act.put, q1_, q2_, q3_]); (try simp only [q4_, q5_, q6_]); refine held1 3 ?_; unfold Oper.wp; go_simp; (first | (go_at_call 86; (with_reducible first | refine (cb1 _).mono ?_ | refine (cb2 _).mono ?_); rintro e w ⟨rfl, hb⟩; replace H := H.call hb; clear hb)); refine H.nx ?_; (try simp only [Act.put, q1_, q2_, q3_]); (try simp only [q4_, q5_, q6_]); refine H.zr 4 ?_; (try simp only [Act.put, q1_, q2_, q3_]); (try simp only [q4_, q5_, q6_]); refine H.zr 5 ?_; (try simp only [Act.put, q1_, q2_, q3_]); (try simp only [q4_, q5_, q6_]); refine wpAnyH_done (by kernel_rfl) ?_ _)
    | ((with_reducible show Code.wp _ (.region 6 _ true) _ _ _); refine H.heldSub rfl (List.Sublist.refl _) ?_; intro H; refine H.zr 0 ?_; (try simp only [Act.put, q1_, q2_, q3_]); (try simp only [q4_, q5_, q6_]); (first | refine H.zl 1 ?_ | refine H.zm 1 ?_); (try simp only [Act.put, q1_, q2_, q3_]); (try simp only [q4_, q5_, q6_]); refine H.zr 3 ?_; (try simp only [Act.put, q1_, q2_, q3_]); (try simp only [q4_, q5_, q6_]); (first | refine H.zl 4 ?_ | refine H.zm 4 ?_); (try simp only [Act.put, q1_, q2_, q3_]); (try simp only [q4_, q5_, q6_]); refine held1 2 ?_; unfold Oper.wp; go_simp; (first | (go_at_call 50; (with_reducible first | refine (cSa _).mono ?_ | refine (cSb _).mono ?_); rintro e w ⟨rfl, hb⟩; replace H := H.call hb; clear hb)); refine H.nx ?_; (try simp only [Act.put, q1_, q2_, q3_]); (try simp only [q4_, q5_, q6_]); refine held1 5 ?_; unfold Oper.wp; go_simp; (first | (go_at_call 50; (with_reducible first | refine (cSa _).mono ?_ | refine (cSb _).mono ?_); rintro e w ⟨rfl, hb⟩; replace H := H.call hb; clear hb)); refine H.nx ?_; (try simp only [Act.put, q1_, q2_, q3_]); (try simp only [q4_, q5_, q6_]); refine H.zr 6 ?_; (try simp only [Act.put, q1_, q2_, q3_]); (try simp only [q4_, q5_, q6_]); refine H.zr 7 ?_; (try simp only [Act.put, q1_, q2_, q3_]); (try simp only [q4_, q5_, q6_]); refine wpAnyH_done (by kernel_rfl) ?_ _)
    | ((first | go_at_call 25 | go_at_call 26 | go_at_call 27 | go_at_call 51 | go_at_call 53 | go_at_call 61 | go_at_call 64 | go_at_call 74 | go_at_call 76 | go_at_call 78 | go_at_call 79 | go_at_call 80 | go_at_call 81 | go_at_call 82 | go_at_call 85 | go_at_call 87 | go_at_call 88 | go_at_call 89 | go_at_call 90 | go_at_call 91 | go_at_call 92 | go_at_call 93 | go_at_call 94 | go_at_call 95); (with_reducible first | refine (cA _ (HT.out.below H.below)).mono ?_ | refine (cR _).mono ?_ | refine (mulProducts_alive_any _ (HT.out.below H.below)).mono ?_ | refine (cNa _).mono ?_ | refine (cNb _).mono ?_ | refine (cIa _).mono ?_ | refine (cIb _).mono ?_ | refine (cK _ (HT.out.below H.below)).mono ?_ | refine (cNN _).mono ?_ | refine (cII _).mono ?_ | refine (cN _).mono ?_ | refine (cI _).mono ?_ | refine (cZa _).mono ?_ | refine (cZb _).mono ?_ | refine (cZ _).mono ?_ | refine (cVa _).mono ?_ | refine (cVb _).mono ?_ | refine (cO _ _ (HT.out.below H.below) (H.blk (_, 27, _) v3_)).mono ?_ | refine (cn1 _).mono ?_ | refine (cn2 _).mono ?_ | refine (cC _ _ (H.blk (_, 103, _) v3_)).mono ?_ | refine (ci1 _).mono ?_ | refine (ci2 _).mono ?_ | refine (cz1 _).mono ?_ | refine (cz2 _).mono ?_ | refine (cZZ _).mono ?_ | refine (cM _).mono ?_ | refine (cT _ _ (H.blk (_, 27, _) v3_)).mono ?_ | refine (cC _ _ (H.blk (_, 27, _) v3_)).mono ?_ | refine (cQ _).mono ?_); rintro e w ⟨rfl, hb⟩; replace H := H.call hb; clear hb)
    | (go_at_call 72; ((with_reducible refine (cF _).mono ?_); rintro e w' ⟨rfl, rfl⟩))
    | (go_at_call 73; ((with_reducible refine (cM _).mono ?_); rintro e w' ⟨rfl, rfl⟩))
    )
  all_goals (first | (refine bodyPost_ret (results_ctt rfl rfl (H.res rB v3_ v7_ (by rfl))) rfl ⟨?_, H.below⟩; exact rfl) | (refine bodyPost_ret (results_ct rfl rfl (H.res rQ v3_ (ext_tri _ _ _ _ _ _ _ _ _ _ _ _) (by rfl))) rfl ⟨?_, H.below⟩; exact rfl) | (refine bodyPost_ret (results_ctt rfl rfl (H.res rB v3_ v7_ (by rfl))) rfl ⟨?_, H.below⟩; exact by rw [show BV 0 = .agg #[.int .u64 (limb 0 1), .int .u64 (limb 0 0)] from rfl, limb_zero, limb_zero]; rfl) | (go_ret; exact ⟨rfl, H.below⟩) | (go_ret; exact ⟨by simp, H.below⟩))) : P := h
end Go.Proofs.YtecdpjhifmlahaaGreatDoor
