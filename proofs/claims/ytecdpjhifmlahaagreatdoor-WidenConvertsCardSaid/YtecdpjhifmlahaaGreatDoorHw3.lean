/- Part 3 of what is proved: Wlk3_. -/
import Derived.BigQuiet
import Derived.Deep.QuietTactic
import Derived.RegionTactic
import Derived.Deep.RegionWith
import Derived.Outline
import Derived.Lib.ItoaNum
import Derived.WalkKit
import Derived.WalkSpells
import Derived.Handy
import Derived.Lib.Hide
import Derived.Below
import Derived.OrdersHeld
import Derived.Deep.MidRow
import Init
import Derived.Test.YtecdpjhifmlahaaGreatDoorRows
import Derived.WalkLawsBesides
import Derived.Laws.BitsAllLaws
import Derived.Shelf.Spec.TrailingZeros
import Derived.Test.YtecdpjhifmlahaaGreatDoorProg
import Derived.Shelf.Strconv.Itoa0
import Derived.Shelf.Bits.Mul64
import Derived.ChangeKeysEq
import Derived.Deep.RegionHeld3
import Derived.Deep.Cut
import Derived.StillTailTactics
import Derived.Deep.Draws
import Derived.Deep.AppendLies
import Derived.Maps.AppendAt
import Derived.OwnWalk
import Derived.Laws.BytesArg
import Derived.Laws.MakeOwn
import Derived.Laws.OwnMore
import Derived.Deep.OwnRows
import Derived.Tactics
import Derived.Lib.ConvBytes
import Derived.Laws.Slices
import Derived.KernelRfl
import Derived.RowKit3
import Derived.Deep.LoopGhost
import Derived.WideLaws
import Derived.Deep.DeepCutAuto
import Derived.Deep.CutBlock
import Derived.Laws.Rows
import Derived.Lib.AppendStr
import Derived.ArgAppend
import Derived.Laws.IdiomCopy
import Derived.Laws.BitsLemmas
import Derived.RowKit
import Derived.Laws.StructEq
namespace Go.Proofs.YtecdpjhifmlahaaGreatDoor
open Go.RowKit
set_option maxRecDepth 100000 in
theorem walk6 {P : Prop} (h : P := by
  go_wp2_with (first
    | ((with_reducible show wpList _ _ _ (⟨_, .box _ _, _, _, _, _⟩ :: _) _ _); refine H.xb ?_; (intro g w H; simp only [Act.put, q1_, q2_, q3_]))
    | ((with_reducible show wpList _ _ _ (⟨_, .alloc _, _, _, _, _⟩ :: _) _ _); refine H.xa ?_; (intro g w H; simp only [Act.put, q1_, q2_, q3_]))
    | ((with_reducible show wpList _ _ _ (⟨_, .load _ _, _, _, _, _⟩ :: _) _ _); (first | refine H.xl ?_ | refine H.xm ?_); simp only [Act.put, q1_, q2_, q3_])
    | ((with_reducible show wpList _ _ _ (⟨_, .store _ _ _, _, _, _, _⟩ :: _) _ _); (first | refine H.xs ?_ | refine H.xt ?_); (intro w H; simp only [Act.put]))
    | ((with_reducible show wpList _ _ _ (⟨_, .build 86 _, _, _, _, _⟩ :: _) _ _); refine wp_bld3 rfl rfl rfl rfl rfl (rough_nse _ _ _ ) ?_; simp only [Act.put, q1_, q2_, q3_])
    | ((with_reducible show Code.wp _ (.region 8 _ true) _ _ _); refine H.heldSub rfl (List.Sublist.cons_cons _ (List.Sublist.cons _ (List.Sublist.refl _))) ?_; intro H; refine H.zr 0 ?_; (try simp only [Act.put, q1_, q2_, q3_]); (try simp only [q4_, q5_, q6_]); refine H.zr 2 ?_; (try simp only [Act.put, q1_, q2_, q3_]); (try simp only [q4_, q5_, q6_]); (first | refine H.zl 3 ?_ | refine H.zm 3 ?_); (try simp only [Act.put, q1_, q2_, q3_]); (try simp only [q4_, q5_, q6_]); refine H.zr 4 ?_; (try simp only [Act.put, q1_, q2_, q3_]); (try simp only [q4_, q5_, q6_]); refine held1 1 ?_; unfold Oper.wp; go_simp; (first | (go_at_call 74; ((with_reducible refine (cN _).mono ?_); rintro e w ⟨rfl, hb⟩; replace H := H.call hb; clear hb)) | (go_at_call 75; ((with_reducible refine (cE _).mono ?_); rintro e w' ⟨rfl, rfl⟩))); refine H.nx ?_; (try simp only [Act.put, q1_, q2_, q3_]); (try simp only [q4_, q5_, q6_]); refine held1 5 ?_; unfold Oper.wp; go_simp; (first | (go_at_call 74; ((with_reducible refine (cN _).mono ?_); rintro e w ⟨rfl, hb⟩; replace H := H.call hb; clear hb)) | (go_at_call 75; ((with_reducible refine (cE _).mono ?_); rintro e w' ⟨rfl, rfl⟩))); refine H.nx ?_; (try simp only [Act.put, q1_, q2_, q3_]); (try simp only [q4_, q5_, q6_]); refine held1 6 ?_; (first | refine H.ys ?_ | refine H.yt ?_); intro w H; refine H.nx ?_; (try simp only [Act.put]); refine H.zr 7 ?_; (try simp only [Act.put, q1_, q2_, q3_]); (try simp only [q4_, q5_, q6_]); refine H.zr 8 ?_; (try simp only [Act.put, q1_, q2_, q3_]); (try simp only [q4_, q5_, q6_]); refine wpAnyH_done (by kernel_rfl) ?_ _)
    | ((first | go_at_call 20 | go_at_call 44 | go_at_call 48 | go_at_call 49 | go_at_call 50 | go_at_call 51 | go_at_call 53 | go_at_call 61 | go_at_call 62 | go_at_call 64 | go_at_call 71 | go_at_call 74 | go_at_call 76 | go_at_call 77 | go_at_call 78 | go_at_call 79 | go_at_call 80 | go_at_call 81 | go_at_call 82 | go_at_call 84); (with_reducible first | refine (cC _ (HT.out.below H.below)).mono ?_ | refine (cL _ (HT.out.below H.below)).mono ?_ | refine (cT _).mono ?_ | refine (cM _).mono ?_ | refine (cSa _).mono ?_ | refine (cNa _).mono ?_ | refine (cIa _).mono ?_ | refine (cK _ (HT.out.below H.below)).mono ?_ | refine (cG _).mono ?_ | refine (cR _).mono ?_ | refine (cU _ (HT.out.below H.below)).mono ?_ | refine (cN _).mono ?_ | refine (cI _).mono ?_ | refine (cSg _).mono ?_ | refine (cZa _).mono ?_ | refine (cZ _).mono ?_ | refine (cVa _).mono ?_ | refine (cO _).mono ?_); rintro e w ⟨rfl, hb⟩; replace H := H.call hb; clear hb)
    | (go_at_call 72; ((with_reducible refine (cF _).mono ?_); rintro e w' ⟨rfl, rfl⟩))
    | (go_at_call 73; ((with_reducible refine (cM _).mono ?_); rintro e w' ⟨rfl, rfl⟩))
    | (go_at_call 75; ((with_reducible refine (cE _).mono ?_); rintro e w' ⟨rfl, rfl⟩))
    | (go_at_call 83; ((with_reducible refine (cE _).mono ?_); rintro e w' ⟨rfl, rfl⟩))
    )
  all_goals (first | (refine bodyPost_ret (results_ctt rfl rfl (H.res rB v3_ v7_ (by rfl))) rfl ⟨?_, H.below⟩; exact by rw [show BV 0 = .agg #[.int .u64 (limb 0 1), .int .u64 (limb 0 0)] from rfl, limb_zero, limb_zero]; rfl) | (refine bodyPost_ret (results_ctt rfl rfl (H.res rB v3_ v7_ (by rfl))) rfl ⟨?_, H.below⟩; exact rfl) | (go_ret2; exact ⟨rfl, H.below⟩))) : P := h
end Go.Proofs.YtecdpjhifmlahaaGreatDoor
