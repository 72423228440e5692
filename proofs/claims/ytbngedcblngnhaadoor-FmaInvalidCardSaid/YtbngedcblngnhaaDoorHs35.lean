/- Part 0 of what is proved: Wlk_. -/
import Init
import Derived.WalkKit
import Derived.WalkSpells
import Derived.Handy
import Derived.Lib.Hide
import Derived.Below
import Derived.OrdersHeld
import Derived.Deep.MidRow
import Derived.BigQuiet
import Derived.Deep.QuietTactic
import Derived.Deep.RegionHeld3
import Derived.RegionTactic
import Derived.Deep.RegionWith
import Derived.Outline
import Derived.Lib.ItoaNum
import Derived.Test.YtbngedcblngnhaaDoorRows
import Derived.WalkLawsBesides
import Derived.Laws.BitsAllLaws
import Derived.Shelf.Spec.TrailingZeros
import Derived.Test.YtbngedcblngnhaaDoorProg
import Derived.Shelf.Strconv.Itoa0
import Derived.Shelf.Bits.Mul64
import Derived.ChangeKeysEq
import Derived.Deep.Cut
import Derived.StillTailTactics
namespace Go.Proofs.YtbngedcblngnhaaDoor
open Go.RowKit
set_option maxRecDepth 100000 in
theorem ywalk1 {P : Prop} (h : P := by
  go_wp2_with (first
    | ((with_reducible show wpList _ _ _ (⟨_, .box _ _, _, _, _, _⟩ :: _) _ _); refine H.xb ?_; (intro g w H; simp only [Act.put, List.setIfInBounds_toArray, List.set_cons_zero, List.set_cons_succ]))
    | ((with_reducible show wpList _ _ _ (⟨_, .alloc _, _, _, _, _⟩ :: _) _ _); refine H.xa ?_; (intro g w H; simp only [Act.put, List.setIfInBounds_toArray, List.set_cons_zero, List.set_cons_succ]))
    | ((with_reducible show wpList _ _ _ (⟨_, .load _ _, _, _, _, _⟩ :: _) _ _); (first | refine H.xl ?_ | refine H.xm ?_); simp only [Act.put, List.setIfInBounds_toArray, List.set_cons_zero, List.set_cons_succ])
    | ((with_reducible show wpList _ _ _ (⟨_, .store _ _ _, _, _, _, _⟩ :: _) _ _); (first | refine H.xs ?_ | refine H.xt ?_); (intro w H; simp only [Act.put]))
    | ((with_reducible show Code.wp _ (.region 7 _ true) _ _ _); refine H.heldSub rfl (List.Sublist.refl _) ?_; intro H; (first | refine H.zl 0 ?_ | refine H.zm 0 ?_); (try simp only [Act.put, List.setIfInBounds_toArray, List.set_cons_zero, List.set_cons_succ]); (try simp only [List.getElem_toArray, List.getElem_cons_zero, List.getElem_cons_succ]); refine H.zr 1 ?_; (try simp only [Act.put, List.setIfInBounds_toArray, List.set_cons_zero, List.set_cons_succ]); (try simp only [List.getElem_toArray, List.getElem_cons_zero, List.getElem_cons_succ]); refine held1 2 ?_; unfold Oper.wp; go_simp; (first | (go_at_call 19; ((with_reducible refine (cN _).mono ?_); rintro e w ⟨rfl, hb⟩; replace H := H.call hb; clear hb)) | (go_at_call 20; ((with_reducible refine (cX _ (HT.out.below H.below)).mono ?_); rintro e w ⟨rfl, hb⟩; replace H := H.call hb; clear hb)) | (go_at_call 18; ((with_reducible refine (fmaAlive_any _ (HT.out.below H.below)).mono ?_); rintro e w ⟨rfl, hb⟩; replace H := H.call hb; clear hb))); refine H.nx ?_; (try simp only [Act.put, List.setIfInBounds_toArray, List.set_cons_zero, List.set_cons_succ]); (try simp only [List.getElem_toArray, List.getElem_cons_zero, List.getElem_cons_succ]); refine H.zr 3 ?_; (try simp only [Act.put, List.setIfInBounds_toArray, List.set_cons_zero, List.set_cons_succ]); (try simp only [List.getElem_toArray, List.getElem_cons_zero, List.getElem_cons_succ]); refine H.zr 4 ?_; (try simp only [Act.put, List.setIfInBounds_toArray, List.set_cons_zero, List.set_cons_succ]); (try simp only [List.getElem_toArray, List.getElem_cons_zero, List.getElem_cons_succ]); (first | refine H.zr 5 ?_ | refine H.zo 5 ?_); (try simp only [Act.put, List.setIfInBounds_toArray, List.set_cons_zero, List.set_cons_succ]); (try simp only [List.getElem_toArray, List.getElem_cons_zero, List.getElem_cons_succ]); (first | refine H.zr 6 ?_ | refine H.zo 6 ?_); (try simp only [Act.put, List.setIfInBounds_toArray, List.set_cons_zero, List.set_cons_succ]); (try simp only [List.getElem_toArray, List.getElem_cons_zero, List.getElem_cons_succ]); refine H.zr 7 ?_; (try simp only [Act.put, List.setIfInBounds_toArray, List.set_cons_zero, List.set_cons_succ]); (try simp only [List.getElem_toArray, List.getElem_cons_zero, List.getElem_cons_succ]); refine H.zr 8 ?_; (try simp only [Act.put, List.setIfInBounds_toArray, List.set_cons_zero, List.set_cons_succ]); (try simp only [List.getElem_toArray, List.getElem_cons_zero, List.getElem_cons_succ]); (first | refine H.zr 9 ?_ | refine H.zo 9 ?_); (try simp only [Act.put, List.setIfInBounds_toArray, List.set_cons_zero, List.set_cons_succ]); (try simp only [List.getElem_toArray, List.getElem_cons_zero, List.getElem_cons_succ]); (first | refine H.zl 10 ?_ | refine H.zm 10 ?_ | refine H.zo 10 ?_); (try simp only [Act.put, List.setIfInBounds_toArray, List.set_cons_zero, List.set_cons_succ]); (try simp only [List.getElem_toArray, List.getElem_cons_zero, List.getElem_cons_succ]); refine held1 11 ?_; unfold Oper.wp; go_simp; (first | (go_at_call 19; ((with_reducible refine (cN _).mono ?_); rintro e w ⟨rfl, hb⟩; replace H := H.call hb; clear hb)) | (go_at_call 20; ((with_reducible refine (cX _ (HT.out.below H.below)).mono ?_); rintro e w ⟨rfl, hb⟩; replace H := H.call hb; clear hb)) | (go_at_call 18; ((with_reducible refine (fmaAlive_any _ (HT.out.below H.below)).mono ?_); rintro e w ⟨rfl, hb⟩; replace H := H.call hb; clear hb))); refine H.nx ?_; (try simp only [Act.put, List.setIfInBounds_toArray, List.set_cons_zero, List.set_cons_succ]); (try simp only [List.getElem_toArray, List.getElem_cons_zero, List.getElem_cons_succ]); (first | refine H.zr 12 ?_ | refine H.zo 12 ?_); (try simp only [Act.put, List.setIfInBounds_toArray, List.set_cons_zero, List.set_cons_succ]); (try simp only [List.getElem_toArray, List.getElem_cons_zero, List.getElem_cons_succ]); refine H.zr 13 ?_; (try simp only [Act.put, List.setIfInBounds_toArray, List.set_cons_zero, List.set_cons_succ]); (try simp only [List.getElem_toArray, List.getElem_cons_zero, List.getElem_cons_succ]); refine H.zr 14 ?_; (try simp only [Act.put, List.setIfInBounds_toArray, List.set_cons_zero, List.set_cons_succ]); (try simp only [List.getElem_toArray, List.getElem_cons_zero, List.getElem_cons_succ]); refine held1 15 ?_; unfold Oper.wp; go_simp; (first | (go_at_call 19; ((with_reducible refine (cN _).mono ?_); rintro e w ⟨rfl, hb⟩; replace H := H.call hb; clear hb)) | (go_at_call 20; ((with_reducible refine (cX _ (HT.out.below H.below)).mono ?_); rintro e w ⟨rfl, hb⟩; replace H := H.call hb; clear hb)) | (go_at_call 18; ((with_reducible refine (fmaAlive_any _ (HT.out.below H.below)).mono ?_); rintro e w ⟨rfl, hb⟩; replace H := H.call hb; clear hb))); refine H.nx ?_; (try simp only [Act.put, List.setIfInBounds_toArray, List.set_cons_zero, List.set_cons_succ]); (try simp only [List.getElem_toArray, List.getElem_cons_zero, List.getElem_cons_succ]); refine H.zr 16 ?_; (try simp only [Act.put, List.setIfInBounds_toArray, List.set_cons_zero, List.set_cons_succ]); (try simp only [List.getElem_toArray, List.getElem_cons_zero, List.getElem_cons_succ]); refine H.zr 17 ?_; (try simp only [Act.put, List.setIfInBounds_toArray, List.set_cons_zero, List.set_cons_succ]); (try simp only [List.getElem_toArray, List.getElem_cons_zero, List.getElem_cons_succ]); refine wpAnyH_done (by kernel_rfl) ?_ _)
    | (go_at_call 13; ((with_reducible refine (cI _).mono ?_); rintro e w ⟨rfl, hb⟩; replace H := H.call hb; clear hb))
    | (go_at_call 14; ((with_reducible refine (cZ _).mono ?_); rintro e w ⟨rfl, hb⟩; replace H := H.call hb; clear hb))
    | (go_at_call 15; ((with_reducible refine (cA _ (HT.out.below H.below)).mono ?_); rintro e w ⟨rfl, hb⟩; replace H := H.call hb; clear hb))
    | (go_at_call 19; ((with_reducible refine (cN _).mono ?_); rintro e w ⟨rfl, hb⟩; replace H := H.call hb; clear hb))
    | (go_at_call 20; ((with_reducible refine (cX _ (HT.out.below H.below)).mono ?_); rintro e w ⟨rfl, hb⟩; replace H := H.call hb; clear hb))
    | (go_at_call 18; ((with_reducible refine (fmaAlive_any _ (HT.out.below H.below)).mono ?_); rintro e w ⟨rfl, hb⟩; replace H := H.call hb; clear hb))
    )
  all_goals (go_ret; exact ⟨rfl, H.below⟩)) : P := h
set_option maxRecDepth 100000 in
theorem ywalk2 {P : Prop} (h : P := by
  go_wp2_with (first
    | ((with_reducible show wpList _ _ _ (⟨_, .box _ _, _, _, _, _⟩ :: _) _ _); refine H.xb ?_; (intro g w H; simp only [Act.put, List.setIfInBounds_toArray, List.set_cons_zero, List.set_cons_succ]))
    | ((with_reducible show wpList _ _ _ (⟨_, .alloc _, _, _, _, _⟩ :: _) _ _); refine H.xa ?_; (intro g w H; simp only [Act.put, List.setIfInBounds_toArray, List.set_cons_zero, List.set_cons_succ]))
    | ((with_reducible show wpList _ _ _ (⟨_, .load _ _, _, _, _, _⟩ :: _) _ _); (first | refine H.xl ?_ | refine H.xm ?_); simp only [Act.put, List.setIfInBounds_toArray, List.set_cons_zero, List.set_cons_succ])
    | ((with_reducible show wpList _ _ _ (⟨_, .store _ _ _, _, _, _, _⟩ :: _) _ _); (first | refine H.xs ?_ | refine H.xt ?_); (intro w H; simp only [Act.put]))
    | ((with_reducible show Code.wp _ (.region 4 _ true) _ _ _); refine H.heldSub rfl (List.Sublist.refl _) ?_; intro H; (first | refine H.zl 0 ?_ | refine H.zm 0 ?_); (try simp only [Act.put, List.setIfInBounds_toArray, List.set_cons_zero, List.set_cons_succ]); (try simp only [List.getElem_toArray, List.getElem_cons_zero, List.getElem_cons_succ]); refine H.zr 1 ?_; (try simp only [Act.put, List.setIfInBounds_toArray, List.set_cons_zero, List.set_cons_succ]); (try simp only [List.getElem_toArray, List.getElem_cons_zero, List.getElem_cons_succ]); refine held1 2 ?_; unfold Oper.wp; go_simp; (first | (go_at_call 62; ((with_reducible refine (cF _).mono ?_); rintro e w ⟨rfl, hb⟩; replace H := H.call hb; clear hb)) | (go_at_call 63; ((with_reducible refine (cO _).mono ?_); rintro e w ⟨rfl, hb⟩; replace H := H.call hb; clear hb)) | (go_at_call 65; ((with_reducible refine (cP _).mono ?_); rintro e w ⟨rfl, hb⟩; replace H := H.call hb; clear hb)) | (go_at_call 64; ((with_reducible refine (cB _).mono ?_); rintro e w ⟨rfl, hb⟩; replace H := H.call hb; clear hb))); refine H.nx ?_; (try simp only [Act.put, List.setIfInBounds_toArray, List.set_cons_zero, List.set_cons_succ]); (try simp only [List.getElem_toArray, List.getElem_cons_zero, List.getElem_cons_succ]); refine H.zr 3 ?_; (try simp only [Act.put, List.setIfInBounds_toArray, List.set_cons_zero, List.set_cons_succ]); (try simp only [List.getElem_toArray, List.getElem_cons_zero, List.getElem_cons_succ]); refine held1 4 ?_; unfold Oper.wp; go_simp; (first | (go_at_call 62; ((with_reducible refine (cF _).mono ?_); rintro e w ⟨rfl, hb⟩; replace H := H.call hb; clear hb)) | (go_at_call 63; ((with_reducible refine (cO _).mono ?_); rintro e w ⟨rfl, hb⟩; replace H := H.call hb; clear hb)) | (go_at_call 65; ((with_reducible refine (cP _).mono ?_); rintro e w ⟨rfl, hb⟩; replace H := H.call hb; clear hb)) | (go_at_call 64; ((with_reducible refine (cB _).mono ?_); rintro e w ⟨rfl, hb⟩; replace H := H.call hb; clear hb))); refine H.nx ?_; (try simp only [Act.put, List.setIfInBounds_toArray, List.set_cons_zero, List.set_cons_succ]); (try simp only [List.getElem_toArray, List.getElem_cons_zero, List.getElem_cons_succ]); refine wpAnyH_done (by kernel_rfl) ?_ _)
    | (go_at_call 62; ((with_reducible refine (cF _).mono ?_); rintro e w ⟨rfl, hb⟩; replace H := H.call hb; clear hb))
    | (go_at_call 63; ((with_reducible refine (cO _).mono ?_); rintro e w ⟨rfl, hb⟩; replace H := H.call hb; clear hb))
    | (go_at_call 65; ((with_reducible refine (cP _).mono ?_); rintro e w ⟨rfl, hb⟩; replace H := H.call hb; clear hb))
    | (go_at_call 64; ((with_reducible refine (cB _).mono ?_); rintro e w ⟨rfl, hb⟩; replace H := H.call hb; clear hb))
    )
  all_goals (go_ret; exact ⟨rfl, H.below⟩)) : P := h
set_option maxRecDepth 100000 in
theorem ywalk3 {P : Prop} (h : P := by
  go_wp2_with (first
    | ((with_reducible show wpList _ _ _ (⟨_, .load 24 _, _, _, _, _⟩ :: _) _ _); refine H.xm ?_ (hv := by first | with_reducible exact G); simp only [Act.put, List.setIfInBounds_toArray, List.set_cons_zero, List.set_cons_succ])
    | ((with_reducible show wpList _ _ _ (⟨_, .store 24 _ _, _, _, _, _⟩ :: _) _ _); refine H.xt ?_ (hv := set_w0 _); (intro w H; simp only [Act.put]))
    | ((with_reducible show wpList _ _ _ (⟨_, .store 24 _ _, _, _, _, _⟩ :: _) _ _); refine H.xt ?_ (hv := set_w1 _); (intro w H; simp only [Act.put]))
    | ((with_reducible show wpList _ _ _ (⟨_, .box _ _, _, _, _, _⟩ :: _) _ _); refine H.xb ?_; (intro g w H; simp only [Act.put, List.setIfInBounds_toArray, List.set_cons_zero, List.set_cons_succ]))
    | ((with_reducible show wpList _ _ _ (⟨_, .alloc _, _, _, _, _⟩ :: _) _ _); refine H.xa ?_; (intro g w H; simp only [Act.put, List.setIfInBounds_toArray, List.set_cons_zero, List.set_cons_succ]))
    | ((with_reducible show wpList _ _ _ (⟨_, .load _ _, _, _, _, _⟩ :: _) _ _); (first | refine H.xl ?_ | refine H.xm ?_); simp only [Act.put, List.setIfInBounds_toArray, List.set_cons_zero, List.set_cons_succ])
    | ((with_reducible show wpList _ _ _ (⟨_, .store _ _ _, _, _, _, _⟩ :: _) _ _); (first | refine H.xs ?_ | refine H.xt ?_); (intro w H; simp only [Act.put]))
    | (go_at_call 88; ((with_reducible refine (cB _).mono ?_); rintro e w ⟨rfl, hb⟩; replace H := H.call hb; clear hb))
    | (go_at_call 87; ((with_reducible refine (r7Emax_any f _).mono ?_); rintro e w ⟨rfl, hb⟩; replace H := H.call hb; clear hb))
    | (go_at_call 62; ((with_reducible refine (cF _).mono ?_); rintro e w ⟨rfl, hb⟩; replace H := H.call hb; clear hb))
    | (go_at_call 63; ((with_reducible refine (cO _).mono ?_); rintro e w ⟨rfl, hb⟩; replace H := H.call hb; clear hb))
    | (go_at_call 65; ((with_reducible refine (cP _).mono ?_); rintro e w ⟨rfl, hb⟩; replace H := H.call hb; clear hb))
    | (go_at_call 64; ((with_reducible refine (cB _).mono ?_); rintro e w ⟨rfl, hb⟩; replace H := H.call hb; clear hb))
    | (go_at_call 27; ((with_reducible refine (cC _).mono ?_); rintro e w ⟨rfl, hb⟩; replace H := H.call hb; clear hb))
    | (go_at_call 13; ((with_reducible refine (cI _).mono ?_); rintro e w ⟨rfl, hb⟩; replace H := H.call hb; clear hb))
    | (go_at_call 14; ((with_reducible refine (cZ _).mono ?_); rintro e w ⟨rfl, hb⟩; replace H := H.call hb; clear hb))
    | (go_at_call 15; ((with_reducible refine (cA _ (HT.out.below H.below)).mono ?_); rintro e w ⟨rfl, hb⟩; replace H := H.call hb; clear hb))
    | (go_at_call 16; ((with_reducible refine (cF _).mono ?_); rintro e w' ⟨rfl, rfl⟩))
    | (go_at_call 9; ((with_reducible refine (cM _).mono ?_); rintro e w' ⟨rfl, rfl⟩))
    | (go_at_call 17; ((with_reducible refine (cT _).mono ?_); rintro e w ⟨rfl, hb⟩; replace H := H.call hb; clear hb))
    | (go_at_call 18; ((with_reducible refine (fmaAlive_any _ (HT.out.below H.below)).mono ?_); rintro e w ⟨rfl, hb⟩; replace H := H.call hb; clear hb))
    )
  all_goals (first | (go_ret; exact ⟨ret_bool HR.out, H.below⟩) | (go_ret; exact ⟨rfl, H.below⟩) | (refine bodyPost_ret (results_c rfl rfl (H.res rW (by repeat (first | with_reducible exact List.mem_cons_self | apply List.mem_cons_of_mem)) (by first | with_reducible exact ext_limbs _ | with_reducible exact ext_parts_s _ _ _ _ | with_reducible exact ext_rough_s _ _ _ _ | with_reducible exact ext_parts_f _ _ _ _) (by rfl))) rfl ⟨?_, H.below⟩; exact (congrArg Ending.returned HR.out)) | (go_ret; exact ⟨ret_int HR.out, H.below⟩) | (go_ret; exact ⟨ret_bool (HR.out _ (int_eq_dec c 7)), H.below⟩))) : P := h
end Go.Proofs.YtbngedcblngnhaaDoor
