/- FromintBack: for every input the law returns true, and each argument reads behind the call as it read before; the listed table is tied to the program's text. -/
import Derived.Test.YtdcgcjmajacgiaaDoorRows
import Derived.Test.YtdcgcjmajacgiaaDoorTie
import Derived.Test.YtdcgcjmajacgiaaDoorCards
import Derived.WalkKit
import Derived.ProofKit
import Derived.LaidMore
import Derived.OpenShut
import Derived.Stop.Joined
import Derived.SevenTiedAt
import Derived.Lib.SmallJoins
import Derived.ChangeOld
import Derived.Below
import Derived.Carry
import Derived.Test.YtdcgcjmajacgiaaDoorFb0
import Derived.Test.YtdcgcjmajacgiaaDoorFb1
import Derived.Test.YtdcgcjmajacgiaaDoorFb2
import Derived.Test.YtdcgcjmajacgiaaDoorFb3
import Derived.Test.YtdcgcjmajacgiaaDoorFb5
import Derived.Test.YtdcgcjmajacgiaaDoorFb8
set_option linter.unusedSimpArgs false
set_option linter.unusedVariables false
set_option linter.unnecessarySimpa false
namespace Go.Proofs.YtdcgcjmajacgiaaDoor
open Go.RowKit
theorem results_ttt {fn : Func} {t u v : Tmp} {tmps : Array Value} {P : Program} {w : World} (h : fn.results = #[.tmp t, .tmp u, .tmp v]) :
    (results fn tmps).run P w = .ok (.tuple #[tmps.getD t undef, tmps.getD u undef, tmps.getD v undef]) w := by simp [results, h]
set_option maxRecDepth 100000 in
theorem walk11 {P : Prop} (h : P := by
  go_wp2_with (first
    | ((with_reducible show wpList _ _ _ (⟨_, .box _ _, _, _, _, _⟩ :: _) _ _); refine H.box rfl rfl (cells_agg _) ?_; (intro g w H; simp only [Act.put, List.setIfInBounds_toArray, List.set_cons_zero, List.set_cons_succ]))
    | ((with_reducible show wpList _ _ _ (⟨_, .alloc 54, _, _, _, _⟩ :: _) _ _); refine H.new rfl (T := 54) rfl tW_z (cells_agg _) ?_; (intro g w H; simp only [Act.put, List.setIfInBounds_toArray, List.set_cons_zero, List.set_cons_succ]))
    | ((with_reducible show wpList _ _ _ (⟨_, .alloc 27, _, _, _, _⟩ :: _) _ _); refine H.new rfl (T := 27) rfl tB_z (cells_agg _) ?_; (intro g w H; simp only [Act.put, List.setIfInBounds_toArray, List.set_cons_zero, List.set_cons_succ]))
    | ((with_reducible show wpList _ _ _ (⟨_, .alloc 25, _, _, _, _⟩ :: _) _ _); refine H.new rfl (T := 25) rfl tu_z (cells_int _ _) ?_; (intro g w H; simp only [Act.put, List.setIfInBounds_toArray, List.set_cons_zero, List.set_cons_succ]))
    | ((with_reducible show wpList _ _ _ (⟨_, .load 54 _, _, _, _, _⟩ :: _) _ _); (first | refine H.load rfl (ty := 54) rfl rfl 0 rfl Tryd.underlying54 rfl (by with_reducible exact ext_limbs _) (by exact tW_s) ?_ | refine H.load rfl (ty := 54) rfl rfl 0 rfl Tryd.underlying54 rfl (by with_reducible exact ext_parts_s _ _ _ _) (by exact tW_s) ?_ | refine H.load rfl (ty := 54) rfl rfl 0 rfl Tryd.underlying54 rfl (by with_reducible exact ext_rough_s _ _ _ _) (by exact tW_s) ?_ | refine H.load rfl (ty := 54) rfl rfl 0 rfl Tryd.underlying54 rfl (by with_reducible exact ext_parts_f _ _ _ _) (by exact tW_s) ?_ | refine H.load rfl (ty := 54) rfl rfl 1 rfl Tryd.underlying54 rfl (by with_reducible exact ext_limbs _) (by exact tW_s) ?_ | refine H.load rfl (ty := 54) rfl rfl 1 rfl Tryd.underlying54 rfl (by with_reducible exact ext_parts_s _ _ _ _) (by exact tW_s) ?_ | refine H.load rfl (ty := 54) rfl rfl 1 rfl Tryd.underlying54 rfl (by with_reducible exact ext_rough_s _ _ _ _) (by exact tW_s) ?_ | refine H.load rfl (ty := 54) rfl rfl 1 rfl Tryd.underlying54 rfl (by with_reducible exact ext_parts_f _ _ _ _) (by exact tW_s) ?_ | refine H.load rfl (ty := 54) rfl rfl 2 rfl Tryd.underlying54 rfl (by with_reducible exact ext_limbs _) (by exact tW_s) ?_ | refine H.load rfl (ty := 54) rfl rfl 2 rfl Tryd.underlying54 rfl (by with_reducible exact ext_parts_s _ _ _ _) (by exact tW_s) ?_ | refine H.load rfl (ty := 54) rfl rfl 2 rfl Tryd.underlying54 rfl (by with_reducible exact ext_rough_s _ _ _ _) (by exact tW_s) ?_ | refine H.load rfl (ty := 54) rfl rfl 2 rfl Tryd.underlying54 rfl (by with_reducible exact ext_parts_f _ _ _ _) (by exact tW_s) ?_ | refine H.load rfl (ty := 54) rfl rfl 3 rfl Tryd.underlying54 rfl (by with_reducible exact ext_limbs _) (by exact tW_s) ?_ | refine H.load rfl (ty := 54) rfl rfl 3 rfl Tryd.underlying54 rfl (by with_reducible exact ext_parts_s _ _ _ _) (by exact tW_s) ?_ | refine H.load rfl (ty := 54) rfl rfl 3 rfl Tryd.underlying54 rfl (by with_reducible exact ext_rough_s _ _ _ _) (by exact tW_s) ?_ | refine H.load rfl (ty := 54) rfl rfl 3 rfl Tryd.underlying54 rfl (by with_reducible exact ext_parts_f _ _ _ _) (by exact tW_s) ?_); simp only [Act.put, List.setIfInBounds_toArray, List.set_cons_zero, List.set_cons_succ])
    | ((with_reducible show wpList _ _ _ (⟨_, .load 27 _, _, _, _, _⟩ :: _) _ _); (first | refine H.load rfl (ty := 27) rfl rfl 0 rfl Tryd.underlying27 rfl (by with_reducible exact ext_2 _ _) (by exact tB_s) ?_ | refine H.load rfl (ty := 27) rfl rfl 1 rfl Tryd.underlying27 rfl (by with_reducible exact ext_2 _ _) (by exact tB_s) ?_ | refine H.load rfl (ty := 27) rfl rfl 2 rfl Tryd.underlying27 rfl (by with_reducible exact ext_2 _ _) (by exact tB_s) ?_ | refine H.load rfl (ty := 27) rfl rfl 3 rfl Tryd.underlying27 rfl (by with_reducible exact ext_2 _ _) (by exact tB_s) ?_); simp only [Act.put, List.setIfInBounds_toArray, List.set_cons_zero, List.set_cons_succ])
    | ((with_reducible show wpList _ _ _ (⟨_, .load 25 _, _, _, _, _⟩ :: _) _ _); (first | refine H.load1 rfl (ty := 25) rfl rfl 0 rfl Tryd.underlying25 rfl (by with_reducible exact get_20 _ _) ?_ | refine H.load1 rfl (ty := 25) rfl rfl 0 rfl Tryd.underlying25 rfl (by with_reducible exact get_21 _ _) ?_ | refine H.load1 rfl (ty := 25) rfl rfl 0 rfl Tryd.underlying25 rfl (by with_reducible exact limbs_o0 _) ?_ | refine H.load1 rfl (ty := 25) rfl rfl 0 rfl Tryd.underlying25 rfl (by with_reducible exact limbs_o1 _) ?_ | refine H.load1 rfl (ty := 25) rfl rfl 0 rfl Tryd.underlying25 rfl (by with_reducible exact limbs_o2 _) ?_ | refine H.load1 rfl (ty := 25) rfl rfl 0 rfl Tryd.underlying25 rfl (by with_reducible exact limbs_o3 _) ?_ | refine H.load1 rfl (ty := 25) rfl rfl 0 rfl Tryd.underlying25 rfl (by with_reducible exact limbs_o4 _) ?_ | refine H.load1 rfl (ty := 25) rfl rfl 0 rfl Tryd.underlying25 rfl (by with_reducible exact limbs_o5 _) ?_ | refine H.load1 rfl (ty := 25) rfl rfl 0 rfl Tryd.underlying25 rfl (by with_reducible exact get_10 _) ?_ | refine H.load1 rfl (ty := 25) rfl rfl 1 rfl Tryd.underlying25 rfl (by with_reducible exact get_20 _ _) ?_ | refine H.load1 rfl (ty := 25) rfl rfl 1 rfl Tryd.underlying25 rfl (by with_reducible exact get_21 _ _) ?_ | refine H.load1 rfl (ty := 25) rfl rfl 1 rfl Tryd.underlying25 rfl (by with_reducible exact limbs_o0 _) ?_ | refine H.load1 rfl (ty := 25) rfl rfl 1 rfl Tryd.underlying25 rfl (by with_reducible exact limbs_o1 _) ?_ | refine H.load1 rfl (ty := 25) rfl rfl 1 rfl Tryd.underlying25 rfl (by with_reducible exact limbs_o2 _) ?_ | refine H.load1 rfl (ty := 25) rfl rfl 1 rfl Tryd.underlying25 rfl (by with_reducible exact limbs_o3 _) ?_ | refine H.load1 rfl (ty := 25) rfl rfl 1 rfl Tryd.underlying25 rfl (by with_reducible exact limbs_o4 _) ?_ | refine H.load1 rfl (ty := 25) rfl rfl 1 rfl Tryd.underlying25 rfl (by with_reducible exact limbs_o5 _) ?_ | refine H.load1 rfl (ty := 25) rfl rfl 1 rfl Tryd.underlying25 rfl (by with_reducible exact get_10 _) ?_ | refine H.load1 rfl (ty := 25) rfl rfl 2 rfl Tryd.underlying25 rfl (by with_reducible exact get_20 _ _) ?_ | refine H.load1 rfl (ty := 25) rfl rfl 2 rfl Tryd.underlying25 rfl (by with_reducible exact get_21 _ _) ?_ | refine H.load1 rfl (ty := 25) rfl rfl 2 rfl Tryd.underlying25 rfl (by with_reducible exact limbs_o0 _) ?_ | refine H.load1 rfl (ty := 25) rfl rfl 2 rfl Tryd.underlying25 rfl (by with_reducible exact limbs_o1 _) ?_ | refine H.load1 rfl (ty := 25) rfl rfl 2 rfl Tryd.underlying25 rfl (by with_reducible exact limbs_o2 _) ?_ | refine H.load1 rfl (ty := 25) rfl rfl 2 rfl Tryd.underlying25 rfl (by with_reducible exact limbs_o3 _) ?_ | refine H.load1 rfl (ty := 25) rfl rfl 2 rfl Tryd.underlying25 rfl (by with_reducible exact limbs_o4 _) ?_ | refine H.load1 rfl (ty := 25) rfl rfl 2 rfl Tryd.underlying25 rfl (by with_reducible exact limbs_o5 _) ?_ | refine H.load1 rfl (ty := 25) rfl rfl 2 rfl Tryd.underlying25 rfl (by with_reducible exact get_10 _) ?_ | refine H.load1 rfl (ty := 25) rfl rfl 3 rfl Tryd.underlying25 rfl (by with_reducible exact get_20 _ _) ?_ | refine H.load1 rfl (ty := 25) rfl rfl 3 rfl Tryd.underlying25 rfl (by with_reducible exact get_21 _ _) ?_ | refine H.load1 rfl (ty := 25) rfl rfl 3 rfl Tryd.underlying25 rfl (by with_reducible exact limbs_o0 _) ?_ | refine H.load1 rfl (ty := 25) rfl rfl 3 rfl Tryd.underlying25 rfl (by with_reducible exact limbs_o1 _) ?_ | refine H.load1 rfl (ty := 25) rfl rfl 3 rfl Tryd.underlying25 rfl (by with_reducible exact limbs_o2 _) ?_ | refine H.load1 rfl (ty := 25) rfl rfl 3 rfl Tryd.underlying25 rfl (by with_reducible exact limbs_o3 _) ?_ | refine H.load1 rfl (ty := 25) rfl rfl 3 rfl Tryd.underlying25 rfl (by with_reducible exact limbs_o4 _) ?_ | refine H.load1 rfl (ty := 25) rfl rfl 3 rfl Tryd.underlying25 rfl (by with_reducible exact limbs_o5 _) ?_ | refine H.load1 rfl (ty := 25) rfl rfl 3 rfl Tryd.underlying25 rfl (by with_reducible exact get_10 _) ?_); simp only [Act.put, List.setIfInBounds_toArray, List.set_cons_zero, List.set_cons_succ])
    | ((with_reducible show wpList _ _ _ (⟨_, .store 54 _ _, _, _, _, _⟩ :: _) _ _); (first | refine H.store rfl (ty := 54) rfl rfl (cells_agg _) 0 rfl (by with_reducible exact set_zero6 _ rfl) (by exact tW_s) (one_of rfl) (ble_le rfl) ?_ | refine H.store rfl (ty := 54) rfl rfl (cells_agg _) 0 rfl (by with_reducible exact set_all _ _ rfl) (by exact tW_s) (one_of rfl) (ble_le rfl) ?_ | refine H.store rfl (ty := 54) rfl rfl (cells_agg _) 0 rfl (by with_reducible exact set_parts_s _ _ _ _ _) (by exact tW_s) (one_of rfl) (ble_le rfl) ?_ | refine H.store rfl (ty := 54) rfl rfl (cells_agg _) 0 rfl (by with_reducible exact set_rough_s _ _ _ _ _) (by exact tW_s) (one_of rfl) (ble_le rfl) ?_ | refine H.store rfl (ty := 54) rfl rfl (cells_agg _) 0 rfl (by with_reducible exact set_parts_f _ _ _ _ _) (by exact tW_s) (one_of rfl) (ble_le rfl) ?_ | refine H.store rfl (ty := 54) rfl rfl (cells_agg _) 1 rfl (by with_reducible exact set_zero6 _ rfl) (by exact tW_s) (one_of rfl) (ble_le rfl) ?_ | refine H.store rfl (ty := 54) rfl rfl (cells_agg _) 1 rfl (by with_reducible exact set_all _ _ rfl) (by exact tW_s) (one_of rfl) (ble_le rfl) ?_ | refine H.store rfl (ty := 54) rfl rfl (cells_agg _) 1 rfl (by with_reducible exact set_parts_s _ _ _ _ _) (by exact tW_s) (one_of rfl) (ble_le rfl) ?_ | refine H.store rfl (ty := 54) rfl rfl (cells_agg _) 1 rfl (by with_reducible exact set_rough_s _ _ _ _ _) (by exact tW_s) (one_of rfl) (ble_le rfl) ?_ | refine H.store rfl (ty := 54) rfl rfl (cells_agg _) 1 rfl (by with_reducible exact set_parts_f _ _ _ _ _) (by exact tW_s) (one_of rfl) (ble_le rfl) ?_ | refine H.store rfl (ty := 54) rfl rfl (cells_agg _) 2 rfl (by with_reducible exact set_zero6 _ rfl) (by exact tW_s) (one_of rfl) (ble_le rfl) ?_ | refine H.store rfl (ty := 54) rfl rfl (cells_agg _) 2 rfl (by with_reducible exact set_all _ _ rfl) (by exact tW_s) (one_of rfl) (ble_le rfl) ?_ | refine H.store rfl (ty := 54) rfl rfl (cells_agg _) 2 rfl (by with_reducible exact set_parts_s _ _ _ _ _) (by exact tW_s) (one_of rfl) (ble_le rfl) ?_ | refine H.store rfl (ty := 54) rfl rfl (cells_agg _) 2 rfl (by with_reducible exact set_rough_s _ _ _ _ _) (by exact tW_s) (one_of rfl) (ble_le rfl) ?_ | refine H.store rfl (ty := 54) rfl rfl (cells_agg _) 2 rfl (by with_reducible exact set_parts_f _ _ _ _ _) (by exact tW_s) (one_of rfl) (ble_le rfl) ?_ | refine H.store rfl (ty := 54) rfl rfl (cells_agg _) 3 rfl (by with_reducible exact set_zero6 _ rfl) (by exact tW_s) (one_of rfl) (ble_le rfl) ?_ | refine H.store rfl (ty := 54) rfl rfl (cells_agg _) 3 rfl (by with_reducible exact set_all _ _ rfl) (by exact tW_s) (one_of rfl) (ble_le rfl) ?_ | refine H.store rfl (ty := 54) rfl rfl (cells_agg _) 3 rfl (by with_reducible exact set_parts_s _ _ _ _ _) (by exact tW_s) (one_of rfl) (ble_le rfl) ?_ | refine H.store rfl (ty := 54) rfl rfl (cells_agg _) 3 rfl (by with_reducible exact set_rough_s _ _ _ _ _) (by exact tW_s) (one_of rfl) (ble_le rfl) ?_ | refine H.store rfl (ty := 54) rfl rfl (cells_agg _) 3 rfl (by with_reducible exact set_parts_f _ _ _ _ _) (by exact tW_s) (one_of rfl) (ble_le rfl) ?_); (intro w H; simp only [List.set_cons_zero, List.set_cons_succ] at H; simp only [Act.put, List.setIfInBounds_toArray, List.set_cons_zero, List.set_cons_succ]))
    | ((with_reducible show wpList _ _ _ (⟨_, .store 27 _ _, _, _, _, _⟩ :: _) _ _); (first | refine H.store rfl (ty := 27) rfl rfl (cells_agg _) 0 rfl (by with_reducible exact set_all _ _ rfl) (by exact tB_s) (one_of rfl) (ble_le rfl) ?_ | refine H.store rfl (ty := 27) rfl rfl (cells_agg _) 1 rfl (by with_reducible exact set_all _ _ rfl) (by exact tB_s) (one_of rfl) (ble_le rfl) ?_ | refine H.store rfl (ty := 27) rfl rfl (cells_agg _) 2 rfl (by with_reducible exact set_all _ _ rfl) (by exact tB_s) (one_of rfl) (ble_le rfl) ?_ | refine H.store rfl (ty := 27) rfl rfl (cells_agg _) 3 rfl (by with_reducible exact set_all _ _ rfl) (by exact tB_s) (one_of rfl) (ble_le rfl) ?_); (intro w H; simp only [List.set_cons_zero, List.set_cons_succ] at H; simp only [Act.put, List.setIfInBounds_toArray, List.set_cons_zero, List.set_cons_succ]))
    | ((with_reducible show wpList _ _ _ (⟨_, .store 25 _ _, _, _, _, _⟩ :: _) _ _); (first | refine H.store rfl (ty := 25) rfl rfl (cells_int _ _) 0 rfl (by with_reducible exact set_20 _ _ _) (by exact tu_s) (one_of rfl) (ble_le rfl) ?_ | refine H.store rfl (ty := 25) rfl rfl (cells_int _ _) 0 rfl (by with_reducible exact set_21 _ _ _) (by exact tu_s) (one_of rfl) (ble_le rfl) ?_ | refine H.store rfl (ty := 25) rfl rfl (cells_int _ _) 0 rfl (by with_reducible exact set_10 _ _) (by exact tu_s) (one_of rfl) (ble_le rfl) ?_ | refine H.store rfl (ty := 25) rfl rfl (cells_int _ _) 1 rfl (by with_reducible exact set_20 _ _ _) (by exact tu_s) (one_of rfl) (ble_le rfl) ?_ | refine H.store rfl (ty := 25) rfl rfl (cells_int _ _) 1 rfl (by with_reducible exact set_21 _ _ _) (by exact tu_s) (one_of rfl) (ble_le rfl) ?_ | refine H.store rfl (ty := 25) rfl rfl (cells_int _ _) 1 rfl (by with_reducible exact set_10 _ _) (by exact tu_s) (one_of rfl) (ble_le rfl) ?_ | refine H.store rfl (ty := 25) rfl rfl (cells_int _ _) 2 rfl (by with_reducible exact set_20 _ _ _) (by exact tu_s) (one_of rfl) (ble_le rfl) ?_ | refine H.store rfl (ty := 25) rfl rfl (cells_int _ _) 2 rfl (by with_reducible exact set_21 _ _ _) (by exact tu_s) (one_of rfl) (ble_le rfl) ?_ | refine H.store rfl (ty := 25) rfl rfl (cells_int _ _) 2 rfl (by with_reducible exact set_10 _ _) (by exact tu_s) (one_of rfl) (ble_le rfl) ?_ | refine H.store rfl (ty := 25) rfl rfl (cells_int _ _) 3 rfl (by with_reducible exact set_20 _ _ _) (by exact tu_s) (one_of rfl) (ble_le rfl) ?_ | refine H.store rfl (ty := 25) rfl rfl (cells_int _ _) 3 rfl (by with_reducible exact set_21 _ _ _) (by exact tu_s) (one_of rfl) (ble_le rfl) ?_ | refine H.store rfl (ty := 25) rfl rfl (cells_int _ _) 3 rfl (by with_reducible exact set_10 _ _) (by exact tu_s) (one_of rfl) (ble_le rfl) ?_); (intro w H; simp only [List.set_cons_zero, List.set_cons_succ] at H; simp only [Act.put, List.setIfInBounds_toArray, List.set_cons_zero, List.set_cons_succ]))
    | ((with_reducible show Code.wp _ (.region 13 _ true) _ _ _); refine H.heldSub rfl (List.Sublist.refl _) ?_; intro H; refine H.takeRun (List.Sublist.refl _) 0 rfl (by kernel_rfl) (by kernel_rfl) (by kernel_rfl) (fun _ _ _ _ h => h) rfl (by intro w; go_simp; (try with_reducible rfl)) ?_; (try simp only [Act.put, List.getElem_toArray, List.getElem_cons_zero, List.getElem_cons_succ, List.setIfInBounds_toArray, List.set_cons_zero, List.set_cons_succ]); refine H.takeRun (List.Sublist.refl _) 1 rfl (by kernel_rfl) (by kernel_rfl) (by kernel_rfl) (fun _ _ _ _ h => h) rfl (by intro w; go_simp; (try with_reducible rfl)) ?_; (try simp only [Act.put, List.getElem_toArray, List.getElem_cons_zero, List.getElem_cons_succ, List.setIfInBounds_toArray, List.set_cons_zero, List.set_cons_succ]); (first | refine H.takeLoad (List.Sublist.refl _) 2 rfl (by kernel_rfl) (by kernel_rfl) (by kernel_rfl) (fun _ _ _ _ h => h) rfl (ty := 54) rfl rfl 0 rfl Tryd.underlying54 rfl (by with_reducible exact ext_limbs _) (by exact tW_s) ?_ | refine H.takeLoad (List.Sublist.refl _) 2 rfl (by kernel_rfl) (by kernel_rfl) (by kernel_rfl) (fun _ _ _ _ h => h) rfl (ty := 54) rfl rfl 0 rfl Tryd.underlying54 rfl (by with_reducible exact ext_parts_s _ _ _ _) (by exact tW_s) ?_ | refine H.takeLoad (List.Sublist.refl _) 2 rfl (by kernel_rfl) (by kernel_rfl) (by kernel_rfl) (fun _ _ _ _ h => h) rfl (ty := 54) rfl rfl 0 rfl Tryd.underlying54 rfl (by with_reducible exact ext_rough_s _ _ _ _) (by exact tW_s) ?_ | refine H.takeLoad (List.Sublist.refl _) 2 rfl (by kernel_rfl) (by kernel_rfl) (by kernel_rfl) (fun _ _ _ _ h => h) rfl (ty := 54) rfl rfl 0 rfl Tryd.underlying54 rfl (by with_reducible exact ext_parts_f _ _ _ _) (by exact tW_s) ?_ | refine H.takeLoad (List.Sublist.refl _) 2 rfl (by kernel_rfl) (by kernel_rfl) (by kernel_rfl) (fun _ _ _ _ h => h) rfl (ty := 54) rfl rfl 1 rfl Tryd.underlying54 rfl (by with_reducible exact ext_limbs _) (by exact tW_s) ?_ | refine H.takeLoad (List.Sublist.refl _) 2 rfl (by kernel_rfl) (by kernel_rfl) (by kernel_rfl) (fun _ _ _ _ h => h) rfl (ty := 54) rfl rfl 1 rfl Tryd.underlying54 rfl (by with_reducible exact ext_parts_s _ _ _ _) (by exact tW_s) ?_ | refine H.takeLoad (List.Sublist.refl _) 2 rfl (by kernel_rfl) (by kernel_rfl) (by kernel_rfl) (fun _ _ _ _ h => h) rfl (ty := 54) rfl rfl 1 rfl Tryd.underlying54 rfl (by with_reducible exact ext_rough_s _ _ _ _) (by exact tW_s) ?_ | refine H.takeLoad (List.Sublist.refl _) 2 rfl (by kernel_rfl) (by kernel_rfl) (by kernel_rfl) (fun _ _ _ _ h => h) rfl (ty := 54) rfl rfl 1 rfl Tryd.underlying54 rfl (by with_reducible exact ext_parts_f _ _ _ _) (by exact tW_s) ?_ | refine H.takeLoad (List.Sublist.refl _) 2 rfl (by kernel_rfl) (by kernel_rfl) (by kernel_rfl) (fun _ _ _ _ h => h) rfl (ty := 54) rfl rfl 2 rfl Tryd.underlying54 rfl (by with_reducible exact ext_limbs _) (by exact tW_s) ?_ | refine H.takeLoad (List.Sublist.refl _) 2 rfl (by kernel_rfl) (by kernel_rfl) (by kernel_rfl) (fun _ _ _ _ h => h) rfl (ty := 54) rfl rfl 2 rfl Tryd.underlying54 rfl (by with_reducible exact ext_parts_s _ _ _ _) (by exact tW_s) ?_ | refine H.takeLoad (List.Sublist.refl _) 2 rfl (by kernel_rfl) (by kernel_rfl) (by kernel_rfl) (fun _ _ _ _ h => h) rfl (ty := 54) rfl rfl 2 rfl Tryd.underlying54 rfl (by with_reducible exact ext_rough_s _ _ _ _) (by exact tW_s) ?_ | refine H.takeLoad (List.Sublist.refl _) 2 rfl (by kernel_rfl) (by kernel_rfl) (by kernel_rfl) (fun _ _ _ _ h => h) rfl (ty := 54) rfl rfl 2 rfl Tryd.underlying54 rfl (by with_reducible exact ext_parts_f _ _ _ _) (by exact tW_s) ?_ | refine H.takeLoad (List.Sublist.refl _) 2 rfl (by kernel_rfl) (by kernel_rfl) (by kernel_rfl) (fun _ _ _ _ h => h) rfl (ty := 54) rfl rfl 3 rfl Tryd.underlying54 rfl (by with_reducible exact ext_limbs _) (by exact tW_s) ?_ | refine H.takeLoad (List.Sublist.refl _) 2 rfl (by kernel_rfl) (by kernel_rfl) (by kernel_rfl) (fun _ _ _ _ h => h) rfl (ty := 54) rfl rfl 3 rfl Tryd.underlying54 rfl (by with_reducible exact ext_parts_s _ _ _ _) (by exact tW_s) ?_ | refine H.takeLoad (List.Sublist.refl _) 2 rfl (by kernel_rfl) (by kernel_rfl) (by kernel_rfl) (fun _ _ _ _ h => h) rfl (ty := 54) rfl rfl 3 rfl Tryd.underlying54 rfl (by with_reducible exact ext_rough_s _ _ _ _) (by exact tW_s) ?_ | refine H.takeLoad (List.Sublist.refl _) 2 rfl (by kernel_rfl) (by kernel_rfl) (by kernel_rfl) (fun _ _ _ _ h => h) rfl (ty := 54) rfl rfl 3 rfl Tryd.underlying54 rfl (by with_reducible exact ext_parts_f _ _ _ _) (by exact tW_s) ?_); (try simp only [Act.put, List.getElem_toArray, List.getElem_cons_zero, List.getElem_cons_succ, List.setIfInBounds_toArray, List.set_cons_zero, List.set_cons_succ]); refine H.takeRun (List.Sublist.refl _) 3 rfl (by kernel_rfl) (by kernel_rfl) (by kernel_rfl) (fun _ _ _ _ h => h) rfl (by intro w; go_simp; (try with_reducible rfl)) ?_; (try simp only [Act.put, List.getElem_toArray, List.getElem_cons_zero, List.getElem_cons_succ, List.setIfInBounds_toArray, List.set_cons_zero, List.set_cons_succ]); refine held_one (i := 4) (by kernel_rfl) rfl rfl ?_; unfold Oper.wp; go_simp; (first | (go_at_call 33; ((with_reducible refine (cO _).mono ?_); rintro e w ⟨rfl, hb⟩; replace H := H.call hb; clear hb)) | (go_at_call 38; ((with_reducible refine (cQ _).mono ?_); rintro e w ⟨rfl, hb⟩; replace H := H.call hb; clear hb))); refine H.next (List.Sublist.refl _) ?_; (try simp only [Act.put, List.getElem_toArray, List.getElem_cons_zero, List.getElem_cons_succ, List.setIfInBounds_toArray, List.set_cons_zero, List.set_cons_succ]); refine held_one (i := 5) (by kernel_rfl) rfl rfl ?_; unfold Oper.wp; go_simp; (first | (go_at_call 33; ((with_reducible refine (cO _).mono ?_); rintro e w ⟨rfl, hb⟩; replace H := H.call hb; clear hb)) | (go_at_call 38; ((with_reducible refine (cQ _).mono ?_); rintro e w ⟨rfl, hb⟩; replace H := H.call hb; clear hb))); refine H.next (List.Sublist.refl _) ?_; (try simp only [Act.put, List.getElem_toArray, List.getElem_cons_zero, List.getElem_cons_succ, List.setIfInBounds_toArray, List.set_cons_zero, List.set_cons_succ]); refine H.takeRun (List.Sublist.refl _) 6 rfl (by kernel_rfl) (by kernel_rfl) (by kernel_rfl) (fun _ _ _ _ h => h) rfl (by intro w; go_simp; (try with_reducible rfl)) ?_; (try simp only [Act.put, List.getElem_toArray, List.getElem_cons_zero, List.getElem_cons_succ, List.setIfInBounds_toArray, List.set_cons_zero, List.set_cons_succ]); refine H.takeRun (List.Sublist.refl _) 7 rfl (by kernel_rfl) (by kernel_rfl) (by kernel_rfl) (fun _ _ _ _ h => h) rfl (by intro w; go_simp; (try with_reducible rfl)) ?_; (try simp only [Act.put, List.getElem_toArray, List.getElem_cons_zero, List.getElem_cons_succ, List.setIfInBounds_toArray, List.set_cons_zero, List.set_cons_succ]); refine H.takeRun (List.Sublist.refl _) 8 rfl (by kernel_rfl) (by kernel_rfl) (by kernel_rfl) (fun _ _ _ _ h => h) rfl (by intro w; go_simp; (try with_reducible rfl)) ?_; (try simp only [Act.put, List.getElem_toArray, List.getElem_cons_zero, List.getElem_cons_succ, List.setIfInBounds_toArray, List.set_cons_zero, List.set_cons_succ]); refine wpAnyH_done (by kernel_rfl) ?_ _)
    | ((with_reducible show Code.wp _ (.region 15 _ true) _ _ _); refine H.heldSub rfl (List.Sublist.refl _) ?_; intro H; refine H.takeRun (List.Sublist.refl _) 0 rfl (by kernel_rfl) (by kernel_rfl) (by kernel_rfl) (fun _ _ _ _ h => h) rfl (by intro w; go_simp; (try with_reducible rfl)) ?_; (try simp only [Act.put, List.getElem_toArray, List.getElem_cons_zero, List.getElem_cons_succ, List.setIfInBounds_toArray, List.set_cons_zero, List.set_cons_succ]); refine H.takeRun (List.Sublist.refl _) 1 rfl (by kernel_rfl) (by kernel_rfl) (by kernel_rfl) (fun _ _ _ _ h => h) rfl (by intro w; go_simp; (try with_reducible rfl)) ?_; (try simp only [Act.put, List.getElem_toArray, List.getElem_cons_zero, List.getElem_cons_succ, List.setIfInBounds_toArray, List.set_cons_zero, List.set_cons_succ]); refine H.takeRun (List.Sublist.refl _) 2 rfl (by kernel_rfl) (by kernel_rfl) (by kernel_rfl) (fun _ _ _ _ h => h) rfl (by intro w; go_simp; (try with_reducible rfl)) ?_; (try simp only [Act.put, List.getElem_toArray, List.getElem_cons_zero, List.getElem_cons_succ, List.setIfInBounds_toArray, List.set_cons_zero, List.set_cons_succ]); refine H.takeOff (List.Sublist.refl _) 3 rfl (by kernel_rfl) (by kernel_rfl) (by kernel_rfl) (fun _ _ _ _ h => h) rfl ?_; (try simp only [Act.put, List.getElem_toArray, List.getElem_cons_zero, List.getElem_cons_succ, List.setIfInBounds_toArray, List.set_cons_zero, List.set_cons_succ]); refine H.takeOff (List.Sublist.refl _) 4 rfl (by kernel_rfl) (by kernel_rfl) (by kernel_rfl) (fun _ _ _ _ h => h) rfl ?_; (try simp only [Act.put, List.getElem_toArray, List.getElem_cons_zero, List.getElem_cons_succ, List.setIfInBounds_toArray, List.set_cons_zero, List.set_cons_succ]); refine H.takeOff (List.Sublist.refl _) 5 rfl (by kernel_rfl) (by kernel_rfl) (by kernel_rfl) (fun _ _ _ _ h => h) rfl ?_; (try simp only [Act.put, List.getElem_toArray, List.getElem_cons_zero, List.getElem_cons_succ, List.setIfInBounds_toArray, List.set_cons_zero, List.set_cons_succ]); refine H.takeOff (List.Sublist.refl _) 6 rfl (by kernel_rfl) (by kernel_rfl) (by kernel_rfl) (fun _ _ _ _ h => h) rfl ?_; (try simp only [Act.put, List.getElem_toArray, List.getElem_cons_zero, List.getElem_cons_succ, List.setIfInBounds_toArray, List.set_cons_zero, List.set_cons_succ]); refine H.takeOff (List.Sublist.refl _) 7 rfl (by kernel_rfl) (by kernel_rfl) (by kernel_rfl) (fun _ _ _ _ h => h) rfl ?_; (try simp only [Act.put, List.getElem_toArray, List.getElem_cons_zero, List.getElem_cons_succ, List.setIfInBounds_toArray, List.set_cons_zero, List.set_cons_succ]); refine H.takeRun (List.Sublist.refl _) 8 rfl (by kernel_rfl) (by kernel_rfl) (by kernel_rfl) (fun _ _ _ _ h => h) rfl (by intro w; go_simp; (try with_reducible rfl)) ?_; (try simp only [Act.put, List.getElem_toArray, List.getElem_cons_zero, List.getElem_cons_succ, List.setIfInBounds_toArray, List.set_cons_zero, List.set_cons_succ]); refine H.takeRun (List.Sublist.refl _) 9 rfl (by kernel_rfl) (by kernel_rfl) (by kernel_rfl) (fun _ _ _ _ h => h) rfl (by intro w; go_simp; (try with_reducible rfl)) ?_; (try simp only [Act.put, List.getElem_toArray, List.getElem_cons_zero, List.getElem_cons_succ, List.setIfInBounds_toArray, List.set_cons_zero, List.set_cons_succ]); refine wpAnyH_done (by kernel_rfl) ?_ _)
    | ((with_reducible show Code.wp _ (.region 13 _ true) _ _ _); refine H.heldSub rfl (List.Sublist.refl _) ?_; intro H; refine H.takeRun (List.Sublist.refl _) 0 rfl (by kernel_rfl) (by kernel_rfl) (by kernel_rfl) (fun _ _ _ _ h => h) rfl (by intro w; go_simp; (try with_reducible rfl)) ?_; (try simp only [Act.put, List.getElem_toArray, List.getElem_cons_zero, List.getElem_cons_succ, List.setIfInBounds_toArray, List.set_cons_zero, List.set_cons_succ]); refine H.takeRun (List.Sublist.refl _) 1 rfl (by kernel_rfl) (by kernel_rfl) (by kernel_rfl) (fun _ _ _ _ h => h) rfl (by intro w; go_simp; (try with_reducible rfl)) ?_; (try simp only [Act.put, List.getElem_toArray, List.getElem_cons_zero, List.getElem_cons_succ, List.setIfInBounds_toArray, List.set_cons_zero, List.set_cons_succ]); refine H.takeOff (List.Sublist.refl _) 2 rfl (by kernel_rfl) (by kernel_rfl) (by kernel_rfl) (fun _ _ _ _ h => h) rfl ?_; (try simp only [Act.put, List.getElem_toArray, List.getElem_cons_zero, List.getElem_cons_succ, List.setIfInBounds_toArray, List.set_cons_zero, List.set_cons_succ]); refine H.takeOff (List.Sublist.refl _) 3 rfl (by kernel_rfl) (by kernel_rfl) (by kernel_rfl) (fun _ _ _ _ h => h) rfl ?_; (try simp only [Act.put, List.getElem_toArray, List.getElem_cons_zero, List.getElem_cons_succ, List.setIfInBounds_toArray, List.set_cons_zero, List.set_cons_succ]); refine H.takeOff (List.Sublist.refl _) 4 rfl (by kernel_rfl) (by kernel_rfl) (by kernel_rfl) (fun _ _ _ _ h => h) rfl ?_; (try simp only [Act.put, List.getElem_toArray, List.getElem_cons_zero, List.getElem_cons_succ, List.setIfInBounds_toArray, List.set_cons_zero, List.set_cons_succ]); refine H.takeOff (List.Sublist.refl _) 5 rfl (by kernel_rfl) (by kernel_rfl) (by kernel_rfl) (fun _ _ _ _ h => h) rfl ?_; (try simp only [Act.put, List.getElem_toArray, List.getElem_cons_zero, List.getElem_cons_succ, List.setIfInBounds_toArray, List.set_cons_zero, List.set_cons_succ]); refine H.takeOff (List.Sublist.refl _) 6 rfl (by kernel_rfl) (by kernel_rfl) (by kernel_rfl) (fun _ _ _ _ h => h) rfl ?_; (try simp only [Act.put, List.getElem_toArray, List.getElem_cons_zero, List.getElem_cons_succ, List.setIfInBounds_toArray, List.set_cons_zero, List.set_cons_succ]); refine H.takeRun (List.Sublist.refl _) 7 rfl (by kernel_rfl) (by kernel_rfl) (by kernel_rfl) (fun _ _ _ _ h => h) rfl (by intro w; go_simp; (try with_reducible rfl)) ?_; (try simp only [Act.put, List.getElem_toArray, List.getElem_cons_zero, List.getElem_cons_succ, List.setIfInBounds_toArray, List.set_cons_zero, List.set_cons_succ]); refine H.takeRun (List.Sublist.refl _) 8 rfl (by kernel_rfl) (by kernel_rfl) (by kernel_rfl) (fun _ _ _ _ h => h) rfl (by intro w; go_simp; (try with_reducible rfl)) ?_; (try simp only [Act.put, List.getElem_toArray, List.getElem_cons_zero, List.getElem_cons_succ, List.setIfInBounds_toArray, List.set_cons_zero, List.set_cons_succ]); refine wpAnyH_done (by kernel_rfl) ?_ _)
    | ((with_reducible show Code.wp _ (.region 15 _ true) _ _ _); refine H.heldSub rfl (List.Sublist.refl _) ?_; intro H; refine H.takeRun (List.Sublist.refl _) 0 rfl (by kernel_rfl) (by kernel_rfl) (by kernel_rfl) (fun _ _ _ _ h => h) rfl (by intro w; go_simp; (try with_reducible rfl)) ?_; (try simp only [Act.put, List.getElem_toArray, List.getElem_cons_zero, List.getElem_cons_succ, List.setIfInBounds_toArray, List.set_cons_zero, List.set_cons_succ]); refine H.takeRun (List.Sublist.refl _) 1 rfl (by kernel_rfl) (by kernel_rfl) (by kernel_rfl) (fun _ _ _ _ h => h) rfl (by intro w; go_simp; (try with_reducible rfl)) ?_; (try simp only [Act.put, List.getElem_toArray, List.getElem_cons_zero, List.getElem_cons_succ, List.setIfInBounds_toArray, List.set_cons_zero, List.set_cons_succ]); refine H.takeRun (List.Sublist.refl _) 2 rfl (by kernel_rfl) (by kernel_rfl) (by kernel_rfl) (fun _ _ _ _ h => h) rfl (by intro w; go_simp; (try with_reducible rfl)) ?_; (try simp only [Act.put, List.getElem_toArray, List.getElem_cons_zero, List.getElem_cons_succ, List.setIfInBounds_toArray, List.set_cons_zero, List.set_cons_succ]); (first | refine H.takeLoad (List.Sublist.refl _) 3 rfl (by kernel_rfl) (by kernel_rfl) (by kernel_rfl) (fun _ _ _ _ h => h) rfl (ty := 54) rfl rfl 0 rfl Tryd.underlying54 rfl (by with_reducible exact ext_limbs _) (by exact tW_s) ?_ | refine H.takeLoad (List.Sublist.refl _) 3 rfl (by kernel_rfl) (by kernel_rfl) (by kernel_rfl) (fun _ _ _ _ h => h) rfl (ty := 54) rfl rfl 0 rfl Tryd.underlying54 rfl (by with_reducible exact ext_parts_s _ _ _ _) (by exact tW_s) ?_ | refine H.takeLoad (List.Sublist.refl _) 3 rfl (by kernel_rfl) (by kernel_rfl) (by kernel_rfl) (fun _ _ _ _ h => h) rfl (ty := 54) rfl rfl 0 rfl Tryd.underlying54 rfl (by with_reducible exact ext_rough_s _ _ _ _) (by exact tW_s) ?_ | refine H.takeLoad (List.Sublist.refl _) 3 rfl (by kernel_rfl) (by kernel_rfl) (by kernel_rfl) (fun _ _ _ _ h => h) rfl (ty := 54) rfl rfl 0 rfl Tryd.underlying54 rfl (by with_reducible exact ext_parts_f _ _ _ _) (by exact tW_s) ?_ | refine H.takeLoad (List.Sublist.refl _) 3 rfl (by kernel_rfl) (by kernel_rfl) (by kernel_rfl) (fun _ _ _ _ h => h) rfl (ty := 54) rfl rfl 1 rfl Tryd.underlying54 rfl (by with_reducible exact ext_limbs _) (by exact tW_s) ?_ | refine H.takeLoad (List.Sublist.refl _) 3 rfl (by kernel_rfl) (by kernel_rfl) (by kernel_rfl) (fun _ _ _ _ h => h) rfl (ty := 54) rfl rfl 1 rfl Tryd.underlying54 rfl (by with_reducible exact ext_parts_s _ _ _ _) (by exact tW_s) ?_ | refine H.takeLoad (List.Sublist.refl _) 3 rfl (by kernel_rfl) (by kernel_rfl) (by kernel_rfl) (fun _ _ _ _ h => h) rfl (ty := 54) rfl rfl 1 rfl Tryd.underlying54 rfl (by with_reducible exact ext_rough_s _ _ _ _) (by exact tW_s) ?_ | refine H.takeLoad (List.Sublist.refl _) 3 rfl (by kernel_rfl) (by kernel_rfl) (by kernel_rfl) (fun _ _ _ _ h => h) rfl (ty := 54) rfl rfl 1 rfl Tryd.underlying54 rfl (by with_reducible exact ext_parts_f _ _ _ _) (by exact tW_s) ?_ | refine H.takeLoad (List.Sublist.refl _) 3 rfl (by kernel_rfl) (by kernel_rfl) (by kernel_rfl) (fun _ _ _ _ h => h) rfl (ty := 54) rfl rfl 2 rfl Tryd.underlying54 rfl (by with_reducible exact ext_limbs _) (by exact tW_s) ?_ | refine H.takeLoad (List.Sublist.refl _) 3 rfl (by kernel_rfl) (by kernel_rfl) (by kernel_rfl) (fun _ _ _ _ h => h) rfl (ty := 54) rfl rfl 2 rfl Tryd.underlying54 rfl (by with_reducible exact ext_parts_s _ _ _ _) (by exact tW_s) ?_ | refine H.takeLoad (List.Sublist.refl _) 3 rfl (by kernel_rfl) (by kernel_rfl) (by kernel_rfl) (fun _ _ _ _ h => h) rfl (ty := 54) rfl rfl 2 rfl Tryd.underlying54 rfl (by with_reducible exact ext_rough_s _ _ _ _) (by exact tW_s) ?_ | refine H.takeLoad (List.Sublist.refl _) 3 rfl (by kernel_rfl) (by kernel_rfl) (by kernel_rfl) (fun _ _ _ _ h => h) rfl (ty := 54) rfl rfl 2 rfl Tryd.underlying54 rfl (by with_reducible exact ext_parts_f _ _ _ _) (by exact tW_s) ?_ | refine H.takeLoad (List.Sublist.refl _) 3 rfl (by kernel_rfl) (by kernel_rfl) (by kernel_rfl) (fun _ _ _ _ h => h) rfl (ty := 54) rfl rfl 3 rfl Tryd.underlying54 rfl (by with_reducible exact ext_limbs _) (by exact tW_s) ?_ | refine H.takeLoad (List.Sublist.refl _) 3 rfl (by kernel_rfl) (by kernel_rfl) (by kernel_rfl) (fun _ _ _ _ h => h) rfl (ty := 54) rfl rfl 3 rfl Tryd.underlying54 rfl (by with_reducible exact ext_parts_s _ _ _ _) (by exact tW_s) ?_ | refine H.takeLoad (List.Sublist.refl _) 3 rfl (by kernel_rfl) (by kernel_rfl) (by kernel_rfl) (fun _ _ _ _ h => h) rfl (ty := 54) rfl rfl 3 rfl Tryd.underlying54 rfl (by with_reducible exact ext_rough_s _ _ _ _) (by exact tW_s) ?_ | refine H.takeLoad (List.Sublist.refl _) 3 rfl (by kernel_rfl) (by kernel_rfl) (by kernel_rfl) (fun _ _ _ _ h => h) rfl (ty := 54) rfl rfl 3 rfl Tryd.underlying54 rfl (by with_reducible exact ext_parts_f _ _ _ _) (by exact tW_s) ?_); (try simp only [Act.put, List.getElem_toArray, List.getElem_cons_zero, List.getElem_cons_succ, List.setIfInBounds_toArray, List.set_cons_zero, List.set_cons_succ]); refine H.takeRun (List.Sublist.refl _) 4 rfl (by kernel_rfl) (by kernel_rfl) (by kernel_rfl) (fun _ _ _ _ h => h) rfl (by intro w; go_simp; (try with_reducible rfl)) ?_; (try simp only [Act.put, List.getElem_toArray, List.getElem_cons_zero, List.getElem_cons_succ, List.setIfInBounds_toArray, List.set_cons_zero, List.set_cons_succ]); refine held_one (i := 5) (by kernel_rfl) rfl rfl ?_; unfold Oper.wp; go_simp; (first | (go_at_call 33; ((with_reducible refine (cO _).mono ?_); rintro e w ⟨rfl, hb⟩; replace H := H.call hb; clear hb)) | (go_at_call 38; ((with_reducible refine (cQ _).mono ?_); rintro e w ⟨rfl, hb⟩; replace H := H.call hb; clear hb))); refine H.next (List.Sublist.refl _) ?_; (try simp only [Act.put, List.getElem_toArray, List.getElem_cons_zero, List.getElem_cons_succ, List.setIfInBounds_toArray, List.set_cons_zero, List.set_cons_succ]); refine held_one (i := 6) (by kernel_rfl) rfl rfl ?_; unfold Oper.wp; go_simp; (first | (go_at_call 33; ((with_reducible refine (cO _).mono ?_); rintro e w ⟨rfl, hb⟩; replace H := H.call hb; clear hb)) | (go_at_call 38; ((with_reducible refine (cQ _).mono ?_); rintro e w ⟨rfl, hb⟩; replace H := H.call hb; clear hb))); refine H.next (List.Sublist.refl _) ?_; (try simp only [Act.put, List.getElem_toArray, List.getElem_cons_zero, List.getElem_cons_succ, List.setIfInBounds_toArray, List.set_cons_zero, List.set_cons_succ]); refine H.takeRun (List.Sublist.refl _) 7 rfl (by kernel_rfl) (by kernel_rfl) (by kernel_rfl) (fun _ _ _ _ h => h) rfl (by intro w; go_simp; (try with_reducible rfl)) ?_; (try simp only [Act.put, List.getElem_toArray, List.getElem_cons_zero, List.getElem_cons_succ, List.setIfInBounds_toArray, List.set_cons_zero, List.set_cons_succ]); refine H.takeRun (List.Sublist.refl _) 8 rfl (by kernel_rfl) (by kernel_rfl) (by kernel_rfl) (fun _ _ _ _ h => h) rfl (by intro w; go_simp; (try with_reducible rfl)) ?_; (try simp only [Act.put, List.getElem_toArray, List.getElem_cons_zero, List.getElem_cons_succ, List.setIfInBounds_toArray, List.set_cons_zero, List.set_cons_succ]); refine H.takeRun (List.Sublist.refl _) 9 rfl (by kernel_rfl) (by kernel_rfl) (by kernel_rfl) (fun _ _ _ _ h => h) rfl (by intro w; go_simp; (try with_reducible rfl)) ?_; (try simp only [Act.put, List.getElem_toArray, List.getElem_cons_zero, List.getElem_cons_succ, List.setIfInBounds_toArray, List.set_cons_zero, List.set_cons_succ]); refine wpAnyH_done (by kernel_rfl) ?_ _)
    | (go_at_call 34; ((with_reducible refine (cW _ (HT.out.below H.below)).mono ?_); rintro e w ⟨rfl, hb⟩; replace H := H.call hb; clear hb))
    | (go_at_call 35; ((with_reducible refine (cE _).mono ?_); rintro e w ⟨rfl, hb⟩; replace H := H.call hb; clear hb))
    | (go_at_call 36; ((with_reducible refine (cC _ (HT.out.below H.below)).mono ?_); rintro e w ⟨rfl, hb⟩; replace H := H.call hb; clear hb))
    | (go_at_call 37; ((with_reducible refine (cT _).mono ?_); rintro e w' ⟨rfl, rfl⟩))
    )
  all_goals (refine bodyPost_ret (results_ttt rfl) rfl ?_; exact ⟨rfl, H.below⟩)) : P := h
set_option maxHeartbeats 1600000 in
set_option maxRecDepth 100000 in
theorem tointConvert_kind (k f m a : Nat) (w : World) (hk : 4 ≤ k) :
    Calls Tryd.prog 11 #[.int .u8 k, .int .u8 f, .int .u8 m, BV a] w fun e w' => e = .returned (.tuple #[.int .u64 0, .int .u8 0, .int .i64 2]) ∧ Below w.heap.size w w' := by
  have H := Own.start w
  have k3 : 3 < (k : Int) := by omega
  go_enter Tryd.func11, Tryd.ntmps11
  exact walk11
set_option maxHeartbeats 1600000 in
set_option maxRecDepth 100000 in
theorem tointConvert_arg (k f m a n low high : Nat) (neg ex : Bool) (w : World) (hT : Tab w) (hk : k < 4) (cW : ∀ w, Tab w → Calls Tryd.prog 34 #[.int .u8 f, .int .u8 m, BV a] w fun e w' => e = .returned (.tuple #[.bool neg, W n, .bool ex, .int .i64 2]) ∧ Below w.heap.size w w') (cE : ∀ w, Calls Tryd.prog 35 #[.int .u8 k] w fun e w' => e = .returned (.tuple #[.int .u64 (low : Nat), .int .u64 (high : Nat)]) ∧ Below w.heap.size w w') :
    Calls Tryd.prog 11 #[.int .u8 k, .int .u8 f, .int .u8 m, BV a] w fun e w' => e = .returned (.tuple #[.int .u64 0, .int .u8 0, .int .i64 2]) ∧ Below w.heap.size w w' := by
  have H := Own.start w
  have HT := Lib.hid hT
  clear hT
  have k3 : ¬ 3 < (k : Int) := by omega
  go_enter Tryd.func11, Tryd.ntmps11
  exact walk11
set_option maxHeartbeats 1600000 in
set_option maxRecDepth 100000 in
theorem tointConvert_none_t (k f m a n low high : Nat) (c : Nat) (t er ce : Int) (neg ex : Bool) (w : World) (hT : Tab w) (hk : k < 4) (e2 : (er == 2) = false) (e0 : (er == 0) = false) (hc : (c : Int) < 4) (cW : ∀ w, Tab w → Calls Tryd.prog 34 #[.int .u8 f, .int .u8 m, BV a] w fun e w' => e = .returned (.tuple #[.bool neg, W n, .bool ex, .int .i64 er]) ∧ Below w.heap.size w w') (cE : ∀ w, Calls Tryd.prog 35 #[.int .u8 k] w fun e w' => e = .returned (.tuple #[.int .u64 (low : Nat), .int .u64 (high : Nat)]) ∧ Below w.heap.size w w') (cC : ∀ w, Tab w → Calls Tryd.prog 36 #[.int .u8 f, BV a] w fun e w' => e = .returned (.tuple #[.int .u8 (c : Nat), .int .i64 ce]) ∧ Below w.heap.size w w') (cT : ∀ w, Calls Tryd.prog 37 #[.int .u8 k, .bool true, .int .u64 (low : Nat)] w fun e w' => e = .returned (.int .u64 t) ∧ w = w') :
    Calls Tryd.prog 11 #[.int .u8 k, .int .u8 f, .int .u8 m, BV a] w fun e w' => e = .returned (.tuple #[.int .u64 t, .int .u8 16, .int .i64 0]) ∧ Below w.heap.size w w' := by
  have H := Own.start w
  have HT := Lib.hid hT
  clear hT
  have k3 : ¬ 3 < (k : Int) := by omega
  go_enter Tryd.func11, Tryd.ntmps11
  exact walk11
set_option maxHeartbeats 1600000 in
set_option maxRecDepth 100000 in
theorem tointConvert_none_f (k f m a n low high : Nat) (c : Nat) (t er ce : Int) (neg ex : Bool) (w : World) (hT : Tab w) (hk : k < 4) (e2 : (er == 2) = false) (e0 : (er == 0) = false) (hc : ¬ (c : Int) < 4) (cW : ∀ w, Tab w → Calls Tryd.prog 34 #[.int .u8 f, .int .u8 m, BV a] w fun e w' => e = .returned (.tuple #[.bool neg, W n, .bool ex, .int .i64 er]) ∧ Below w.heap.size w w') (cE : ∀ w, Calls Tryd.prog 35 #[.int .u8 k] w fun e w' => e = .returned (.tuple #[.int .u64 (low : Nat), .int .u64 (high : Nat)]) ∧ Below w.heap.size w w') (cC : ∀ w, Tab w → Calls Tryd.prog 36 #[.int .u8 f, BV a] w fun e w' => e = .returned (.tuple #[.int .u8 (c : Nat), .int .i64 ce]) ∧ Below w.heap.size w w') (cT : ∀ w, Calls Tryd.prog 37 #[.int .u8 k, .bool false, .int .u64 (high : Nat)] w fun e w' => e = .returned (.int .u64 t) ∧ w = w') :
    Calls Tryd.prog 11 #[.int .u8 k, .int .u8 f, .int .u8 m, BV a] w fun e w' => e = .returned (.tuple #[.int .u64 t, .int .u8 16, .int .i64 0]) ∧ Below w.heap.size w w' := by
  have H := Own.start w
  have HT := Lib.hid hT
  clear hT
  have k3 : ¬ 3 < (k : Int) := by omega
  go_enter Tryd.func11, Tryd.ntmps11
  exact walk11
set_option maxHeartbeats 1600000 in
set_option maxRecDepth 100000 in
theorem tointConvert_out_t (k f m a n low high : Nat) (t cm : Int) (ex : Bool) (w : World) (hT : Tab w) (hk : k < 4) (hcm : 0 < cm) (cW : ∀ w, Tab w → Calls Tryd.prog 34 #[.int .u8 f, .int .u8 m, BV a] w fun e w' => e = .returned (.tuple #[.bool true, W n, .bool ex, .int .i64 0]) ∧ Below w.heap.size w w') (cE : ∀ w, Calls Tryd.prog 35 #[.int .u8 k] w fun e w' => e = .returned (.tuple #[.int .u64 (low : Nat), .int .u64 (high : Nat)]) ∧ Below w.heap.size w w') (cO : ∀ w, Calls Tryd.prog 33 #[.int .u64 (low : Nat)] w fun e w' => e = .returned (W low) ∧ Below w.heap.size w w') (cQ : ∀ w, Calls Tryd.prog 38 #[W n, W low] w fun e w' => e = .returned (.int .i64 cm) ∧ Below w.heap.size w w') (cT : ∀ w, Calls Tryd.prog 37 #[.int .u8 k, .bool true, .int .u64 (low : Nat)] w fun e w' => e = .returned (.int .u64 t) ∧ w = w') :
    Calls Tryd.prog 11 #[.int .u8 k, .int .u8 f, .int .u8 m, BV a] w fun e w' => e = .returned (.tuple #[.int .u64 t, .int .u8 16, .int .i64 0]) ∧ Below w.heap.size w w' := by
  have H := Own.start w
  have HT := Lib.hid hT
  clear hT
  have k3 : ¬ 3 < (k : Int) := by omega
  have hcm2 : decide (0 < cm) = true := by simpa using hcm
  go_enter Tryd.func11, Tryd.ntmps11
  exact walk11
set_option maxHeartbeats 1600000 in
set_option maxRecDepth 100000 in
theorem tointConvert_in_tt (k f m a n low high : Nat) (t cm : Int) (w : World) (hT : Tab w) (hk : k < 4) (hcm : ¬ 0 < cm) (cW : ∀ w, Tab w → Calls Tryd.prog 34 #[.int .u8 f, .int .u8 m, BV a] w fun e w' => e = .returned (.tuple #[.bool true, W n, .bool true, .int .i64 0]) ∧ Below w.heap.size w w') (cE : ∀ w, Calls Tryd.prog 35 #[.int .u8 k] w fun e w' => e = .returned (.tuple #[.int .u64 (low : Nat), .int .u64 (high : Nat)]) ∧ Below w.heap.size w w') (cO : ∀ w, Calls Tryd.prog 33 #[.int .u64 (low : Nat)] w fun e w' => e = .returned (W low) ∧ Below w.heap.size w w') (cQ : ∀ w, Calls Tryd.prog 38 #[W n, W low] w fun e w' => e = .returned (.int .i64 cm) ∧ Below w.heap.size w w') (cT : ∀ w, Calls Tryd.prog 37 #[.int .u8 k, .bool true, .int .u64 (limb n 0)] w fun e w' => e = .returned (.int .u64 t) ∧ w = w') :
    Calls Tryd.prog 11 #[.int .u8 k, .int .u8 f, .int .u8 m, BV a] w fun e w' => e = .returned (.tuple #[.int .u64 t, .int .u8 0, .int .i64 0]) ∧ Below w.heap.size w w' := by
  have H := Own.start w
  have HT := Lib.hid hT
  clear hT
  have k3 : ¬ 3 < (k : Int) := by omega
  have hcm2 : decide (0 < cm) = false := by simpa using hcm
  go_enter Tryd.func11, Tryd.ntmps11
  exact walk11
set_option maxHeartbeats 1600000 in
set_option maxRecDepth 100000 in
theorem tointConvert_in_tf (k f m a n low high : Nat) (t cm : Int) (w : World) (hT : Tab w) (hk : k < 4) (hcm : ¬ 0 < cm) (cW : ∀ w, Tab w → Calls Tryd.prog 34 #[.int .u8 f, .int .u8 m, BV a] w fun e w' => e = .returned (.tuple #[.bool true, W n, .bool false, .int .i64 0]) ∧ Below w.heap.size w w') (cE : ∀ w, Calls Tryd.prog 35 #[.int .u8 k] w fun e w' => e = .returned (.tuple #[.int .u64 (low : Nat), .int .u64 (high : Nat)]) ∧ Below w.heap.size w w') (cO : ∀ w, Calls Tryd.prog 33 #[.int .u64 (low : Nat)] w fun e w' => e = .returned (W low) ∧ Below w.heap.size w w') (cQ : ∀ w, Calls Tryd.prog 38 #[W n, W low] w fun e w' => e = .returned (.int .i64 cm) ∧ Below w.heap.size w w') (cT : ∀ w, Calls Tryd.prog 37 #[.int .u8 k, .bool true, .int .u64 (limb n 0)] w fun e w' => e = .returned (.int .u64 t) ∧ w = w') :
    Calls Tryd.prog 11 #[.int .u8 k, .int .u8 f, .int .u8 m, BV a] w fun e w' => e = .returned (.tuple #[.int .u64 t, .int .u8 1, .int .i64 0]) ∧ Below w.heap.size w w' := by
  have H := Own.start w
  have HT := Lib.hid hT
  clear hT
  have k3 : ¬ 3 < (k : Int) := by omega
  have hcm2 : decide (0 < cm) = false := by simpa using hcm
  go_enter Tryd.func11, Tryd.ntmps11
  exact walk11
set_option maxHeartbeats 1600000 in
set_option maxRecDepth 100000 in
theorem tointConvert_out_f (k f m a n low high : Nat) (t cm : Int) (ex : Bool) (w : World) (hT : Tab w) (hk : k < 4) (hcm : 0 < cm) (cW : ∀ w, Tab w → Calls Tryd.prog 34 #[.int .u8 f, .int .u8 m, BV a] w fun e w' => e = .returned (.tuple #[.bool false, W n, .bool ex, .int .i64 0]) ∧ Below w.heap.size w w') (cE : ∀ w, Calls Tryd.prog 35 #[.int .u8 k] w fun e w' => e = .returned (.tuple #[.int .u64 (low : Nat), .int .u64 (high : Nat)]) ∧ Below w.heap.size w w') (cO : ∀ w, Calls Tryd.prog 33 #[.int .u64 (high : Nat)] w fun e w' => e = .returned (W high) ∧ Below w.heap.size w w') (cQ : ∀ w, Calls Tryd.prog 38 #[W n, W high] w fun e w' => e = .returned (.int .i64 cm) ∧ Below w.heap.size w w') (cT : ∀ w, Calls Tryd.prog 37 #[.int .u8 k, .bool false, .int .u64 (high : Nat)] w fun e w' => e = .returned (.int .u64 t) ∧ w = w') :
    Calls Tryd.prog 11 #[.int .u8 k, .int .u8 f, .int .u8 m, BV a] w fun e w' => e = .returned (.tuple #[.int .u64 t, .int .u8 16, .int .i64 0]) ∧ Below w.heap.size w w' := by
  have H := Own.start w
  have HT := Lib.hid hT
  clear hT
  have k3 : ¬ 3 < (k : Int) := by omega
  have hcm2 : decide (0 < cm) = true := by simpa using hcm
  go_enter Tryd.func11, Tryd.ntmps11
  exact walk11
set_option maxHeartbeats 1600000 in
set_option maxRecDepth 100000 in
theorem tointConvert_in_ft (k f m a n low high : Nat) (t cm : Int) (w : World) (hT : Tab w) (hk : k < 4) (hcm : ¬ 0 < cm) (cW : ∀ w, Tab w → Calls Tryd.prog 34 #[.int .u8 f, .int .u8 m, BV a] w fun e w' => e = .returned (.tuple #[.bool false, W n, .bool true, .int .i64 0]) ∧ Below w.heap.size w w') (cE : ∀ w, Calls Tryd.prog 35 #[.int .u8 k] w fun e w' => e = .returned (.tuple #[.int .u64 (low : Nat), .int .u64 (high : Nat)]) ∧ Below w.heap.size w w') (cO : ∀ w, Calls Tryd.prog 33 #[.int .u64 (high : Nat)] w fun e w' => e = .returned (W high) ∧ Below w.heap.size w w') (cQ : ∀ w, Calls Tryd.prog 38 #[W n, W high] w fun e w' => e = .returned (.int .i64 cm) ∧ Below w.heap.size w w') (cT : ∀ w, Calls Tryd.prog 37 #[.int .u8 k, .bool false, .int .u64 (limb n 0)] w fun e w' => e = .returned (.int .u64 t) ∧ w = w') :
    Calls Tryd.prog 11 #[.int .u8 k, .int .u8 f, .int .u8 m, BV a] w fun e w' => e = .returned (.tuple #[.int .u64 t, .int .u8 0, .int .i64 0]) ∧ Below w.heap.size w w' := by
  have H := Own.start w
  have HT := Lib.hid hT
  clear hT
  have k3 : ¬ 3 < (k : Int) := by omega
  have hcm2 : decide (0 < cm) = false := by simpa using hcm
  go_enter Tryd.func11, Tryd.ntmps11
  exact walk11
set_option maxHeartbeats 1600000 in
set_option maxRecDepth 100000 in
theorem tointConvert_in_ff (k f m a n low high : Nat) (t cm : Int) (w : World) (hT : Tab w) (hk : k < 4) (hcm : ¬ 0 < cm) (cW : ∀ w, Tab w → Calls Tryd.prog 34 #[.int .u8 f, .int .u8 m, BV a] w fun e w' => e = .returned (.tuple #[.bool false, W n, .bool false, .int .i64 0]) ∧ Below w.heap.size w w') (cE : ∀ w, Calls Tryd.prog 35 #[.int .u8 k] w fun e w' => e = .returned (.tuple #[.int .u64 (low : Nat), .int .u64 (high : Nat)]) ∧ Below w.heap.size w w') (cO : ∀ w, Calls Tryd.prog 33 #[.int .u64 (high : Nat)] w fun e w' => e = .returned (W high) ∧ Below w.heap.size w w') (cQ : ∀ w, Calls Tryd.prog 38 #[W n, W high] w fun e w' => e = .returned (.int .i64 cm) ∧ Below w.heap.size w w') (cT : ∀ w, Calls Tryd.prog 37 #[.int .u8 k, .bool false, .int .u64 (limb n 0)] w fun e w' => e = .returned (.int .u64 t) ∧ w = w') :
    Calls Tryd.prog 11 #[.int .u8 k, .int .u8 f, .int .u8 m, BV a] w fun e w' => e = .returned (.tuple #[.int .u64 t, .int .u8 1, .int .i64 0]) ∧ Below w.heap.size w w' := by
  have H := Own.start w
  have HT := Lib.hid hT
  clear hT
  have k3 : ¬ 3 < (k : Int) := by omega
  have hcm2 : decide (0 < cm) = false := by simpa using hcm
  go_enter Tryd.func11, Tryd.ntmps11
  exact walk11
end Go.Proofs.YtdcgcjmajacgiaaDoor

namespace Go.Proofs.YtdcgcjmajacgiaaDoor
open Go.RowKit
theorem ret_conv {x x' fl fl' : Nat} {d d' : Int} {e : Ending} {P : Prop} (h1 : x = x') (h2 : fl = fl') (h3 : d = d') (k : e = .returned (.tuple #[.int .u64 (x : Nat), .int .u8 (fl : Nat), .int .i64 d]) ∧ P) :
    e = .returned (.tuple #[.int .u64 (x' : Nat), .int .u8 (fl' : Nat), .int .i64 d']) ∧ P := by subst h1 h2 h3; exact k
theorem cmpN_pos (a b : Nat) : 0 < cmpN a b ↔ b < a := by
  unfold cmpN
  split
  · constructor <;> intro h <;> omega
  · split
    · constructor <;> intro h <;> omega
    · constructor <;> intro h <;> omega
theorem lowK_lt (k : Nat) : lowK k < 18446744073709551616 ∧ highK k < 18446744073709551616 := by
  match k with
  | 0 => decide
  | 1 => decide
  | 2 => decide
  | k + 3 => exact ⟨by show (0 : Nat) < _; decide, by show (18446744073709551615 : Nat) < _; decide⟩
theorem lt_top64 (x : Nat) (h : x < 18446744073709551616) : x < top6 := lt_top113 x (by omega)
theorem limb_zero_mod (n : Nat) : limb n 0 = ((n % 18446744073709551616 : Nat) : Int) := by unfold limb limbN; rw [Nat.mul_zero, Nat.pow_zero, Nat.div_one]
theorem wholeN_lt (f m a : Nat) (h : wholeE f m a = 0) : wholeN f m a < top6 := by
  unfold wholeN; rw [decide_eq_true h]
  show (wholeG f m a).1 < top6
  unfold wholeE at h
  rcases Nat.lt_or_ge (wholeG f m a).1 top6 with hl | hg
  · exact hl
  · rw [decide_eq_true hg] at h
    exfalso; revert h
    cases fitsB f a && decide (m < 5) <;> cases noFin (clsN f a) <;> simp
theorem tointConvert_any (k f m a : Nat) (w : World) (hk8 : k < 256) (hf8 : f < 256) (hm : m < 256) (ha : a < 2 ^ (64 * 2)) (hT : Tab w) :
    Calls Tryd.prog 11 #[.int .u8 k, .int .u8 f, .int .u8 m, BV a] w fun e w' => e = .returned (.tuple #[.int .u64 ((convN k f m a).1 : Nat), .int .u8 ((convN k f m a).2.1 : Nat), .int .i64 (convN k f m a).2.2]) ∧ Below w.heap.size w w' := by
  by_cases hk : k < 4
  · have cE := fun w => tointEnds_any k w hk
    have cW := fun w hT => tointWhole_any f m a w hm ha hT
    have hl := lowK_lt k
    by_cases h2 : wholeE f m a = 2
    · have hok : convOk k f m a = false := by unfold convOk; rw [(wholeE_two f m a).1 h2, Bool.and_false]
      rw [h2] at cW
      refine (tointConvert_arg k f m a _ _ _ _ _ w hT hk cW cE).mono fun e w' k => ret_conv (x := 0) (fl := 0) ?_ ?_ ?_ k
      · unfold convN; rw [hok]; rfl
      · unfold convN; rw [hok]; rfl
      · unfold convN; rw [hok]; rfl
    · have hfm : (fitsB f a && decide (m < 5)) = true := by
        cases h : fitsB f a && decide (m < 5)
        · exact absurd ((wholeE_two f m a).2 h) h2
        · rfl
      have hok : convOk k f m a = true := by unfold convOk; rw [hfm, decide_eq_true hk]; rfl
      have hfit : fitsB f a = true := by cases h : fitsB f a; rw [h] at hfm; cases hfm; rfl
      have cR : convN k f m a = ((convR k f m a).1, (convR k f m a).2, 0) := by unfold convN; rw [hok]; rfl
      rw [cR]
      by_cases h0 : wholeE f m a = 0
      · have hn := wholeN_lt f m a h0
        rw [h0] at cW
        cases hneg : wholeNeg f m a
        · rw [hneg] at cW
          have cO := fun w => wideOf_any (highK k) w hl.2
          have cQ := fun w => wideCmp_any (wholeN f m a) (highK k) w hn (lt_top64 _ hl.2)
          by_cases hout : highK k < wholeN f m a
          · have hR : convR k f m a = (toldN k false (highK k), 16) := by unfold convR; rw [if_pos h0, hneg, if_neg (by simp), if_pos ⟨rfl, hout⟩]
            have cT := fun w => tointTold_any k (highK k) false w hk hl.2
            exact (tointConvert_out_f k f m a _ _ _ _ _ _ w hT hk ((cmpN_pos _ _).2 hout) cW cE cO cQ cT).mono fun e w' k => ret_conv (fl := 16) (by rw [hR]) (by rw [hR]) rfl k
          · have hR : convR k f m a = (toldN k false (wholeN f m a % 18446744073709551616), cond (wholeX f m a) 0 1) := by unfold convR; rw [if_pos h0, hneg, if_neg (by simp), if_neg (by simp; omega)]
            have cT := fun w => tointTold_any k (wholeN f m a % 18446744073709551616) false w hk (Nat.mod_lt _ (by decide))
            rw [← limb_zero_mod] at cT
            cases hx : wholeX f m a
            · rw [hx] at cW hR
              exact (tointConvert_in_ff k f m a _ _ _ _ _ w hT hk (fun h => hout ((cmpN_pos _ _).1 h)) cW cE cO cQ cT).mono fun e w' k => ret_conv (fl := 1) (by rw [hR]) (by rw [hR]; rfl) rfl k
            · rw [hx] at cW hR
              exact (tointConvert_in_ft k f m a _ _ _ _ _ w hT hk (fun h => hout ((cmpN_pos _ _).1 h)) cW cE cO cQ cT).mono fun e w' k => ret_conv (fl := 0) (by rw [hR]) (by rw [hR]; rfl) rfl k
        · rw [hneg] at cW
          have cO := fun w => wideOf_any (lowK k) w hl.1
          have cQ := fun w => wideCmp_any (wholeN f m a) (lowK k) w hn (lt_top64 _ hl.1)
          by_cases hout : lowK k < wholeN f m a
          · have hR : convR k f m a = (toldN k true (lowK k), 16) := by unfold convR; rw [if_pos h0, hneg, if_pos ⟨rfl, hout⟩]
            have cT := fun w => tointTold_any k (lowK k) true w hk hl.1
            exact (tointConvert_out_t k f m a _ _ _ _ _ _ w hT hk ((cmpN_pos _ _).2 hout) cW cE cO cQ cT).mono fun e w' k => ret_conv (fl := 16) (by rw [hR]) (by rw [hR]) rfl k
          · have hR : convR k f m a = (toldN k true (wholeN f m a % 18446744073709551616), cond (wholeX f m a) 0 1) := by unfold convR; rw [if_pos h0, hneg, if_neg (by simp; omega), if_neg (by simp)]
            have cT := fun w => tointTold_any k (wholeN f m a % 18446744073709551616) true w hk (Nat.mod_lt _ (by decide))
            rw [← limb_zero_mod] at cT
            cases hx : wholeX f m a
            · rw [hx] at cW hR
              exact (tointConvert_in_tf k f m a _ _ _ _ _ w hT hk (fun h => hout ((cmpN_pos _ _).1 h)) cW cE cO cQ cT).mono fun e w' k => ret_conv (fl := 1) (by rw [hR]) (by rw [hR]; rfl) rfl k
            · rw [hx] at cW hR
              exact (tointConvert_in_tt k f m a _ _ _ _ _ w hT hk (fun h => hout ((cmpN_pos _ _).1 h)) cW cE cO cQ cT).mono fun e w' k => ret_conv (fl := 0) (by rw [hR]) (by rw [hR]; rfl) rfl k
      · have cC := fun w hT => kindClass_any f a w hf8 ha hT
        rw [hfit] at cC
        have b2 : (wholeE f m a == 2) = false := by simpa using h2
        have b0 : (wholeE f m a == 0) = false := by simpa using h0
        cases hb : belowN4 (clsN f a)
        · have hR : convR k f m a = (toldN k false (highK k), 16) := by unfold convR; rw [if_neg h0, hb]; rfl
          have cT := fun w => tointTold_any k (highK k) false w hk hl.2
          have hc : ¬ ((cond true (clsN f a) 0 : Nat) : Int) < 4 := by unfold belowN4 at hb; have := of_decide_eq_false hb; show ¬ ((clsN f a : Nat) : Int) < 4; omega
          exact (tointConvert_none_f k f m a _ _ _ _ _ _ _ _ _ w hT hk b2 b0 hc cW cE cC cT).mono fun e w' k => ret_conv (fl := 16) (by rw [hR]) (by rw [hR]) rfl k
        · have hR : convR k f m a = (toldN k true (lowK k), 16) := by unfold convR; rw [if_neg h0, hb]; rfl
          have cT := fun w => tointTold_any k (lowK k) true w hk hl.1
          have hc : ((cond true (clsN f a) 0 : Nat) : Int) < 4 := by unfold belowN4 at hb; have := of_decide_eq_true hb; show ((clsN f a : Nat) : Int) < 4; omega
          exact (tointConvert_none_t k f m a _ _ _ _ _ _ _ _ _ w hT hk b2 b0 hc cW cE cC cT).mono fun e w' k => ret_conv (fl := 16) (by rw [hR]) (by rw [hR]) rfl k
  · have hok : convOk k f m a = false := by unfold convOk; rw [decide_eq_false hk]; rfl
    refine (tointConvert_kind k f m a w (by omega)).mono fun e w' k => ret_conv (x := 0) (fl := 0) ?_ ?_ ?_ k
    · unfold convN; rw [hok]; rfl
    · unfold convN; rw [hok]; rfl
    · unfold convN; rw [hok]; rfl
end Go.Proofs.YtdcgcjmajacgiaaDoor

namespace Go.Proofs.YtdcgcjmajacgiaaDoor
open Go.RowKit
theorem wrap64_nat (x : Nat) (hx : x < 18446744073709551616) : wrap64 (x : Int) = if 9223372036854775808 ≤ x then (x : Int) - 18446744073709551616 else (x : Int) := by
  unfold wrap64; split <;> omega
theorem wrap32_nat (y : Int) (h0 : 0 ≤ y) (hy : y < 4294967296) : wrap64 (wrap32 y) = if 2147483648 ≤ y then y - 4294967296 else y := by
  unfold wrap64 wrap32; split <;> omega
theorem fiSigned_any (s : Int) (w : World) (h1 : -9223372036854775808 ≤ s) (h2 : s < 9223372036854775808) :
    Calls Tryd.prog 81 #[.int .i64 s] w fun e w' => e = .returned (.tuple #[.bool (decide (s < 0)), .int .u64 (s.natAbs : Nat)]) ∧ Below w.heap.size w w' := by
  by_cases h : s < 0
  · rw [decide_eq_true h]
    exact fiSigned_neg s _ w h1 h2 h (by rw [IntKind.wrap_u64, IntKind.wrap_u64]; omega)
  · rw [decide_eq_false h, show ((s.natAbs : Nat) : Int) = s by omega]
    exact fiSigned_pos s w h1 h2 h
theorem fiNumber_any (k x : Nat) (w : World) (hx : x < 18446744073709551616) :
    Calls Tryd.prog 31 #[.int .u8 k, .int .u64 x] w fun e w' => e = .returned (.tuple #[.bool (cond (decide (k < 4)) (numNeg k x) false), .int .u64 (cond (decide (k < 4)) (numMag k x) 0 : Nat), .int .i64 (cond (decide (k < 4)) 0 2)]) ∧ Below w.heap.size w w' := by
  have hm := Nat.mod_lt x (show 0 < 4294967296 by decide)
  by_cases hk : k < 4
  · rw [decide_eq_true hk]
    simp only [cond_true]
    have : k = 0 ∨ k = 1 ∨ k = 2 ∨ k = 3 := by omega
    rcases this with rfl | rfl | rfl | rfl
    · have hs := wrap32_nat ((x : Int) % 4294967296) (by omega) (by omega)
      have c := fun w => fiSigned_any (wrap64 (wrap32 ((x : Int) % 4294967296))) w (by rw [hs]; split <;> omega) (by rw [hs]; split <;> omega)
      refine (fiNumber_k0 x w _ _ (fun w => fiClo1 x w hx _ _ c)).mono ?_
      rintro e w' ⟨rfl, hb⟩
      refine ⟨?_, hb⟩
      rw [hs]
      unfold numNeg numMag
      by_cases h : 2147483648 ≤ x % 4294967296
      · rw [if_pos (by omega), if_pos rfl, if_pos rfl, if_pos h, decide_eq_true h, decide_eq_true (by omega), show ((x : Int) % 4294967296 - 4294967296).natAbs = 4294967296 - x % 4294967296 by omega]
      · rw [if_neg (by omega), if_pos rfl, if_pos rfl, if_neg h, decide_eq_false h, decide_eq_false (by omega), show ((x : Int) % 4294967296).natAbs = x % 4294967296 by omega]
    · refine (fiNumber_k1 x w _ _ (fun w => fiClo2 x w hx)).mono ?_
      rintro e w' ⟨rfl, hb⟩
      exact ⟨rfl, hb⟩
    · have hs := wrap64_nat x hx
      have c := fun w => fiSigned_any (wrap64 (x : Int)) w (by rw [hs]; split <;> omega) (by rw [hs]; split <;> omega)
      refine (fiNumber_k2 x w _ _ (fun w => fiClo3 x w hx _ _ c)).mono ?_
      rintro e w' ⟨rfl, hb⟩
      refine ⟨?_, hb⟩
      rw [hs]
      unfold numNeg numMag
      by_cases h : 9223372036854775808 ≤ x
      · rw [if_pos h, if_neg (by decide), if_pos rfl, if_neg (by decide), if_neg (by decide), if_pos rfl, if_pos h, decide_eq_true h, decide_eq_true (by omega), show ((x : Int) - 18446744073709551616).natAbs = 18446744073709551616 - x by omega]
      · rw [if_neg h, if_neg (by decide), if_pos rfl, if_neg (by decide), if_neg (by decide), if_pos rfl, if_neg h, decide_eq_false h, decide_eq_false (by omega), Int.natAbs_natCast]
    · refine (fiNumber_k3 x w _ _ (fun w => fiClo4 x w hx)).mono ?_
      rintro e w' ⟨rfl, hb⟩
      exact ⟨rfl, hb⟩
  · rw [decide_eq_false hk]
    exact fiNumber_no k x w (beq_eq_false_iff_ne.2 (by omega)) (beq_eq_false_iff_ne.2 (by omega)) (beq_eq_false_iff_ne.2 (by omega)) (beq_eq_false_iff_ne.2 (by omega))
set_option maxRecDepth 100000 in
theorem walk8 {P : Prop} (h : P := by
  go_wp2_with (first
    | ((with_reducible show wpList _ _ _ (⟨_, .box _ _, _, _, _, _⟩ :: _) _ _); refine H.box rfl rfl (cells_agg _) ?_; (intro g w H; simp only [Act.put, List.setIfInBounds_toArray, List.set_cons_zero, List.set_cons_succ]))
    | ((with_reducible show wpList _ _ _ (⟨_, .alloc 27, _, _, _, _⟩ :: _) _ _); refine H.mk0 rfl rB rfl ?_; (intro g w H; simp only [Act.put, List.setIfInBounds_toArray, List.set_cons_zero, List.set_cons_succ]))
    | ((with_reducible show wpList _ _ _ (⟨_, .load 27 _, _, _, _, _⟩ :: _) _ _); refine H.ld rfl rB rfl rfl (by repeat (first | with_reducible exact List.mem_cons_self | apply List.mem_cons_of_mem)) (by first | with_reducible exact ext_2 _ _) (by rfl) ?_; simp only [Act.put, List.setIfInBounds_toArray, List.set_cons_zero, List.set_cons_succ])
    | ((with_reducible show wpList _ _ _ (⟨_, .store 27 _ _, _, _, _, _⟩ :: _) _ _); refine H.st rfl rB rfl rfl (cells_agg _) (by repeat (first | with_reducible exact Upd.head _ | apply Upd.tail)) (set_bits _ _ _ _) (by rfl) (by exact one_of rfl) (by first | exact ble_le rfl | (change _ + 1 ≤ 12; omega) | (change _ + 1 ≤ 6; omega)) ?_; (intro w H; simp only [Act.put]))
    | ((with_reducible show wpList _ _ _ (⟨_, .load 54 _, _, _, _, _⟩ :: _) _ _); refine H.ld rfl rW rfl rfl (by repeat (first | with_reducible exact List.mem_cons_self | apply List.mem_cons_of_mem)) (by first | with_reducible exact ext_limbs _ | with_reducible exact ext_parts_s _ _ _ _ | with_reducible exact ext_rough_s _ _ _ _ | with_reducible exact ext_parts_f _ _ _ _) (by rfl) ?_; simp only [Act.put, List.setIfInBounds_toArray, List.set_cons_zero, List.set_cons_succ])
    | ((with_reducible show wpList _ _ _ (⟨_, .build 57 _, _, _, _, _⟩ :: _) _ _); refine wp_bld2 rfl rfl rfl rfl (rough_ns _ _ ) ?_; simp only [Act.put, List.setIfInBounds_toArray, List.set_cons_zero, List.set_cons_succ])
    | (go_at_call 31; ((with_reducible refine (cN _).mono ?_); rintro e w ⟨rfl, hb⟩; replace H := H.call hb; clear hb))
    | (go_at_call 33; ((with_reducible refine (cO _).mono ?_); rintro e w ⟨rfl, hb⟩; replace H := H.call hb; clear hb))
    | (go_at_call 32; ((with_reducible refine (cK _ (HT.out.below H.below)).mono ?_); rintro e w ⟨rfl, hb⟩; replace H := H.call hb; clear hb))
    )
  all_goals (first | (refine bodyPost_ret (results_ctt rfl rfl (H.res rB (by repeat (first | with_reducible exact List.mem_cons_self | apply List.mem_cons_of_mem)) (by first | with_reducible exact ext_2 _ _) (by rfl))) rfl ⟨?_, H.below⟩; exact by rw [show BV 0 = .agg #[.int .u64 (limb 0 1), .int .u64 (limb 0 0)] from rfl, limb_zero, limb_zero]; rfl) | (refine bodyPost_ret (results_ctt rfl rfl (H.res rB (by repeat (first | with_reducible exact List.mem_cons_self | apply List.mem_cons_of_mem)) (by first | with_reducible exact ext_2 _ _) (by rfl))) rfl ⟨?_, H.below⟩; exact rfl))) : P := h
set_option maxHeartbeats 1600000 in
set_option maxRecDepth 100000 in
theorem fiConvert_no (f k m x : Nat) (w : World) (hT : Tab w) (cN : ∀ w, Calls Tryd.prog 31 #[.int .u8 k, .int .u64 x] w fun e w' => e = .returned (.tuple #[.bool false, .int .u64 0, .int .i64 2]) ∧ Below w.heap.size w w')  :
    Calls Tryd.prog 8 #[.int .u8 f, .int .u8 k, .int .u8 m, .int .u64 x] w fun e w' => e = .returned (.tuple #[BV 0, .int .u8 0, .int .i64 2]) ∧ Below w.heap.size w w' := by
  have H := Own.start w
  have HT := Lib.hid hT
  clear hT
  go_enter Tryd.func8, Tryd.ntmps8
  exact walk8
set_option maxHeartbeats 1600000 in
set_option maxRecDepth 100000 in
theorem fiConvert_ok (f k m x : Nat) (w : World) (hT : Tab w) (ng : Bool) (n r : Nat) (fl er : Int) (cN : ∀ w, Calls Tryd.prog 31 #[.int .u8 k, .int .u64 x] w fun e w' => e = .returned (.tuple #[.bool ng, .int .u64 (n : Nat), .int .i64 0]) ∧ Below w.heap.size w w') (cO : ∀ w, Calls Tryd.prog 33 #[.int .u64 (n : Nat)] w fun e w' => e = .returned (W n) ∧ Below w.heap.size w w') (cK : ∀ w, Tab w → Calls Tryd.prog 32 #[.int .u8 f, .int .u8 m, RV ng n 0 false] w fun e w' => e = .returned (.tuple #[BV r, .int .u8 fl, .int .i64 er]) ∧ Below w.heap.size w w') :
    Calls Tryd.prog 8 #[.int .u8 f, .int .u8 k, .int .u8 m, .int .u64 x] w fun e w' => e = .returned (.tuple #[BV r, .int .u8 fl, .int .i64 er]) ∧ Below w.heap.size w w' := by
  have H := Own.start w
  have HT := Lib.hid hT
  clear hT
  go_enter Tryd.func8, Tryd.ntmps8
  exact walk8
theorem fiConvert_any (f k m x : Nat) (w : World) (hf : f < 256) (hk : k < 256) (hm : m < 256) (hx : x < 18446744073709551616) (hT : Tab w) :
    Calls Tryd.prog 8 #[.int .u8 f, .int .u8 k, .int .u8 m, .int .u64 x] w fun e w' => e = .returned (.tuple #[BV (fromN f k m x).1, .int .u8 ((fromN f k m x).2.1 : Nat), .int .i64 (fromN f k m x).2.2]) ∧ Below w.heap.size w w' := by
  have cN := fun w => fiNumber_any k x w hx
  unfold fromN
  by_cases h4 : k < 4
  · rw [decide_eq_true h4] at cN
    rw [if_pos h4]
    have hn := num_lt k x hx
    have hn1 : numMag k x < 18446744073709551616 := hn
    have hn2 : numMag k x < top6 := lt_113_6 _ 64 (by decide) hn
    exact fiConvert_ok f k m x w hT _ _ _ _ _ cN (fun w => wideOf_any _ w hn1) (fun w hT => roundPack_any f m (numMag k x) 0 (numNeg k x) false w hT hf hm hn2)
  · rw [decide_eq_false h4] at cN
    rw [if_neg h4]
    exact fiConvert_no f k m x w hT cN
set_option maxHeartbeats 1600000 in
set_option maxRecDepth 100000 in
theorem fiAlive_w (w : World) (hT : Tab w) (cA : ∀ w, Tab w → Calls Tryd.prog 8 #[.int .u8 2, .int .u8 0, .int .u8 0, .int .u64 18446744073709551615] w fun e w' => e = .returned (.tuple #[.agg #[.int .u64 0, .int .u64 48128], .int .u8 0, .int .i64 0]) ∧ Below w.heap.size w w') :
    Calls Tryd.prog 10 #[] w fun e w' => e = .returned (.bool true) ∧ Below w.heap.size w w' := by
  have H := Own.start w
  have HT := Lib.hid hT
  clear hT
  go_enter Tryd.func10, Tryd.ntmps10
  go_wp2_with (first
    | ((with_reducible show wpList _ _ _ (⟨_, .box _ _, _, _, _, _⟩ :: _) _ _); refine H.box rfl rfl (cells_agg _) ?_; (intro g w H; simp only [Act.put, List.setIfInBounds_toArray, List.set_cons_zero, List.set_cons_succ]))
    | ((with_reducible show wpList _ _ _ (⟨_, .alloc 27, _, _, _, _⟩ :: _) _ _); refine H.mk0 rfl rB rfl ?_; (intro g w H; simp only [Act.put, List.setIfInBounds_toArray, List.set_cons_zero, List.set_cons_succ]))
    | ((with_reducible show wpList _ _ _ (⟨_, .load 27 _, _, _, _, _⟩ :: _) _ _); refine H.ld rfl rB rfl rfl (by repeat (first | with_reducible exact List.mem_cons_self | apply List.mem_cons_of_mem)) (by first | with_reducible exact ext_2 _ _) (by rfl) ?_; simp only [Act.put, List.setIfInBounds_toArray, List.set_cons_zero, List.set_cons_succ])
    | ((with_reducible show wpList _ _ _ (⟨_, .store 27 _ _, _, _, _, _⟩ :: _) _ _); refine H.st rfl rB rfl rfl (cells_agg _) (by repeat (first | with_reducible exact Upd.head _ | apply Upd.tail)) (set_bits _ _ _ _) (by rfl) (by exact one_of rfl) (by first | exact ble_le rfl | (change _ + 1 ≤ 12; omega) | (change _ + 1 ≤ 6; omega)) ?_; (intro w H; simp only [Act.put]))
    | (go_at_call 8; ((with_reducible refine (cA _ (HT.out.below H.below)).mono ?_); rintro e w ⟨rfl, hb⟩; replace H := H.call hb; clear hb))
    )
  all_goals
    go_ret
    exact ⟨rfl, H.below⟩
theorem fiAlive_any (w : World) (hT : Tab w) : Calls Tryd.prog 10 #[] w fun e w' => e = .returned (.bool true) ∧ Below w.heap.size w w' := by
  refine fiAlive_w w hT fun w hT => ?_
  have := fiConvert_any 2 0 0 18446744073709551615 w (by decide) (by decide) (by decide) (by decide) hT
  rw [show fromN 2 0 0 18446744073709551615 = (48128, 0, 0) by decide +kernel] at this
  exact this
set_option maxRecDepth 100000 in
theorem walk3 {P : Prop} (h : P := by
  go_wp2_with (first
    | ((with_reducible show wpList _ _ _ (⟨_, .box _ _, _, _, _, _⟩ :: _) _ _); refine H.box rfl rfl (cells_agg _) ?_; (intro g w H; simp only [Act.put, List.setIfInBounds_toArray, List.set_cons_zero, List.set_cons_succ]))
    | ((with_reducible show wpList _ _ _ (⟨_, .alloc 27, _, _, _, _⟩ :: _) _ _); refine H.mk0 rfl rB rfl ?_; (intro g w H; simp only [Act.put, List.setIfInBounds_toArray, List.set_cons_zero, List.set_cons_succ]))
    | ((with_reducible show wpList _ _ _ (⟨_, .load 27 _, _, _, _, _⟩ :: _) _ _); refine H.ld rfl rB rfl rfl (by repeat (first | with_reducible exact List.mem_cons_self | apply List.mem_cons_of_mem)) (by first | with_reducible exact ext_2 _ _) (by rfl) ?_; simp only [Act.put, List.setIfInBounds_toArray, List.set_cons_zero, List.set_cons_succ])
    | ((with_reducible show wpList _ _ _ (⟨_, .store 27 _ _, _, _, _, _⟩ :: _) _ _); refine H.st rfl rB rfl rfl (cells_agg _) (by repeat (first | with_reducible exact Upd.head _ | apply Upd.tail)) (set_bits _ _ _ _) (by rfl) (by exact one_of rfl) (by first | exact ble_le rfl | (change _ + 1 ≤ 12; omega) | (change _ + 1 ≤ 6; omega)) ?_; (intro w H; simp only [Act.put]))
    | (go_at_call 8; ((with_reducible refine (cA _ (HT.out.below H.below)).mono ?_); rintro e w ⟨rfl, hb⟩; replace H := H.call hb; clear hb))
    | (go_at_call 9; ((with_reducible refine (cM _).mono ?_); rintro e w' ⟨rfl, rfl⟩))
    | (go_at_call 10; ((with_reducible refine (fiAlive_any _ (HT.out.below H.below)).mono ?_); rintro e w ⟨rfl, hb⟩; replace H := H.call hb; clear hb))
    | (go_at_call 11; ((with_reducible refine (cT _ (HT.out.below H.below)).mono ?_); rintro e w ⟨rfl, hb⟩; replace H := H.call hb; clear hb))
    )
  all_goals (go_ret; exact ⟨rfl, H.below⟩)) : P := h
set_option maxHeartbeats 1600000 in
set_option maxRecDepth 100000 in
theorem fiBack_bad (f k m n x : Nat) (w : World) (hT : Tab w) (b : Nat) (fl : Int) (cA : ∀ w, Tab w → Calls Tryd.prog 8 #[.int .u8 f, .int .u8 k, .int .u8 m, .int .u64 x] w fun e w' => e = .returned (.tuple #[BV b, .int .u8 fl, .int .i64 2]) ∧ Below w.heap.size w w')  :
    Calls Tryd.prog 3 #[.int .u8 f, .int .u8 k, .int .u8 m, .int .u8 n, .int .u64 x] w fun e w' => e = .returned (.bool true) ∧ Below w.heap.size w w' := by
  have H := Own.start w
  have HT := Lib.hid hT
  clear hT
  go_enter Tryd.func3, Tryd.ntmps3
  exact walk3
set_option maxHeartbeats 1600000 in
set_option maxRecDepth 100000 in
theorem fiBack_mode (f k m n x : Nat) (w : World) (hT : Tab w) (b : Nat) (fl : Int) (cA : ∀ w, Tab w → Calls Tryd.prog 8 #[.int .u8 f, .int .u8 k, .int .u8 m, .int .u64 x] w fun e w' => e = .returned (.tuple #[BV b, .int .u8 fl, .int .i64 0]) ∧ Below w.heap.size w w') (cM : ∀ w, Calls Tryd.prog 9 #[.int .u8 n] w fun e w' => e = .returned (.int .i64 2) ∧ w = w')  :
    Calls Tryd.prog 3 #[.int .u8 f, .int .u8 k, .int .u8 m, .int .u8 n, .int .u64 x] w fun e w' => e = .returned (.bool true) ∧ Below w.heap.size w w' := by
  have H := Own.start w
  have HT := Lib.hid hT
  clear hT
  go_enter Tryd.func3, Tryd.ntmps3
  exact walk3
set_option maxHeartbeats 1600000 in
set_option maxRecDepth 100000 in
theorem fiBack_flag_a (f k m n x : Nat) (w : World) (hT : Tab w) (b : Nat) (fl : Nat) (hfl : ((fl : Int) == 0) = false) (h3 : ((f : Int) == 3) = false) (h1 : ((f : Int) == 1) = false) (cA : ∀ w, Tab w → Calls Tryd.prog 8 #[.int .u8 f, .int .u8 k, .int .u8 m, .int .u64 x] w fun e w' => e = .returned (.tuple #[BV b, .int .u8 (fl : Nat), .int .i64 0]) ∧ Below w.heap.size w w') (cM : ∀ w, Calls Tryd.prog 9 #[.int .u8 n] w fun e w' => e = .returned (.int .i64 0) ∧ w = w')  :
    Calls Tryd.prog 3 #[.int .u8 f, .int .u8 k, .int .u8 m, .int .u8 n, .int .u64 x] w fun e w' => e = .returned (.bool true) ∧ Below w.heap.size w w' := by
  have H := Own.start w
  have HT := Lib.hid hT
  clear hT
  go_enter Tryd.func3, Tryd.ntmps3
  exact walk3
set_option maxHeartbeats 1600000 in
set_option maxRecDepth 100000 in
theorem fiBack_flag_b (f k m n x : Nat) (w : World) (hT : Tab w) (b : Nat) (fl : Nat) (hfl : ((fl : Int) == 0) = false) (h3 : ((f : Int) == 3) = false) (h1 : ((f : Int) == 1) = true) (hk : decide ((k : Int) ≤ 1) = false) (cA : ∀ w, Tab w → Calls Tryd.prog 8 #[.int .u8 f, .int .u8 k, .int .u8 m, .int .u64 x] w fun e w' => e = .returned (.tuple #[BV b, .int .u8 (fl : Nat), .int .i64 0]) ∧ Below w.heap.size w w') (cM : ∀ w, Calls Tryd.prog 9 #[.int .u8 n] w fun e w' => e = .returned (.int .i64 0) ∧ w = w')  :
    Calls Tryd.prog 3 #[.int .u8 f, .int .u8 k, .int .u8 m, .int .u8 n, .int .u64 x] w fun e w' => e = .returned (.bool true) ∧ Below w.heap.size w w' := by
  have H := Own.start w
  have HT := Lib.hid hT
  clear hT
  go_enter Tryd.func3, Tryd.ntmps3
  exact walk3
set_option maxHeartbeats 1600000 in
set_option maxRecDepth 100000 in
theorem fiBack_low_q (f k m n x : Nat) (w : World) (hT : Tab w) (b y : Nat) (h3 : ((f : Int) == 3) = true) (hk : decide ((k : Int) ≤ 1) = true) (hy : (IntKind.u64.wrap (wrap64 (wrap32 ((x : Int) % 4294967296)))) = (y : Int)) (cA : ∀ w, Tab w → Calls Tryd.prog 8 #[.int .u8 f, .int .u8 k, .int .u8 m, .int .u64 x] w fun e w' => e = .returned (.tuple #[BV b, .int .u8 0, .int .i64 0]) ∧ Below w.heap.size w w') (cM : ∀ w, Calls Tryd.prog 9 #[.int .u8 n] w fun e w' => e = .returned (.int .i64 0) ∧ w = w') (cT : ∀ w, Tab w → Calls Tryd.prog 11 #[.int .u8 k, .int .u8 f, .int .u8 n, BV b] w fun e w' => e = .returned (.tuple #[.int .u64 (y : Nat), .int .u8 0, .int .i64 0]) ∧ Below w.heap.size w w') :
    Calls Tryd.prog 3 #[.int .u8 f, .int .u8 k, .int .u8 m, .int .u8 n, .int .u64 x] w fun e w' => e = .returned (.bool true) ∧ Below w.heap.size w w' := by
  have H := Own.start w
  have HT := Lib.hid hT
  clear hT
  go_enter Tryd.func3, Tryd.ntmps3
  exact walk3
set_option maxHeartbeats 1600000 in
set_option maxRecDepth 100000 in
theorem fiBack_high_q (f k m n x : Nat) (w : World) (hT : Tab w) (b : Nat) (h3 : ((f : Int) == 3) = true) (hk : decide ((k : Int) ≤ 1) = false) (cA : ∀ w, Tab w → Calls Tryd.prog 8 #[.int .u8 f, .int .u8 k, .int .u8 m, .int .u64 x] w fun e w' => e = .returned (.tuple #[BV b, .int .u8 0, .int .i64 0]) ∧ Below w.heap.size w w') (cM : ∀ w, Calls Tryd.prog 9 #[.int .u8 n] w fun e w' => e = .returned (.int .i64 0) ∧ w = w') (cT : ∀ w, Tab w → Calls Tryd.prog 11 #[.int .u8 k, .int .u8 f, .int .u8 n, BV b] w fun e w' => e = .returned (.tuple #[.int .u64 (x : Nat), .int .u8 0, .int .i64 0]) ∧ Below w.heap.size w w') :
    Calls Tryd.prog 3 #[.int .u8 f, .int .u8 k, .int .u8 m, .int .u8 n, .int .u64 x] w fun e w' => e = .returned (.bool true) ∧ Below w.heap.size w w' := by
  have H := Own.start w
  have HT := Lib.hid hT
  clear hT
  go_enter Tryd.func3, Tryd.ntmps3
  exact walk3
set_option maxHeartbeats 1600000 in
set_option maxRecDepth 100000 in
theorem fiBack_low_d (f k m n x : Nat) (w : World) (hT : Tab w) (b y : Nat) (h3 : ((f : Int) == 3) = false) (h1 : ((f : Int) == 1) = true) (hk : decide ((k : Int) ≤ 1) = true) (hy : (IntKind.u64.wrap (wrap64 (wrap32 ((x : Int) % 4294967296)))) = (y : Int)) (cA : ∀ w, Tab w → Calls Tryd.prog 8 #[.int .u8 f, .int .u8 k, .int .u8 m, .int .u64 x] w fun e w' => e = .returned (.tuple #[BV b, .int .u8 0, .int .i64 0]) ∧ Below w.heap.size w w') (cM : ∀ w, Calls Tryd.prog 9 #[.int .u8 n] w fun e w' => e = .returned (.int .i64 0) ∧ w = w') (cT : ∀ w, Tab w → Calls Tryd.prog 11 #[.int .u8 k, .int .u8 f, .int .u8 n, BV b] w fun e w' => e = .returned (.tuple #[.int .u64 (y : Nat), .int .u8 0, .int .i64 0]) ∧ Below w.heap.size w w') :
    Calls Tryd.prog 3 #[.int .u8 f, .int .u8 k, .int .u8 m, .int .u8 n, .int .u64 x] w fun e w' => e = .returned (.bool true) ∧ Below w.heap.size w w' := by
  have H := Own.start w
  have HT := Lib.hid hT
  clear hT
  go_enter Tryd.func3, Tryd.ntmps3
  exact walk3
set_option maxHeartbeats 1600000 in
set_option maxRecDepth 100000 in
theorem fiBack_high_d (f k m n x : Nat) (w : World) (hT : Tab w) (b : Nat) (h3 : ((f : Int) == 3) = false) (h1 : ((f : Int) == 1) = true) (hk : decide ((k : Int) ≤ 1) = false) (cA : ∀ w, Tab w → Calls Tryd.prog 8 #[.int .u8 f, .int .u8 k, .int .u8 m, .int .u64 x] w fun e w' => e = .returned (.tuple #[BV b, .int .u8 0, .int .i64 0]) ∧ Below w.heap.size w w') (cM : ∀ w, Calls Tryd.prog 9 #[.int .u8 n] w fun e w' => e = .returned (.int .i64 0) ∧ w = w') (cT : ∀ w, Tab w → Calls Tryd.prog 11 #[.int .u8 k, .int .u8 f, .int .u8 n, BV b] w fun e w' => e = .returned (.tuple #[.int .u64 (x : Nat), .int .u8 0, .int .i64 0]) ∧ Below w.heap.size w w') :
    Calls Tryd.prog 3 #[.int .u8 f, .int .u8 k, .int .u8 m, .int .u8 n, .int .u64 x] w fun e w' => e = .returned (.bool true) ∧ Below w.heap.size w w' := by
  have H := Own.start w
  have HT := Lib.hid hT
  clear hT
  go_enter Tryd.func3, Tryd.ntmps3
  exact walk3
set_option maxHeartbeats 1600000 in
set_option maxRecDepth 100000 in
theorem fiBack_low_o (f k m n x : Nat) (w : World) (hT : Tab w) (b y : Nat) (h3 : ((f : Int) == 3) = false) (h1 : ((f : Int) == 1) = false) (hk : decide ((k : Int) ≤ 1) = true) (hy : (IntKind.u64.wrap (wrap64 (wrap32 ((x : Int) % 4294967296)))) = (y : Int)) (cA : ∀ w, Tab w → Calls Tryd.prog 8 #[.int .u8 f, .int .u8 k, .int .u8 m, .int .u64 x] w fun e w' => e = .returned (.tuple #[BV b, .int .u8 0, .int .i64 0]) ∧ Below w.heap.size w w') (cM : ∀ w, Calls Tryd.prog 9 #[.int .u8 n] w fun e w' => e = .returned (.int .i64 0) ∧ w = w') (cT : ∀ w, Tab w → Calls Tryd.prog 11 #[.int .u8 k, .int .u8 f, .int .u8 n, BV b] w fun e w' => e = .returned (.tuple #[.int .u64 (y : Nat), .int .u8 0, .int .i64 0]) ∧ Below w.heap.size w w') :
    Calls Tryd.prog 3 #[.int .u8 f, .int .u8 k, .int .u8 m, .int .u8 n, .int .u64 x] w fun e w' => e = .returned (.bool true) ∧ Below w.heap.size w w' := by
  have H := Own.start w
  have HT := Lib.hid hT
  clear hT
  go_enter Tryd.func3, Tryd.ntmps3
  exact walk3
set_option maxHeartbeats 1600000 in
set_option maxRecDepth 100000 in
theorem fiBack_high_o (f k m n x : Nat) (w : World) (hT : Tab w) (b : Nat) (h3 : ((f : Int) == 3) = false) (h1 : ((f : Int) == 1) = false) (hk : decide ((k : Int) ≤ 1) = false) (cA : ∀ w, Tab w → Calls Tryd.prog 8 #[.int .u8 f, .int .u8 k, .int .u8 m, .int .u64 x] w fun e w' => e = .returned (.tuple #[BV b, .int .u8 0, .int .i64 0]) ∧ Below w.heap.size w w') (cM : ∀ w, Calls Tryd.prog 9 #[.int .u8 n] w fun e w' => e = .returned (.int .i64 0) ∧ w = w') (cT : ∀ w, Tab w → Calls Tryd.prog 11 #[.int .u8 k, .int .u8 f, .int .u8 n, BV b] w fun e w' => e = .returned (.tuple #[.int .u64 (x : Nat), .int .u8 0, .int .i64 0]) ∧ Below w.heap.size w w') :
    Calls Tryd.prog 3 #[.int .u8 f, .int .u8 k, .int .u8 m, .int .u8 n, .int .u64 x] w fun e w' => e = .returned (.bool true) ∧ Below w.heap.size w w' := by
  have H := Own.start w
  have HT := Lib.hid hT
  clear hT
  go_enter Tryd.func3, Tryd.ntmps3
  exact walk3
theorem want_low (x : Nat) : (IntKind.u64.wrap (wrap64 (wrap32 ((x : Int) % 4294967296)))) = ((sext32 x : Nat) : Int) := by
  rw [IntKind.wrap_u64, wrap32_nat _ (by omega) (by omega)]
  unfold sext32
  by_cases h : x % 4294967296 < 2147483648
  · rw [decide_eq_true h, cond_true, if_neg (by omega)]; omega
  · rw [decide_eq_false h, cond_false, if_pos (by omega)]; omega
theorem fromintBack_any (f k m n x : Nat) (w : World) (hf : f < 256) (hk8 : k < 256) (hm : m < 256) (hn : n < 256) (hx : x < 18446744073709551616) (hT : Tab w) :
    Calls Tryd.prog 3 #[.int .u8 f, .int .u8 k, .int .u8 m, .int .u8 n, .int .u64 x] w fun e w' => e = .returned (.bool true) ∧ Below w.heap.size w w' := by
  have cA := fun w hT => fiConvert_any f k m x w hf hk8 hm hx hT
  have cM := fun w => shapeCheckMode_any n w hn
  have bad : fromN f k m x = (0, 0, 2) → Calls Tryd.prog 3 #[.int .u8 f, .int .u8 k, .int .u8 m, .int .u8 n, .int .u64 x] w fun e w' => e = .returned (.bool true) ∧ Below w.heap.size w w' := by
    intro h
    rw [h] at cA
    exact fiBack_bad f k m n x w hT _ _ cA
  by_cases hk : k < 4
  case neg => exact bad (by unfold fromN; rw [if_neg hk])
  by_cases hf4 : f < 4
  case neg => exact bad (by unfold fromN packN packOk; rw [if_pos hk, decide_eq_false hf4]; rfl)
  by_cases hm5 : m < 5
  case neg => exact bad (by unfold fromN packN packOk; rw [if_pos hk, decide_eq_false hm5, Bool.and_false]; rfl)
  by_cases hn5 : n < 5
  case neg =>
    rw [decide_eq_false hn5] at cM
    obtain ⟨r1, -, -⟩ := from_back f k m 0 x hf4 hk hm5 (by decide) hx
    rw [r1] at cA
    exact fiBack_mode f k m n x w hT _ _ cA cM
  rw [decide_eq_true hn5] at cM
  obtain ⟨r1, r2, r3⟩ := from_back f k m n x hf4 hk hm5 hn5 hx
  rw [r1] at cA
  have hb3 : ((f : Int) == 3) = decide (f = 3) := cast_beq f 3
  have hb1 : ((f : Int) == 1) = decide (f = 1) := cast_beq f 1
  have hkd : decide ((k : Int) ≤ 1) = decide (k ≤ 1) := by
    by_cases h : k ≤ 1
    · rw [decide_eq_true h]; simp; omega
    · rw [decide_eq_false h]; simp; omega
  by_cases hfl : (fromN f k m x).2.1 = 0
  case neg =>
    have hflb := (cast_beq (fromN f k m x).2.1 0).trans (decide_eq_false hfl)
    have e3 : f ≠ 3 := fun h => hfl (r2 (Or.inl h))
    rw [decide_eq_false e3] at hb3
    by_cases e1 : f = 1
    · have ek : ¬ k ≤ 1 := fun h => hfl (r2 (Or.inr ⟨e1, h⟩))
      exact fiBack_flag_b f k m n x w hT _ _ hflb hb3 (by rw [hb1]; exact decide_eq_true e1) (by rw [hkd]; exact decide_eq_false ek) cA cM
    · exact fiBack_flag_a f k m n x w hT _ _ hflb hb3 (by rw [hb1]; exact decide_eq_false e1) cA cM
  have h3 := r3 hfl
  rw [hfl] at cA
  have hbb : (fromN f k m x).1 < 2 ^ (64 * 2) := by
    cases hc : convOk k f n (fromN f k m x).1
    · exfalso
      unfold convN at h3; rw [hc] at h3
      have := congrArg (fun p : Nat × Nat × Int => p.2.2) h3
      revert this; simp
    · unfold convOk at hc
      simp only [Bool.and_eq_true] at hc
      exact below_fits f _ (by first | exact hc.1.2 | exact hc.2.1 | exact hc.2.2 | exact hc.2)
  have cT := fun w hT => tointConvert_any k f n (fromN f k m x).1 w hk8 hf hn hbb hT
  rw [h3] at cT
  unfold backN at cT
  by_cases ek : k ≤ 1
  · rw [if_pos ek] at cT
    have hkt : decide ((k : Int) ≤ 1) = true := by rw [hkd]; exact decide_eq_true ek
    by_cases e3 : f = 3
    · exact fiBack_low_q f k m n x w hT _ (sext32 x) (by rw [hb3]; exact decide_eq_true e3) hkt (want_low x) cA cM cT
    · by_cases e1 : f = 1
      · exact fiBack_low_d f k m n x w hT _ (sext32 x) (by rw [hb3]; exact decide_eq_false e3) (by rw [hb1]; exact decide_eq_true e1) hkt (want_low x) cA cM cT
      · exact fiBack_low_o f k m n x w hT _ (sext32 x) (by rw [hb3]; exact decide_eq_false e3) (by rw [hb1]; exact decide_eq_false e1) hkt (want_low x) cA cM cT
  · rw [if_neg ek] at cT
    have hkt : decide ((k : Int) ≤ 1) = false := by rw [hkd]; exact decide_eq_false ek
    by_cases e3 : f = 3
    · exact fiBack_high_q f k m n x w hT _ (by rw [hb3]; exact decide_eq_true e3) hkt cA cM cT
    · by_cases e1 : f = 1
      · exact fiBack_high_d f k m n x w hT _ (by rw [hb3]; exact decide_eq_false e3) (by rw [hb1]; exact decide_eq_true e1) hkt cA cM cT
      · exact fiBack_high_o f k m n x w hT _ (by rw [hb3]; exact decide_eq_false e3) (by rw [hb1]; exact decide_eq_false e1) hkt cA cM cT
end Go.Proofs.YtdcgcjmajacgiaaDoor

namespace Go.Proofs.YtdcgcjmajacgiaaDoor
open Go.ChangeShapes Go.WideShapes Go.ChangeAt Go.RowKit
theorem own : ownKnob Tryd.prog.godebug = none := by kernel_rfl
/-- What every row of this seat lists. -/
def laidL : List (String × DataW Unit) := [("math/bits.deBruijn64tab", Rows.laid_math_bits_deBruijn64tab)]
theorem gTab : Tryd.prog.globalNamed "math/bits.deBruijn64tab" = some 0 := by kernel_rfl
theorem tTab : (Tryd.prog.globals[0]?).map (·.type) = some 131 := by kernel_rfl
theorem ren1 : Tryd.lays29_ren.g 1 = 0 := rfl
set_option maxRecDepth 100000 in
theorem door_met (os : Os) (args : Array Value) : laidMetH Tryd.prog laidL ((World.doorLaid Tryd.prog 400 os).forCall (fun _ _ => 0) ⟨#[], args, []⟩).memory :=
  laidMetH_of_parts3 (fuel := 8) (laidMet_of_run' 8 (by kernel_rfl) (by kernel_rfl)) (by kernel_rfl) (by kernel_rfl)
set_option maxRecDepth 100000 in
theorem datum_map {H : Type} : (Rows.laid_math_bits_deBruijn64tab : DataW H) = .agg (Lib.deBruijn64tab.map fun x => .lit (.int .u8 (x : Nat))) := rfl
theorem tab_len : Lib.deBruijn64tab.length = 64 := by decide
theorem tab_of_laid {W : World} (h : laidMetH Tryd.prog laidL W) : Tab W := by
  rw [MakeChecks.laidMetH_plain _ _ _ (by kernel_rfl)] at h
  obtain ⟨ps, ⟨g0, t0, cs0, f0, p0, q0, hg0, ht0, hv0, hd0, _, _⟩, _, _⟩ := h
  obtain rfl := Option.some.inj (gTab.symm.trans hg0)
  obtain rfl := Option.some.inj (tTab.symm.trans ht0)
  obtain ⟨xs, m1, rfl, hx1, hlen, hn, hel⟩ := DataW.trod_array Tryd.underlying131 hd0
  have c1 : Tryd.prog.cellsOf 5 = 1 := by kernel_rfl
  rw [c1] at hel
  simp only [Prod.mk.injEq, datum_map, DataW.agg.injEq] at hx1
  intro j hj
  rw [ren1]
  have hj64 : j < 64 := by rw [tab_len] at hj; exact hj
  have hcell := World.var?_cell hg0 hv0 j
  rw [hcell]
  have h1 := hel j hj64
  have hxj : xs[j]? = some xs[j] := List.getElem?_eq_getElem (by omega)
  rw [hxj, Nat.mul_one] at h1
  obtain ⟨n, e1, e2, _⟩ := DataW.trod_int Tryd.underlying5 h1
  have hm : (xs.map (·.1))[j]? = some (.lit (.int .u8 n)) := by rw [List.getElem?_map, hxj, e2]; rfl
  rw [← hx1.1, List.getElem?_map, List.getElem?_eq_getElem hj] at hm
  simp only [Option.map_some, Option.some.injEq, DataW.lit.injEq, Lit.int.injEq, true_and] at hm
  have hget : cs0[j]? = some (.int .u8 n) := by
    have h2 : ((cs0.toList.drop j).take 1)[0]? = some (.int .u8 n) := by rw [e1]; rfl
    rw [List.getElem?_take_of_lt (by decide), List.getElem?_drop, Nat.add_zero, Array.getElem?_toList] at h2
    exact h2
  rw [hget, ← hm, List.getD_eq_getElem?_getD, List.getElem?_eq_getElem hj]; rfl
theorem nat_u8 {x : Int} (h : (Lit.int .u8 x).wf = true) : ∃ n : Nat, x = n ∧ n < 256 := by
  have b := bounds_u8 h
  obtain ⟨n, rfl⟩ := Int.eq_ofNat_of_zero_le b.1
  exact ⟨n, rfl, by omega⟩
theorem nat_u64 {x : Int} (h : (Lit.int .u64 x).wf = true) : ∃ n : Nat, x = n ∧ n < 18446744073709551616 := by
  have b := bounds_u64 h
  obtain ⟨n, rfl⟩ := Int.eq_ofNat_of_zero_le b.1
  exact ⟨n, rfl, by omega⟩
end Go.Proofs.YtdcgcjmajacgiaaDoor

namespace Go.Proofs.YtdcgcjmajacgiaaDoor
open Go.ChangeShapes Go.WideShapes Go.ChangeAt Go.RowKit
namespace RowFromintBack
set_option maxRecDepth 100000 in
theorem lifted (os : Os) (started : os.Started) (H : Type) (enc : TypeId × Value → H) :
    ReturnsInHanded {} Tryd.checked os 3 .any (fun w args => (Rows.fromintBackSpec.pre enc Tryd.prog Tryd.f3 [] false w args ∧ laidMetH Tryd.prog laidL w) ∧ sizedMet enc Tryd.prog Tryd.f3 (OpenSpec.ofChange Rows.fromintBackSpec) false w args)
      (Rows.fromintBackSpec.post enc Tryd.prog Tryd.f3 false true false false) := by
  refine returnsInHanded_of_change_and (C := Tryd.checked) (X := fun w _ => laidMetH Tryd.prog laidL w) (fun _ _ _ hh h => h.of_heap hh) own started (by kernel_rfl) Tryd.func3
    (ChangeSpec.witness_shaped (enc := enc) (C := Tryd.checked) (os := os) (X := fun w _ => laidMetH Tryd.prog laidL w) false (World.doorLaid Tryd.prog 400 os) #[.int .u8 0, .int .u8 0, .int .u8 0, .int .u8 0, .int .u64 0] 8 rfl (World.shaped_of_RefB (by kernel_rfl) (by kernel_rfl)) (by kernel_rfl) (by kernel_rfl) (by kernel_rfl) (door_met os _)) ?_
  intro W base args ds gs before hval0 hW _ _ hL _
  have hval : ∀ (j : Nat) t v, Tryd.f3.params[j]? = some t → args[j]? = some v → Value.okWide Tryd.prog W .any base t v := hval0
  have hW' := hW
  obtain ⟨p, q, hA0, hV, rfl, hfz, hnd⟩ := hW
  have hA : DataW.TrodAll enc Tryd.prog W 0 (fun _ => true) true Tryd.f3.params.toList args.toList ds p := hA0
  rw [Tryd.params3] at hA hval
  obtain ⟨v0, vs0, d0, ds0, p0, q0, hargs, rfl, rfl, h0, r0⟩ := trodAll_cons hA
  obtain ⟨v1, vs1, d1, ds1, p1, q1, rfl, rfl, rfl, h1, r1⟩ := trodAll_cons r0
  obtain ⟨v2, vs2, d2, ds2, p2, q2, rfl, rfl, rfl, h2, r2⟩ := trodAll_cons r1
  obtain ⟨v3, vs3, d3, ds3, p3, q3, rfl, rfl, rfl, h3, r3⟩ := trodAll_cons r2
  obtain ⟨v4, vs4, d4, ds4, p4, q4, rfl, rfl, rfl, h4, r4⟩ := trodAll_cons r3
  obtain ⟨rfl, rfl, rfl⟩ := trodAll_nil r4
  obtain rfl : args = #[v0, v1, v2, v3, v4] := by cases args; simp_all
  obtain ⟨rfl, rfl⟩ := trodVars_none hV
  have hT : Tab W := tab_of_laid hL
  obtain ⟨b0, rfl, rfl, rfl, w0⟩ := open_int Tryd.underlying22 (hval 0 22 v0 rfl rfl) h0
  obtain ⟨a0, rfl, n0⟩ := nat_u8 w0
  obtain ⟨b1, rfl, rfl, rfl, w1⟩ := open_int Tryd.underlying23 (hval 1 23 v1 rfl rfl) h1
  obtain ⟨a1, rfl, n1⟩ := nat_u8 w1
  obtain ⟨b2, rfl, rfl, rfl, w2⟩ := open_int Tryd.underlying24 (hval 2 24 v2 rfl rfl) h2
  obtain ⟨a2, rfl, n2⟩ := nat_u8 w2
  obtain ⟨b3, rfl, rfl, rfl, w3⟩ := open_int Tryd.underlying24 (hval 3 24 v3 rfl rfl) h3
  obtain ⟨a3, rfl, n3⟩ := nat_u8 w3
  obtain ⟨b4, rfl, rfl, rfl, w4⟩ := open_int Tryd.underlying25 (hval 4 25 v4 rfl rfl) h4
  obtain ⟨a4, rfl, n4⟩ := nat_u64 w4
  clear hA0 hval0
  refine (fromintBack_any a0 a1 a2 a3 a4 W n0 n1 n2 n3 n4 hT).mono fun e W' ⟨he, bel⟩ => ?_
  subst he
  exact ⟨_, rfl, _, _, _, [], _, [], hW', trodAll_mk1 (shut_bool Tryd.underlying4 _), (trodAll_cons_mk (shut_int Tryd.underlying22 w0) (trodAll_cons_mk (shut_int Tryd.underlying23 w1) (trodAll_cons_mk (shut_int Tryd.underlying24 w2) (trodAll_cons_mk (shut_int Tryd.underlying24 w3) (trodAll_cons_mk (shut_int Tryd.underlying25 w4) trodAll_mk0))))), rfl, bel.frame _, fun h => by cases h⟩
theorem over : Rows.fromintBackRow.holds Tryd.pinned (OpenSpec.ofChange Rows.fromintBackSpec) :=
  OpenClaim.holds_of_wide 3 Tryd.f3 rfl rfl rfl rfl rfl rfl rfl ⟨rfl, rfl, rfl, rfl, rfl⟩ rfl rfl rfl rfl rfl (by kernel_rfl) Tryd.func3 (by kernel_rfl)
    (of_decide_eq_true (by kernel_rfl)) (by unfold Func.isWrapper; first | (rw [if_pos (by decide +kernel)]; kernel_rfl) | (rw [if_neg (by decide +kernel)]; exact ⟨rfl, rfl⟩))
    (fun os started H enc _ => lifted os started H enc)
end RowFromintBack
/-- The card, for the claim. -/
theorem fromintBack_holds : Rows.FromintBackCardSaid :=
  Claim7.holds_tied_plain_at .later [] [.data] true (true, "9c03aea7278df5a18531458d6d3a08aec8c21938b4a4e01a7d05c8ad9a638a45") false
    RowFromintBack.over (fun _ h => by cases h) (by kernel_rfl) (fun _ h => by cases h) fromintBack_row_tie rfl ⟨rfl, rfl⟩ (by kernel_rfl) rfl
    (fun f fn hf hfn => by
      obtain rfl : f = 3 := Option.some.inj ((show Tryd.prog.funcNamed "abacus/abacuslaw20.FromintBack" = some 3 by kernel_rfl).symm.trans hf) |>.symm
      obtain rfl : fn = Tryd.f3 := (Option.some.inj (Tryd.func3.symm.trans hfn)).symm
      exact ⟨by kernel_rfl, fun j t ht => by
        rw [Tryd.params3] at ht
        have hm : t ∈ [22, 23, 24, 24, 25] := by simpa using Array.mem_of_getElem? ht
        have hall : ([22, 23, 24, 24, 25].all fun u => !Tryd.prog.wantsStandIn u) = true := by kernel_rfl
        exact (show Tryd.prog.wantsStandIn t = false by simpa using List.all_eq_true.1 hall t hm)⟩)
    (by kernel_rfl)
#print axioms fromintBack_holds
end Go.Proofs.YtdcgcjmajacgiaaDoor
