/- Part 28 of what is proved: Twk, Twa, Told, Wcmp. -/
import Derived.Deep.RegionWith
import Derived.Deep.QuietTactic
import Derived.BigQuiet
import Derived.Outline
import Derived.Test.YtecdpjhifmlahaaDoorHe1
import Derived.Test.YtecdpjhifmlahaaDoorHe2
import Derived.Test.YtecdpjhifmlahaaDoorHe3
import Derived.Test.YtecdpjhifmlahaaDoorHe5
import Derived.Test.YtecdpjhifmlahaaDoorHe27
set_option linter.unusedSimpArgs false
set_option linter.unusedVariables false
set_option linter.unnecessarySimpa false
set_option maxRecDepth 100000
set_option maxHeartbeats 1600000
namespace Go.Proofs.YtecdpjhifmlahaaDoor
open Go.RowKit
theorem wideOf_one (w : World) : Calls Tryd.prog 19 #[.int .u64 1] w fun e w' => e = .returned (W 1) ∧ Below w.heap.size w w' := wideOf_any 1 w (by decide)
theorem walk1 {P : Prop} (h : P := by
  go_wp2_with (first
    | ((with_reducible show wpList _ _ _ (⟨_, .box _ _, _, _, _, _⟩ :: _) _ _); refine H.box rfl rfl (cells_agg _) ?_; (intro g w H; simp only [Act.put, q1_, q2_, q3_]))
    | ((with_reducible show wpList _ _ _ (⟨_, .alloc 33, _, _, _, _⟩ :: _) _ _); refine H.new rfl (T := 33) rfl tW_z (cells_agg _) ?_; (intro g w H; simp only [Act.put, q1_, q2_, q3_]))
    | ((with_reducible show wpList _ _ _ (⟨_, .alloc 45, _, _, _, _⟩ :: _) _ _); refine H.new rfl (T := 45) rfl tP_z (cells_agg _) ?_; (intro g w H; simp only [Act.put, q1_, q2_, q3_]))
    | ((with_reducible show wpList _ _ _ (⟨_, .alloc 43, _, _, _, _⟩ :: _) _ _); refine H.new rfl (T := 43) rfl tc_z (cells_int _ _) ?_; (intro g w H; simp only [Act.put, q1_, q2_, q3_]))
    | ((with_reducible show wpList _ _ _ (⟨_, .alloc 3, _, _, _, _⟩ :: _) _ _); refine H.new rfl (T := 3) rfl ti_z (cells_int _ _) ?_; (intro g w H; simp only [Act.put, q1_, q2_, q3_]))
    | ((with_reducible show wpList _ _ _ (⟨_, .alloc 25, _, _, _, _⟩ :: _) _ _); refine H.new rfl (T := 25) rfl tu_z (cells_int _ _) ?_; (intro g w H; simp only [Act.put, q1_, q2_, q3_]))
    | ((with_reducible show wpList _ _ _ (⟨_, .alloc 27, _, _, _, _⟩ :: _) _ _); refine H.new rfl (T := 27) rfl tB_z (cells_agg _) ?_; (intro g w H; simp only [Act.put, q1_, q2_, q3_]))
    | ((with_reducible show wpList _ _ _ (⟨_, .load 33 _, _, _, _, _⟩ :: _) _ _); (first | refine H.load rfl (ty := 33) rfl rfl 0 rfl Tryd.underlying33 rfl (by with_reducible exact ext_limbs _) (by exact tW_s) ?_ | refine H.load rfl (ty := 33) rfl rfl 0 rfl Tryd.underlying33 rfl v22_ (by exact tW_s) ?_ | refine H.load rfl (ty := 33) rfl rfl 0 rfl Tryd.underlying33 rfl v23_ (by exact tW_s) ?_ | refine H.load rfl (ty := 33) rfl rfl 0 rfl Tryd.underlying33 rfl v24_ (by exact tW_s) ?_ | refine H.load rfl (ty := 33) rfl rfl 1 rfl Tryd.underlying33 rfl (by with_reducible exact ext_limbs _) (by exact tW_s) ?_ | refine H.load rfl (ty := 33) rfl rfl 1 rfl Tryd.underlying33 rfl v22_ (by exact tW_s) ?_ | refine H.load rfl (ty := 33) rfl rfl 1 rfl Tryd.underlying33 rfl v23_ (by exact tW_s) ?_ | refine H.load rfl (ty := 33) rfl rfl 1 rfl Tryd.underlying33 rfl v24_ (by exact tW_s) ?_ | refine H.load rfl (ty := 33) rfl rfl 2 rfl Tryd.underlying33 rfl (by with_reducible exact ext_limbs _) (by exact tW_s) ?_ | refine H.load rfl (ty := 33) rfl rfl 2 rfl Tryd.underlying33 rfl v22_ (by exact tW_s) ?_ | refine H.load rfl (ty := 33) rfl rfl 2 rfl Tryd.underlying33 rfl v23_ (by exact tW_s) ?_ | refine H.load rfl (ty := 33) rfl rfl 2 rfl Tryd.underlying33 rfl v24_ (by exact tW_s) ?_ | refine H.load rfl (ty := 33) rfl rfl 3 rfl Tryd.underlying33 rfl (by with_reducible exact ext_limbs _) (by exact tW_s) ?_ | refine H.load rfl (ty := 33) rfl rfl 3 rfl Tryd.underlying33 rfl v22_ (by exact tW_s) ?_ | refine H.load rfl (ty := 33) rfl rfl 3 rfl Tryd.underlying33 rfl v23_ (by exact tW_s) ?_ | refine H.load rfl (ty := 33) rfl rfl 3 rfl Tryd.underlying33 rfl v24_ (by exact tW_s) ?_); simp only [Act.put, q1_, q2_, q3_])
    | ((with_reducible show wpList _ _ _ (⟨_, .load 45 _, _, _, _, _⟩ :: _) _ _); (first | refine H.load rfl (ty := 45) rfl rfl 0 rfl Tryd.underlying45 rfl v25_ (by exact tP_s) ?_ | refine H.load rfl (ty := 45) rfl rfl 1 rfl Tryd.underlying45 rfl v25_ (by exact tP_s) ?_ | refine H.load rfl (ty := 45) rfl rfl 2 rfl Tryd.underlying45 rfl v25_ (by exact tP_s) ?_ | refine H.load rfl (ty := 45) rfl rfl 3 rfl Tryd.underlying45 rfl v25_ (by exact tP_s) ?_); simp only [Act.put, q1_, q2_, q3_])
    | ((with_reducible show wpList _ _ _ (⟨_, .load 43 _, _, _, _, _⟩ :: _) _ _); (first | refine H.load1 rfl (ty := 43) rfl rfl 0 rfl Tryd.underlying43 rfl v26_ ?_ | refine H.load1 rfl (ty := 43) rfl rfl 0 rfl Tryd.underlying43 rfl (by with_reducible exact get_10 _) ?_ | refine H.load1 rfl (ty := 43) rfl rfl 1 rfl Tryd.underlying43 rfl v26_ ?_ | refine H.load1 rfl (ty := 43) rfl rfl 1 rfl Tryd.underlying43 rfl (by with_reducible exact get_10 _) ?_ | refine H.load1 rfl (ty := 43) rfl rfl 2 rfl Tryd.underlying43 rfl v26_ ?_ | refine H.load1 rfl (ty := 43) rfl rfl 2 rfl Tryd.underlying43 rfl (by with_reducible exact get_10 _) ?_ | refine H.load1 rfl (ty := 43) rfl rfl 3 rfl Tryd.underlying43 rfl v26_ ?_ | refine H.load1 rfl (ty := 43) rfl rfl 3 rfl Tryd.underlying43 rfl (by with_reducible exact get_10 _) ?_); simp only [Act.put, q1_, q2_, q3_])
    | ((with_reducible show wpList _ _ _ (⟨_, .load 3 _, _, _, _, _⟩ :: _) _ _); (first | refine H.load1 rfl (ty := 3) rfl rfl 0 rfl Tryd.underlying3 rfl v27_ ?_ | refine H.load1 rfl (ty := 3) rfl rfl 0 rfl Tryd.underlying3 rfl v28_ ?_ | refine H.load1 rfl (ty := 3) rfl rfl 0 rfl Tryd.underlying3 rfl (by with_reducible exact get_10 _) ?_ | refine H.load1 rfl (ty := 3) rfl rfl 1 rfl Tryd.underlying3 rfl v27_ ?_ | refine H.load1 rfl (ty := 3) rfl rfl 1 rfl Tryd.underlying3 rfl v28_ ?_ | refine H.load1 rfl (ty := 3) rfl rfl 1 rfl Tryd.underlying3 rfl (by with_reducible exact get_10 _) ?_ | refine H.load1 rfl (ty := 3) rfl rfl 2 rfl Tryd.underlying3 rfl v27_ ?_ | refine H.load1 rfl (ty := 3) rfl rfl 2 rfl Tryd.underlying3 rfl v28_ ?_ | refine H.load1 rfl (ty := 3) rfl rfl 2 rfl Tryd.underlying3 rfl (by with_reducible exact get_10 _) ?_ | refine H.load1 rfl (ty := 3) rfl rfl 3 rfl Tryd.underlying3 rfl v27_ ?_ | refine H.load1 rfl (ty := 3) rfl rfl 3 rfl Tryd.underlying3 rfl v28_ ?_ | refine H.load1 rfl (ty := 3) rfl rfl 3 rfl Tryd.underlying3 rfl (by with_reducible exact get_10 _) ?_); simp only [Act.put, q1_, q2_, q3_])
    | ((with_reducible show wpList _ _ _ (⟨_, .load 25 _, _, _, _, _⟩ :: _) _ _); (first | refine H.load1 rfl (ty := 25) rfl rfl 0 rfl Tryd.underlying25 rfl (by with_reducible exact get_20 _ _) ?_ | refine H.load1 rfl (ty := 25) rfl rfl 0 rfl Tryd.underlying25 rfl (by with_reducible exact get_21 _ _) ?_ | refine H.load1 rfl (ty := 25) rfl rfl 0 rfl Tryd.underlying25 rfl (by with_reducible exact limbs_o0 _) ?_ | refine H.load1 rfl (ty := 25) rfl rfl 0 rfl Tryd.underlying25 rfl (by with_reducible exact limbs_o1 _) ?_ | refine H.load1 rfl (ty := 25) rfl rfl 0 rfl Tryd.underlying25 rfl (by with_reducible exact limbs_o2 _) ?_ | refine H.load1 rfl (ty := 25) rfl rfl 0 rfl Tryd.underlying25 rfl (by with_reducible exact limbs_o3 _) ?_ | refine H.load1 rfl (ty := 25) rfl rfl 0 rfl Tryd.underlying25 rfl (by with_reducible exact limbs_o4 _) ?_ | refine H.load1 rfl (ty := 25) rfl rfl 0 rfl Tryd.underlying25 rfl (by with_reducible exact limbs_o5 _) ?_ | refine H.load1 rfl (ty := 25) rfl rfl 0 rfl Tryd.underlying25 rfl (by with_reducible exact get_10 _) ?_ | refine H.load1 rfl (ty := 25) rfl rfl 1 rfl Tryd.underlying25 rfl (by with_reducible exact get_20 _ _) ?_ | refine H.load1 rfl (ty := 25) rfl rfl 1 rfl Tryd.underlying25 rfl (by with_reducible exact get_21 _ _) ?_ | refine H.load1 rfl (ty := 25) rfl rfl 1 rfl Tryd.underlying25 rfl (by with_reducible exact limbs_o0 _) ?_ | refine H.load1 rfl (ty := 25) rfl rfl 1 rfl Tryd.underlying25 rfl (by with_reducible exact limbs_o1 _) ?_ | refine H.load1 rfl (ty := 25) rfl rfl 1 rfl Tryd.underlying25 rfl (by with_reducible exact limbs_o2 _) ?_ | refine H.load1 rfl (ty := 25) rfl rfl 1 rfl Tryd.underlying25 rfl (by with_reducible exact limbs_o3 _) ?_ | refine H.load1 rfl (ty := 25) rfl rfl 1 rfl Tryd.underlying25 rfl (by with_reducible exact limbs_o4 _) ?_ | refine H.load1 rfl (ty := 25) rfl rfl 1 rfl Tryd.underlying25 rfl (by with_reducible exact limbs_o5 _) ?_ | refine H.load1 rfl (ty := 25) rfl rfl 1 rfl Tryd.underlying25 rfl (by with_reducible exact get_10 _) ?_ | refine H.load1 rfl (ty := 25) rfl rfl 2 rfl Tryd.underlying25 rfl (by with_reducible exact get_20 _ _) ?_ | refine H.load1 rfl (ty := 25) rfl rfl 2 rfl Tryd.underlying25 rfl (by with_reducible exact get_21 _ _) ?_ | refine H.load1 rfl (ty := 25) rfl rfl 2 rfl Tryd.underlying25 rfl (by with_reducible exact limbs_o0 _) ?_ | refine H.load1 rfl (ty := 25) rfl rfl 2 rfl Tryd.underlying25 rfl (by with_reducible exact limbs_o1 _) ?_ | refine H.load1 rfl (ty := 25) rfl rfl 2 rfl Tryd.underlying25 rfl (by with_reducible exact limbs_o2 _) ?_ | refine H.load1 rfl (ty := 25) rfl rfl 2 rfl Tryd.underlying25 rfl (by with_reducible exact limbs_o3 _) ?_ | refine H.load1 rfl (ty := 25) rfl rfl 2 rfl Tryd.underlying25 rfl (by with_reducible exact limbs_o4 _) ?_ | refine H.load1 rfl (ty := 25) rfl rfl 2 rfl Tryd.underlying25 rfl (by with_reducible exact limbs_o5 _) ?_ | refine H.load1 rfl (ty := 25) rfl rfl 2 rfl Tryd.underlying25 rfl (by with_reducible exact get_10 _) ?_ | refine H.load1 rfl (ty := 25) rfl rfl 3 rfl Tryd.underlying25 rfl (by with_reducible exact get_20 _ _) ?_ | refine H.load1 rfl (ty := 25) rfl rfl 3 rfl Tryd.underlying25 rfl (by with_reducible exact get_21 _ _) ?_ | refine H.load1 rfl (ty := 25) rfl rfl 3 rfl Tryd.underlying25 rfl (by with_reducible exact limbs_o0 _) ?_ | refine H.load1 rfl (ty := 25) rfl rfl 3 rfl Tryd.underlying25 rfl (by with_reducible exact limbs_o1 _) ?_ | refine H.load1 rfl (ty := 25) rfl rfl 3 rfl Tryd.underlying25 rfl (by with_reducible exact limbs_o2 _) ?_ | refine H.load1 rfl (ty := 25) rfl rfl 3 rfl Tryd.underlying25 rfl (by with_reducible exact limbs_o3 _) ?_ | refine H.load1 rfl (ty := 25) rfl rfl 3 rfl Tryd.underlying25 rfl (by with_reducible exact limbs_o4 _) ?_ | refine H.load1 rfl (ty := 25) rfl rfl 3 rfl Tryd.underlying25 rfl (by with_reducible exact limbs_o5 _) ?_ | refine H.load1 rfl (ty := 25) rfl rfl 3 rfl Tryd.underlying25 rfl (by with_reducible exact get_10 _) ?_); simp only [Act.put, q1_, q2_, q3_])
    | ((with_reducible show wpList _ _ _ (⟨_, .load 27 _, _, _, _, _⟩ :: _) _ _); (first | refine H.load rfl (ty := 27) rfl rfl 0 rfl Tryd.underlying27 rfl (by with_reducible exact ext_2 _ _) (by exact tB_s) ?_ | refine H.load rfl (ty := 27) rfl rfl 1 rfl Tryd.underlying27 rfl (by with_reducible exact ext_2 _ _) (by exact tB_s) ?_ | refine H.load rfl (ty := 27) rfl rfl 2 rfl Tryd.underlying27 rfl (by with_reducible exact ext_2 _ _) (by exact tB_s) ?_ | refine H.load rfl (ty := 27) rfl rfl 3 rfl Tryd.underlying27 rfl (by with_reducible exact ext_2 _ _) (by exact tB_s) ?_); simp only [Act.put, q1_, q2_, q3_])
    | ((with_reducible show wpList _ _ _ (⟨_, .store 33 _ _, _, _, _, _⟩ :: _) _ _); (first | refine H.store rfl (ty := 33) rfl rfl (cells_agg _) 0 rfl v29_ (by exact tW_s) (one_of rfl) (ble_le rfl) ?_ | refine H.store rfl (ty := 33) rfl rfl (cells_agg _) 0 rfl v30_ (by exact tW_s) (one_of rfl) (ble_le rfl) ?_ | refine H.store rfl (ty := 33) rfl rfl (cells_agg _) 0 rfl v31_ (by exact tW_s) (one_of rfl) (ble_le rfl) ?_ | refine H.store rfl (ty := 33) rfl rfl (cells_agg _) 0 rfl v32_ (by exact tW_s) (one_of rfl) (ble_le rfl) ?_ | refine H.store rfl (ty := 33) rfl rfl (cells_agg _) 0 rfl v33_ (by exact tW_s) (one_of rfl) (ble_le rfl) ?_ | refine H.store rfl (ty := 33) rfl rfl (cells_agg _) 1 rfl v29_ (by exact tW_s) (one_of rfl) (ble_le rfl) ?_ | refine H.store rfl (ty := 33) rfl rfl (cells_agg _) 1 rfl v30_ (by exact tW_s) (one_of rfl) (ble_le rfl) ?_ | refine H.store rfl (ty := 33) rfl rfl (cells_agg _) 1 rfl v31_ (by exact tW_s) (one_of rfl) (ble_le rfl) ?_ | refine H.store rfl (ty := 33) rfl rfl (cells_agg _) 1 rfl v32_ (by exact tW_s) (one_of rfl) (ble_le rfl) ?_ | refine H.store rfl (ty := 33) rfl rfl (cells_agg _) 1 rfl v33_ (by exact tW_s) (one_of rfl) (ble_le rfl) ?_ | refine H.store rfl (ty := 33) rfl rfl (cells_agg _) 2 rfl v29_ (by exact tW_s) (one_of rfl) (ble_le rfl) ?_ | refine H.store rfl (ty := 33) rfl rfl (cells_agg _) 2 rfl v30_ (by exact tW_s) (one_of rfl) (ble_le rfl) ?_ | refine H.store rfl (ty := 33) rfl rfl (cells_agg _) 2 rfl v31_ (by exact tW_s) (one_of rfl) (ble_le rfl) ?_ | refine H.store rfl (ty := 33) rfl rfl (cells_agg _) 2 rfl v32_ (by exact tW_s) (one_of rfl) (ble_le rfl) ?_ | refine H.store rfl (ty := 33) rfl rfl (cells_agg _) 2 rfl v33_ (by exact tW_s) (one_of rfl) (ble_le rfl) ?_ | refine H.store rfl (ty := 33) rfl rfl (cells_agg _) 3 rfl v29_ (by exact tW_s) (one_of rfl) (ble_le rfl) ?_ | refine H.store rfl (ty := 33) rfl rfl (cells_agg _) 3 rfl v30_ (by exact tW_s) (one_of rfl) (ble_le rfl) ?_ | refine H.store rfl (ty := 33) rfl rfl (cells_agg _) 3 rfl v31_ (by exact tW_s) (one_of rfl) (ble_le rfl) ?_ | refine H.store rfl (ty := 33) rfl rfl (cells_agg _) 3 rfl v32_ (by exact tW_s) (one_of rfl) (ble_le rfl) ?_ | refine H.store rfl (ty := 33) rfl rfl (cells_agg _) 3 rfl v33_ (by exact tW_s) (one_of rfl) (ble_le rfl) ?_); (intro w H; simp only [q2_, q3_] at H; simp only [Act.put]))
    | ((with_reducible show wpList _ _ _ (⟨_, .store 45 _ _, _, _, _, _⟩ :: _) _ _); (first | refine H.store rfl (ty := 45) rfl rfl (cells_agg _) 0 rfl v30_ (by exact tP_s) (one_of rfl) (ble_le rfl) ?_ | refine H.store rfl (ty := 45) rfl rfl (cells_agg _) 1 rfl v30_ (by exact tP_s) (one_of rfl) (ble_le rfl) ?_ | refine H.store rfl (ty := 45) rfl rfl (cells_agg _) 2 rfl v30_ (by exact tP_s) (one_of rfl) (ble_le rfl) ?_ | refine H.store rfl (ty := 45) rfl rfl (cells_agg _) 3 rfl v30_ (by exact tP_s) (one_of rfl) (ble_le rfl) ?_); (intro w H; simp only [q2_] at H; simp only [Act.put]))
    | ((with_reducible show wpList _ _ _ (⟨_, .store 43 _ _, _, _, _, _⟩ :: _) _ _); (first | refine H.store rfl (ty := 43) rfl rfl (cells_int _ _) 0 rfl (by with_reducible exact set_10 _ _) (by exact tc_s) (one_of rfl) (ble_le rfl) ?_ | refine H.store rfl (ty := 43) rfl rfl (cells_int _ _) 1 rfl (by with_reducible exact set_10 _ _) (by exact tc_s) (one_of rfl) (ble_le rfl) ?_ | refine H.store rfl (ty := 43) rfl rfl (cells_int _ _) 2 rfl (by with_reducible exact set_10 _ _) (by exact tc_s) (one_of rfl) (ble_le rfl) ?_ | refine H.store rfl (ty := 43) rfl rfl (cells_int _ _) 3 rfl (by with_reducible exact set_10 _ _) (by exact tc_s) (one_of rfl) (ble_le rfl) ?_); (intro w H; simp only [q2_, q3_] at H; simp only [Act.put, q1_, q2_, q3_]))
    | ((with_reducible show wpList _ _ _ (⟨_, .store 3 _ _, _, _, _, _⟩ :: _) _ _); (first | refine H.store rfl (ty := 3) rfl rfl (cells_int _ _) 0 rfl v34_ (by exact ti_s) (one_of rfl) (ble_le rfl) ?_ | refine H.store rfl (ty := 3) rfl rfl (cells_int _ _) 0 rfl (by with_reducible exact set_10 _ _) (by exact ti_s) (one_of rfl) (ble_le rfl) ?_ | refine H.store rfl (ty := 3) rfl rfl (cells_int _ _) 1 rfl v34_ (by exact ti_s) (one_of rfl) (ble_le rfl) ?_ | refine H.store rfl (ty := 3) rfl rfl (cells_int _ _) 1 rfl (by with_reducible exact set_10 _ _) (by exact ti_s) (one_of rfl) (ble_le rfl) ?_ | refine H.store rfl (ty := 3) rfl rfl (cells_int _ _) 2 rfl v34_ (by exact ti_s) (one_of rfl) (ble_le rfl) ?_ | refine H.store rfl (ty := 3) rfl rfl (cells_int _ _) 2 rfl (by with_reducible exact set_10 _ _) (by exact ti_s) (one_of rfl) (ble_le rfl) ?_ | refine H.store rfl (ty := 3) rfl rfl (cells_int _ _) 3 rfl v34_ (by exact ti_s) (one_of rfl) (ble_le rfl) ?_ | refine H.store rfl (ty := 3) rfl rfl (cells_int _ _) 3 rfl (by with_reducible exact set_10 _ _) (by exact ti_s) (one_of rfl) (ble_le rfl) ?_); (intro w H; simp only [q2_, q3_] at H; simp only [Act.put, q1_, q2_, q3_]))
    | ((with_reducible show wpList _ _ _ (⟨_, .store 25 _ _, _, _, _, _⟩ :: _) _ _); (first | refine H.store rfl (ty := 25) rfl rfl (cells_int _ _) 0 rfl (by with_reducible exact set_20 _ _ _) (by exact tu_s) (one_of rfl) (ble_le rfl) ?_ | refine H.store rfl (ty := 25) rfl rfl (cells_int _ _) 0 rfl (by with_reducible exact set_21 _ _ _) (by exact tu_s) (one_of rfl) (ble_le rfl) ?_ | refine H.store rfl (ty := 25) rfl rfl (cells_int _ _) 0 rfl (by with_reducible exact set_10 _ _) (by exact tu_s) (one_of rfl) (ble_le rfl) ?_ | refine H.store rfl (ty := 25) rfl rfl (cells_int _ _) 1 rfl (by with_reducible exact set_20 _ _ _) (by exact tu_s) (one_of rfl) (ble_le rfl) ?_ | refine H.store rfl (ty := 25) rfl rfl (cells_int _ _) 1 rfl (by with_reducible exact set_21 _ _ _) (by exact tu_s) (one_of rfl) (ble_le rfl) ?_ | refine H.store rfl (ty := 25) rfl rfl (cells_int _ _) 1 rfl (by with_reducible exact set_10 _ _) (by exact tu_s) (one_of rfl) (ble_le rfl) ?_ | refine H.store rfl (ty := 25) rfl rfl (cells_int _ _) 2 rfl (by with_reducible exact set_20 _ _ _) (by exact tu_s) (one_of rfl) (ble_le rfl) ?_ | refine H.store rfl (ty := 25) rfl rfl (cells_int _ _) 2 rfl (by with_reducible exact set_21 _ _ _) (by exact tu_s) (one_of rfl) (ble_le rfl) ?_ | refine H.store rfl (ty := 25) rfl rfl (cells_int _ _) 2 rfl (by with_reducible exact set_10 _ _) (by exact tu_s) (one_of rfl) (ble_le rfl) ?_ | refine H.store rfl (ty := 25) rfl rfl (cells_int _ _) 3 rfl (by with_reducible exact set_20 _ _ _) (by exact tu_s) (one_of rfl) (ble_le rfl) ?_ | refine H.store rfl (ty := 25) rfl rfl (cells_int _ _) 3 rfl (by with_reducible exact set_21 _ _ _) (by exact tu_s) (one_of rfl) (ble_le rfl) ?_ | refine H.store rfl (ty := 25) rfl rfl (cells_int _ _) 3 rfl (by with_reducible exact set_10 _ _) (by exact tu_s) (one_of rfl) (ble_le rfl) ?_); (intro w H; simp only [q2_, q3_] at H; simp only [Act.put, q1_, q2_, q3_]))
    | ((with_reducible show wpList _ _ _ (⟨_, .store 27 _ _, _, _, _, _⟩ :: _) _ _); (first | refine H.store rfl (ty := 27) rfl rfl (cells_agg _) 0 rfl v30_ (by exact tB_s) (one_of rfl) (ble_le rfl) ?_ | refine H.store rfl (ty := 27) rfl rfl (cells_agg _) 1 rfl v30_ (by exact tB_s) (one_of rfl) (ble_le rfl) ?_ | refine H.store rfl (ty := 27) rfl rfl (cells_agg _) 2 rfl v30_ (by exact tB_s) (one_of rfl) (ble_le rfl) ?_ | refine H.store rfl (ty := 27) rfl rfl (cells_agg _) 3 rfl v30_ (by exact tB_s) (one_of rfl) (ble_le rfl) ?_); (intro w H; simp only [q2_, q3_] at H; simp only [Act.put, q1_, q2_, q3_]))
    | ((with_reducible show Code.wp _ (.region 14 _ true) _ _ _); refine H.heldSub rfl (List.Sublist.cons_cons _ (List.Sublist.cons _ (List.Sublist.refl _))) ?_; intro H; refine held_two (i := 0) (k := 1) (by kernel_rfl) rfl rfl rfl rfl ?_ ?_; ((first | refine H.op_load (ty := 33) rfl rfl 0 rfl Tryd.underlying33 rfl (by with_reducible exact ext_limbs _) (by exact tW_s) ?_ | refine H.op_load (ty := 33) rfl rfl 0 rfl Tryd.underlying33 rfl v22_ (by exact tW_s) ?_ | refine H.op_load (ty := 33) rfl rfl 0 rfl Tryd.underlying33 rfl v23_ (by exact tW_s) ?_ | refine H.op_load (ty := 33) rfl rfl 0 rfl Tryd.underlying33 rfl v24_ (by exact tW_s) ?_ | refine H.op_load (ty := 33) rfl rfl 1 rfl Tryd.underlying33 rfl (by with_reducible exact ext_limbs _) (by exact tW_s) ?_ | refine H.op_load (ty := 33) rfl rfl 1 rfl Tryd.underlying33 rfl v22_ (by exact tW_s) ?_ | refine H.op_load (ty := 33) rfl rfl 1 rfl Tryd.underlying33 rfl v23_ (by exact tW_s) ?_ | refine H.op_load (ty := 33) rfl rfl 1 rfl Tryd.underlying33 rfl v24_ (by exact tW_s) ?_ | refine H.op_load (ty := 33) rfl rfl 2 rfl Tryd.underlying33 rfl (by with_reducible exact ext_limbs _) (by exact tW_s) ?_ | refine H.op_load (ty := 33) rfl rfl 2 rfl Tryd.underlying33 rfl v22_ (by exact tW_s) ?_ | refine H.op_load (ty := 33) rfl rfl 2 rfl Tryd.underlying33 rfl v23_ (by exact tW_s) ?_ | refine H.op_load (ty := 33) rfl rfl 2 rfl Tryd.underlying33 rfl v24_ (by exact tW_s) ?_ | refine H.op_load (ty := 33) rfl rfl 3 rfl Tryd.underlying33 rfl (by with_reducible exact ext_limbs _) (by exact tW_s) ?_ | refine H.op_load (ty := 33) rfl rfl 3 rfl Tryd.underlying33 rfl v22_ (by exact tW_s) ?_ | refine H.op_load (ty := 33) rfl rfl 3 rfl Tryd.underlying33 rfl v23_ (by exact tW_s) ?_ | refine H.op_load (ty := 33) rfl rfl 3 rfl Tryd.underlying33 rfl v24_ (by exact tW_s) ?_); refine H.next (List.Sublist.cons_cons _ (List.Sublist.cons _ (List.Sublist.refl _))) ?_; (try simp only [Act.put, q4_, q5_, q1_, q2_, q3_]); refine held_one (i := 1) (by kernel_rfl) rfl rfl ?_; unfold Oper.wp; go_simp; (first | (go_at_call 19; ((with_reducible refine (wideOf_one _).mono ?_); rintro e w ⟨rfl, hb⟩; replace H := H.call hb; clear hb)) | (go_at_call 18; ((with_reducible refine (wideAdd_any n 1 _).mono ?_); rintro e w ⟨rfl, hb⟩; replace H := H.call hb; clear hb))); refine H.next (List.Sublist.cons_cons _ (List.Sublist.cons _ (List.Sublist.refl _))) ?_; (try simp only [Act.put, q4_, q5_, q6_, q1_, q2_, q3_])); rotate_left; (unfold Oper.wp; go_simp; (first | (go_at_call 19; ((with_reducible refine (wideOf_one _).mono ?_); rintro e w ⟨rfl, hb⟩; replace H := H.call hb; clear hb)) | (go_at_call 18; ((with_reducible refine (wideAdd_any n 1 _).mono ?_); rintro e w ⟨rfl, hb⟩; replace H := H.call hb; clear hb))); refine H.next (List.Sublist.cons_cons _ (List.Sublist.cons _ (List.Sublist.refl _))) ?_; (try simp only [Act.put, q4_, q5_, q6_, q1_, q2_, q3_]); refine held_one (i := 0) (by kernel_rfl) rfl rfl ?_; (first | refine H.op_load (ty := 33) rfl rfl 0 rfl Tryd.underlying33 rfl (by with_reducible exact ext_limbs _) (by exact tW_s) ?_ | refine H.op_load (ty := 33) rfl rfl 0 rfl Tryd.underlying33 rfl v22_ (by exact tW_s) ?_ | refine H.op_load (ty := 33) rfl rfl 0 rfl Tryd.underlying33 rfl v23_ (by exact tW_s) ?_ | refine H.op_load (ty := 33) rfl rfl 0 rfl Tryd.underlying33 rfl v24_ (by exact tW_s) ?_ | refine H.op_load (ty := 33) rfl rfl 1 rfl Tryd.underlying33 rfl (by with_reducible exact ext_limbs _) (by exact tW_s) ?_ | refine H.op_load (ty := 33) rfl rfl 1 rfl Tryd.underlying33 rfl v22_ (by exact tW_s) ?_ | refine H.op_load (ty := 33) rfl rfl 1 rfl Tryd.underlying33 rfl v23_ (by exact tW_s) ?_ | refine H.op_load (ty := 33) rfl rfl 1 rfl Tryd.underlying33 rfl v24_ (by exact tW_s) ?_ | refine H.op_load (ty := 33) rfl rfl 2 rfl Tryd.underlying33 rfl (by with_reducible exact ext_limbs _) (by exact tW_s) ?_ | refine H.op_load (ty := 33) rfl rfl 2 rfl Tryd.underlying33 rfl v22_ (by exact tW_s) ?_ | refine H.op_load (ty := 33) rfl rfl 2 rfl Tryd.underlying33 rfl v23_ (by exact tW_s) ?_ | refine H.op_load (ty := 33) rfl rfl 2 rfl Tryd.underlying33 rfl v24_ (by exact tW_s) ?_ | refine H.op_load (ty := 33) rfl rfl 3 rfl Tryd.underlying33 rfl (by with_reducible exact ext_limbs _) (by exact tW_s) ?_ | refine H.op_load (ty := 33) rfl rfl 3 rfl Tryd.underlying33 rfl v22_ (by exact tW_s) ?_ | refine H.op_load (ty := 33) rfl rfl 3 rfl Tryd.underlying33 rfl v23_ (by exact tW_s) ?_ | refine H.op_load (ty := 33) rfl rfl 3 rfl Tryd.underlying33 rfl v24_ (by exact tW_s) ?_); refine H.next (List.Sublist.cons_cons _ (List.Sublist.cons _ (List.Sublist.refl _))) ?_; (try simp only [Act.put, q4_, q5_, q1_, q2_, q3_])); all_goals (refine held_one (i := 2) (by kernel_rfl) rfl rfl ?_; unfold Oper.wp; go_simp; (first | (go_at_call 19; ((with_reducible refine (wideOf_one _).mono ?_); rintro e w ⟨rfl, hb⟩; replace H := H.call hb; clear hb)) | (go_at_call 18; ((with_reducible refine (wideAdd_any n 1 _).mono ?_); rintro e w ⟨rfl, hb⟩; replace H := H.call hb; clear hb))); refine H.next (List.Sublist.cons_cons _ (List.Sublist.cons _ (List.Sublist.refl _))) ?_; (try simp only [Act.put, q4_, q5_, q6_, q1_, q2_, q3_]); refine H.takeRun (List.Sublist.cons_cons _ (List.Sublist.cons _ (List.Sublist.refl _))) 3 rfl (by kernel_rfl) (by kernel_rfl) (by kernel_rfl) (fun _ _ _ _ h => h) rfl v14_ ?_; (try simp only [Act.put, q4_, q5_, q6_, q1_, q2_, q3_]); refine H.takeRun (List.Sublist.cons_cons _ (List.Sublist.cons _ (List.Sublist.refl _))) 4 rfl (by kernel_rfl) (by kernel_rfl) (by kernel_rfl) (fun _ _ _ _ h => h) rfl v14_ ?_; (try simp only [Act.put, q4_, q5_, q6_, q1_, q2_, q3_]); refine H.takeRun (List.Sublist.cons_cons _ (List.Sublist.cons _ (List.Sublist.refl _))) 5 rfl (by kernel_rfl) (by kernel_rfl) (by kernel_rfl) (fun _ _ _ _ h => h) rfl v14_ ?_; (try simp only [Act.put, q4_, q5_, q6_, q1_, q2_, q3_]); refine held_one (i := 6) (by kernel_rfl) rfl rfl ?_; (first | refine H.op_store (ty := 33) rfl rfl (cells_agg _) 0 rfl v29_ (by exact tW_s) (one_of rfl) (ble_le rfl) ?_ | refine H.op_store (ty := 33) rfl rfl (cells_agg _) 0 rfl v30_ (by exact tW_s) (one_of rfl) (ble_le rfl) ?_ | refine H.op_store (ty := 33) rfl rfl (cells_agg _) 0 rfl v31_ (by exact tW_s) (one_of rfl) (ble_le rfl) ?_ | refine H.op_store (ty := 33) rfl rfl (cells_agg _) 0 rfl v32_ (by exact tW_s) (one_of rfl) (ble_le rfl) ?_ | refine H.op_store (ty := 33) rfl rfl (cells_agg _) 0 rfl v33_ (by exact tW_s) (one_of rfl) (ble_le rfl) ?_ | refine H.op_store (ty := 33) rfl rfl (cells_agg _) 1 rfl v29_ (by exact tW_s) (one_of rfl) (ble_le rfl) ?_ | refine H.op_store (ty := 33) rfl rfl (cells_agg _) 1 rfl v30_ (by exact tW_s) (one_of rfl) (ble_le rfl) ?_ | refine H.op_store (ty := 33) rfl rfl (cells_agg _) 1 rfl v31_ (by exact tW_s) (one_of rfl) (ble_le rfl) ?_ | refine H.op_store (ty := 33) rfl rfl (cells_agg _) 1 rfl v32_ (by exact tW_s) (one_of rfl) (ble_le rfl) ?_ | refine H.op_store (ty := 33) rfl rfl (cells_agg _) 1 rfl v33_ (by exact tW_s) (one_of rfl) (ble_le rfl) ?_ | refine H.op_store (ty := 33) rfl rfl (cells_agg _) 2 rfl v29_ (by exact tW_s) (one_of rfl) (ble_le rfl) ?_ | refine H.op_store (ty := 33) rfl rfl (cells_agg _) 2 rfl v30_ (by exact tW_s) (one_of rfl) (ble_le rfl) ?_ | refine H.op_store (ty := 33) rfl rfl (cells_agg _) 2 rfl v31_ (by exact tW_s) (one_of rfl) (ble_le rfl) ?_ | refine H.op_store (ty := 33) rfl rfl (cells_agg _) 2 rfl v32_ (by exact tW_s) (one_of rfl) (ble_le rfl) ?_ | refine H.op_store (ty := 33) rfl rfl (cells_agg _) 2 rfl v33_ (by exact tW_s) (one_of rfl) (ble_le rfl) ?_ | refine H.op_store (ty := 33) rfl rfl (cells_agg _) 3 rfl v29_ (by exact tW_s) (one_of rfl) (ble_le rfl) ?_ | refine H.op_store (ty := 33) rfl rfl (cells_agg _) 3 rfl v30_ (by exact tW_s) (one_of rfl) (ble_le rfl) ?_ | refine H.op_store (ty := 33) rfl rfl (cells_agg _) 3 rfl v31_ (by exact tW_s) (one_of rfl) (ble_le rfl) ?_ | refine H.op_store (ty := 33) rfl rfl (cells_agg _) 3 rfl v32_ (by exact tW_s) (one_of rfl) (ble_le rfl) ?_ | refine H.op_store (ty := 33) rfl rfl (cells_agg _) 3 rfl v33_ (by exact tW_s) (one_of rfl) (ble_le rfl) ?_); intro w H; simp only [q2_, q3_] at H; refine H.next (List.Sublist.cons_cons _ (List.Sublist.cons _ (List.Sublist.refl _))) ?_; (try simp only [Act.put, q4_, q5_, q6_]); refine wpAnyH_done (by kernel_rfl) ?_ _))
    | ((with_reducible show Code.wp _ (.region 15 _ true) _ _ _); refine H.heldSub rfl (List.Sublist.refl _) ?_; intro H; refine H.takeRun (List.Sublist.refl _) 0 rfl (by kernel_rfl) (by kernel_rfl) (by kernel_rfl) (fun _ _ _ _ h => h) rfl v14_ ?_; (try simp only [Act.put, q4_, q5_, q1_, q2_, q3_]); refine H.takeRun (List.Sublist.refl _) 1 rfl (by kernel_rfl) (by kernel_rfl) (by kernel_rfl) (fun _ _ _ _ h => h) rfl v14_ ?_; (try simp only [Act.put, q4_, q5_, q6_, q1_, q2_, q3_]); (first | refine H.takeLoad (List.Sublist.refl _) 2 rfl (by kernel_rfl) (by kernel_rfl) (by kernel_rfl) (fun _ _ _ _ h => h) rfl (ty := 33) rfl rfl 0 rfl Tryd.underlying33 rfl (by with_reducible exact ext_limbs _) (by exact tW_s) ?_ | refine H.takeLoad (List.Sublist.refl _) 2 rfl (by kernel_rfl) (by kernel_rfl) (by kernel_rfl) (fun _ _ _ _ h => h) rfl (ty := 33) rfl rfl 0 rfl Tryd.underlying33 rfl v22_ (by exact tW_s) ?_ | refine H.takeLoad (List.Sublist.refl _) 2 rfl (by kernel_rfl) (by kernel_rfl) (by kernel_rfl) (fun _ _ _ _ h => h) rfl (ty := 33) rfl rfl 0 rfl Tryd.underlying33 rfl v23_ (by exact tW_s) ?_ | refine H.takeLoad (List.Sublist.refl _) 2 rfl (by kernel_rfl) (by kernel_rfl) (by kernel_rfl) (fun _ _ _ _ h => h) rfl (ty := 33) rfl rfl 0 rfl Tryd.underlying33 rfl v24_ (by exact tW_s) ?_ | refine H.takeLoad (List.Sublist.refl _) 2 rfl (by kernel_rfl) (by kernel_rfl) (by kernel_rfl) (fun _ _ _ _ h => h) rfl (ty := 33) rfl rfl 1 rfl Tryd.underlying33 rfl (by with_reducible exact ext_limbs _) (by exact tW_s) ?_ | refine H.takeLoad (List.Sublist.refl _) 2 rfl (by kernel_rfl) (by kernel_rfl) (by kernel_rfl) (fun _ _ _ _ h => h) rfl (ty := 33) rfl rfl 1 rfl Tryd.underlying33 rfl v22_ (by exact tW_s) ?_ | refine H.takeLoad (List.Sublist.refl _) 2 rfl (by kernel_rfl) (by kernel_rfl) (by kernel_rfl) (fun _ _ _ _ h => h) rfl (ty := 33) rfl rfl 1 rfl Tryd.underlying33 rfl v23_ (by exact tW_s) ?_ | refine H.takeLoad (List.Sublist.refl _) 2 rfl (by kernel_rfl) (by kernel_rfl) (by kernel_rfl) (fun _ _ _ _ h => h) rfl (ty := 33) rfl rfl 1 rfl Tryd.underlying33 rfl v24_ (by exact tW_s) ?_ | refine H.takeLoad (List.Sublist.refl _) 2 rfl (by kernel_rfl) (by kernel_rfl) (by kernel_rfl) (fun _ _ _ _ h => h) rfl (ty := 33) rfl rfl 2 rfl Tryd.underlying33 rfl (by with_reducible exact ext_limbs _) (by exact tW_s) ?_ | refine H.takeLoad (List.Sublist.refl _) 2 rfl (by kernel_rfl) (by kernel_rfl) (by kernel_rfl) (fun _ _ _ _ h => h) rfl (ty := 33) rfl rfl 2 rfl Tryd.underlying33 rfl v22_ (by exact tW_s) ?_ | refine H.takeLoad (List.Sublist.refl _) 2 rfl (by kernel_rfl) (by kernel_rfl) (by kernel_rfl) (fun _ _ _ _ h => h) rfl (ty := 33) rfl rfl 2 rfl Tryd.underlying33 rfl v23_ (by exact tW_s) ?_ | refine H.takeLoad (List.Sublist.refl _) 2 rfl (by kernel_rfl) (by kernel_rfl) (by kernel_rfl) (fun _ _ _ _ h => h) rfl (ty := 33) rfl rfl 2 rfl Tryd.underlying33 rfl v24_ (by exact tW_s) ?_ | refine H.takeLoad (List.Sublist.refl _) 2 rfl (by kernel_rfl) (by kernel_rfl) (by kernel_rfl) (fun _ _ _ _ h => h) rfl (ty := 33) rfl rfl 3 rfl Tryd.underlying33 rfl (by with_reducible exact ext_limbs _) (by exact tW_s) ?_ | refine H.takeLoad (List.Sublist.refl _) 2 rfl (by kernel_rfl) (by kernel_rfl) (by kernel_rfl) (fun _ _ _ _ h => h) rfl (ty := 33) rfl rfl 3 rfl Tryd.underlying33 rfl v22_ (by exact tW_s) ?_ | refine H.takeLoad (List.Sublist.refl _) 2 rfl (by kernel_rfl) (by kernel_rfl) (by kernel_rfl) (fun _ _ _ _ h => h) rfl (ty := 33) rfl rfl 3 rfl Tryd.underlying33 rfl v23_ (by exact tW_s) ?_ | refine H.takeLoad (List.Sublist.refl _) 2 rfl (by kernel_rfl) (by kernel_rfl) (by kernel_rfl) (fun _ _ _ _ h => h) rfl (ty := 33) rfl rfl 3 rfl Tryd.underlying33 rfl v24_ (by exact tW_s) ?_ | refine H.takeLoad (List.Sublist.refl _) 2 rfl (by kernel_rfl) (by kernel_rfl) (by kernel_rfl) (fun _ _ _ _ h => h) rfl (ty := 33) rfl rfl 4 rfl Tryd.underlying33 rfl (by with_reducible exact ext_limbs _) (by exact tW_s) ?_ | refine H.takeLoad (List.Sublist.refl _) 2 rfl (by kernel_rfl) (by kernel_rfl) (by kernel_rfl) (fun _ _ _ _ h => h) rfl (ty := 33) rfl rfl 4 rfl Tryd.underlying33 rfl v22_ (by exact tW_s) ?_ | refine H.takeLoad (List.Sublist.refl _) 2 rfl (by kernel_rfl) (by kernel_rfl) (by kernel_rfl) (fun _ _ _ _ h => h) rfl (ty := 33) rfl rfl 4 rfl Tryd.underlying33 rfl v23_ (by exact tW_s) ?_ | refine H.takeLoad (List.Sublist.refl _) 2 rfl (by kernel_rfl) (by kernel_rfl) (by kernel_rfl) (fun _ _ _ _ h => h) rfl (ty := 33) rfl rfl 4 rfl Tryd.underlying33 rfl v24_ (by exact tW_s) ?_); (try simp only [Act.put, q4_, q5_, q6_, q1_, q2_, q3_]); refine H.takeRun (List.Sublist.refl _) 3 rfl (by kernel_rfl) (by kernel_rfl) (by kernel_rfl) (fun _ _ _ _ h => h) rfl v14_ ?_; (try simp only [Act.put, q4_, q5_, q6_, q1_, q2_, q3_]); refine H.takeRun (List.Sublist.refl _) 4 rfl (by kernel_rfl) (by kernel_rfl) (by kernel_rfl) (fun _ _ _ _ h => h) rfl v14_ ?_; (try simp only [Act.put, q4_, q5_, q6_, q1_, q2_, q3_]); refine H.takeRun (List.Sublist.refl _) 5 rfl (by kernel_rfl) (by kernel_rfl) (by kernel_rfl) (fun _ _ _ _ h => h) rfl v14_ ?_; (try simp only [Act.put, q4_, q5_, q6_, q1_, q2_, q3_]); (first | refine H.takeLoad (List.Sublist.refl _) 6 rfl (by kernel_rfl) (by kernel_rfl) (by kernel_rfl) (fun _ _ _ _ h => h) rfl (ty := 33) rfl rfl 0 rfl Tryd.underlying33 rfl (by with_reducible exact ext_limbs _) (by exact tW_s) ?_ | refine H.takeLoad (List.Sublist.refl _) 6 rfl (by kernel_rfl) (by kernel_rfl) (by kernel_rfl) (fun _ _ _ _ h => h) rfl (ty := 33) rfl rfl 0 rfl Tryd.underlying33 rfl v22_ (by exact tW_s) ?_ | refine H.takeLoad (List.Sublist.refl _) 6 rfl (by kernel_rfl) (by kernel_rfl) (by kernel_rfl) (fun _ _ _ _ h => h) rfl (ty := 33) rfl rfl 0 rfl Tryd.underlying33 rfl v23_ (by exact tW_s) ?_ | refine H.takeLoad (List.Sublist.refl _) 6 rfl (by kernel_rfl) (by kernel_rfl) (by kernel_rfl) (fun _ _ _ _ h => h) rfl (ty := 33) rfl rfl 0 rfl Tryd.underlying33 rfl v24_ (by exact tW_s) ?_ | refine H.takeLoad (List.Sublist.refl _) 6 rfl (by kernel_rfl) (by kernel_rfl) (by kernel_rfl) (fun _ _ _ _ h => h) rfl (ty := 33) rfl rfl 1 rfl Tryd.underlying33 rfl (by with_reducible exact ext_limbs _) (by exact tW_s) ?_ | refine H.takeLoad (List.Sublist.refl _) 6 rfl (by kernel_rfl) (by kernel_rfl) (by kernel_rfl) (fun _ _ _ _ h => h) rfl (ty := 33) rfl rfl 1 rfl Tryd.underlying33 rfl v22_ (by exact tW_s) ?_ | refine H.takeLoad (List.Sublist.refl _) 6 rfl (by kernel_rfl) (by kernel_rfl) (by kernel_rfl) (fun _ _ _ _ h => h) rfl (ty := 33) rfl rfl 1 rfl Tryd.underlying33 rfl v23_ (by exact tW_s) ?_ | refine H.takeLoad (List.Sublist.refl _) 6 rfl (by kernel_rfl) (by kernel_rfl) (by kernel_rfl) (fun _ _ _ _ h => h) rfl (ty := 33) rfl rfl 1 rfl Tryd.underlying33 rfl v24_ (by exact tW_s) ?_ | refine H.takeLoad (List.Sublist.refl _) 6 rfl (by kernel_rfl) (by kernel_rfl) (by kernel_rfl) (fun _ _ _ _ h => h) rfl (ty := 33) rfl rfl 2 rfl Tryd.underlying33 rfl (by with_reducible exact ext_limbs _) (by exact tW_s) ?_ | refine H.takeLoad (List.Sublist.refl _) 6 rfl (by kernel_rfl) (by kernel_rfl) (by kernel_rfl) (fun _ _ _ _ h => h) rfl (ty := 33) rfl rfl 2 rfl Tryd.underlying33 rfl v22_ (by exact tW_s) ?_ | refine H.takeLoad (List.Sublist.refl _) 6 rfl (by kernel_rfl) (by kernel_rfl) (by kernel_rfl) (fun _ _ _ _ h => h) rfl (ty := 33) rfl rfl 2 rfl Tryd.underlying33 rfl v23_ (by exact tW_s) ?_ | refine H.takeLoad (List.Sublist.refl _) 6 rfl (by kernel_rfl) (by kernel_rfl) (by kernel_rfl) (fun _ _ _ _ h => h) rfl (ty := 33) rfl rfl 2 rfl Tryd.underlying33 rfl v24_ (by exact tW_s) ?_ | refine H.takeLoad (List.Sublist.refl _) 6 rfl (by kernel_rfl) (by kernel_rfl) (by kernel_rfl) (fun _ _ _ _ h => h) rfl (ty := 33) rfl rfl 3 rfl Tryd.underlying33 rfl (by with_reducible exact ext_limbs _) (by exact tW_s) ?_ | refine H.takeLoad (List.Sublist.refl _) 6 rfl (by kernel_rfl) (by kernel_rfl) (by kernel_rfl) (fun _ _ _ _ h => h) rfl (ty := 33) rfl rfl 3 rfl Tryd.underlying33 rfl v22_ (by exact tW_s) ?_ | refine H.takeLoad (List.Sublist.refl _) 6 rfl (by kernel_rfl) (by kernel_rfl) (by kernel_rfl) (fun _ _ _ _ h => h) rfl (ty := 33) rfl rfl 3 rfl Tryd.underlying33 rfl v23_ (by exact tW_s) ?_ | refine H.takeLoad (List.Sublist.refl _) 6 rfl (by kernel_rfl) (by kernel_rfl) (by kernel_rfl) (fun _ _ _ _ h => h) rfl (ty := 33) rfl rfl 3 rfl Tryd.underlying33 rfl v24_ (by exact tW_s) ?_ | refine H.takeLoad (List.Sublist.refl _) 6 rfl (by kernel_rfl) (by kernel_rfl) (by kernel_rfl) (fun _ _ _ _ h => h) rfl (ty := 33) rfl rfl 4 rfl Tryd.underlying33 rfl (by with_reducible exact ext_limbs _) (by exact tW_s) ?_ | refine H.takeLoad (List.Sublist.refl _) 6 rfl (by kernel_rfl) (by kernel_rfl) (by kernel_rfl) (fun _ _ _ _ h => h) rfl (ty := 33) rfl rfl 4 rfl Tryd.underlying33 rfl v22_ (by exact tW_s) ?_ | refine H.takeLoad (List.Sublist.refl _) 6 rfl (by kernel_rfl) (by kernel_rfl) (by kernel_rfl) (fun _ _ _ _ h => h) rfl (ty := 33) rfl rfl 4 rfl Tryd.underlying33 rfl v23_ (by exact tW_s) ?_ | refine H.takeLoad (List.Sublist.refl _) 6 rfl (by kernel_rfl) (by kernel_rfl) (by kernel_rfl) (fun _ _ _ _ h => h) rfl (ty := 33) rfl rfl 4 rfl Tryd.underlying33 rfl v24_ (by exact tW_s) ?_); (try simp only [Act.put, q4_, q5_, q6_, q1_, q2_, q3_]); refine H.takeRun (List.Sublist.refl _) 7 rfl (by kernel_rfl) (by kernel_rfl) (by kernel_rfl) (fun _ _ _ _ h => h) rfl v14_ ?_; (try simp only [Act.put, q4_, q5_, q6_, q1_, q2_, q3_]); refine H.takeRun (List.Sublist.refl _) 8 rfl (by kernel_rfl) (by kernel_rfl) (by kernel_rfl) (fun _ _ _ _ h => h) rfl v14_ ?_; (try simp only [Act.put, q4_, q5_, q6_, q1_, q2_, q3_]); refine held_one (i := 9) (by kernel_rfl) rfl rfl ?_; (first | refine H.op_store (ty := 33) rfl rfl (cells_agg _) 0 rfl v29_ (by exact tW_s) (one_of rfl) (ble_le rfl) ?_ | refine H.op_store (ty := 33) rfl rfl (cells_agg _) 0 rfl v30_ (by exact tW_s) (one_of rfl) (ble_le rfl) ?_ | refine H.op_store (ty := 33) rfl rfl (cells_agg _) 0 rfl v31_ (by exact tW_s) (one_of rfl) (ble_le rfl) ?_ | refine H.op_store (ty := 33) rfl rfl (cells_agg _) 0 rfl v32_ (by exact tW_s) (one_of rfl) (ble_le rfl) ?_ | refine H.op_store (ty := 33) rfl rfl (cells_agg _) 0 rfl v33_ (by exact tW_s) (one_of rfl) (ble_le rfl) ?_ | refine H.op_store (ty := 33) rfl rfl (cells_agg _) 1 rfl v29_ (by exact tW_s) (one_of rfl) (ble_le rfl) ?_ | refine H.op_store (ty := 33) rfl rfl (cells_agg _) 1 rfl v30_ (by exact tW_s) (one_of rfl) (ble_le rfl) ?_ | refine H.op_store (ty := 33) rfl rfl (cells_agg _) 1 rfl v31_ (by exact tW_s) (one_of rfl) (ble_le rfl) ?_ | refine H.op_store (ty := 33) rfl rfl (cells_agg _) 1 rfl v32_ (by exact tW_s) (one_of rfl) (ble_le rfl) ?_ | refine H.op_store (ty := 33) rfl rfl (cells_agg _) 1 rfl v33_ (by exact tW_s) (one_of rfl) (ble_le rfl) ?_ | refine H.op_store (ty := 33) rfl rfl (cells_agg _) 2 rfl v29_ (by exact tW_s) (one_of rfl) (ble_le rfl) ?_ | refine H.op_store (ty := 33) rfl rfl (cells_agg _) 2 rfl v30_ (by exact tW_s) (one_of rfl) (ble_le rfl) ?_ | refine H.op_store (ty := 33) rfl rfl (cells_agg _) 2 rfl v31_ (by exact tW_s) (one_of rfl) (ble_le rfl) ?_ | refine H.op_store (ty := 33) rfl rfl (cells_agg _) 2 rfl v32_ (by exact tW_s) (one_of rfl) (ble_le rfl) ?_ | refine H.op_store (ty := 33) rfl rfl (cells_agg _) 2 rfl v33_ (by exact tW_s) (one_of rfl) (ble_le rfl) ?_ | refine H.op_store (ty := 33) rfl rfl (cells_agg _) 3 rfl v29_ (by exact tW_s) (one_of rfl) (ble_le rfl) ?_ | refine H.op_store (ty := 33) rfl rfl (cells_agg _) 3 rfl v30_ (by exact tW_s) (one_of rfl) (ble_le rfl) ?_ | refine H.op_store (ty := 33) rfl rfl (cells_agg _) 3 rfl v31_ (by exact tW_s) (one_of rfl) (ble_le rfl) ?_ | refine H.op_store (ty := 33) rfl rfl (cells_agg _) 3 rfl v32_ (by exact tW_s) (one_of rfl) (ble_le rfl) ?_ | refine H.op_store (ty := 33) rfl rfl (cells_agg _) 3 rfl v33_ (by exact tW_s) (one_of rfl) (ble_le rfl) ?_ | refine H.op_store (ty := 33) rfl rfl (cells_agg _) 4 rfl v29_ (by exact tW_s) (one_of rfl) (ble_le rfl) ?_ | refine H.op_store (ty := 33) rfl rfl (cells_agg _) 4 rfl v30_ (by exact tW_s) (one_of rfl) (ble_le rfl) ?_ | refine H.op_store (ty := 33) rfl rfl (cells_agg _) 4 rfl v31_ (by exact tW_s) (one_of rfl) (ble_le rfl) ?_ | refine H.op_store (ty := 33) rfl rfl (cells_agg _) 4 rfl v32_ (by exact tW_s) (one_of rfl) (ble_le rfl) ?_ | refine H.op_store (ty := 33) rfl rfl (cells_agg _) 4 rfl v33_ (by exact tW_s) (one_of rfl) (ble_le rfl) ?_); intro w H; simp only [q2_, q3_] at H; refine H.next (List.Sublist.refl _) ?_; (try simp only [Act.put, q4_, q5_, q6_]); refine H.takeRun (List.Sublist.refl _) 10 rfl (by kernel_rfl) (by kernel_rfl) (by kernel_rfl) (fun _ _ _ _ h => h) rfl v14_ ?_; (try simp only [Act.put, q4_, q5_, q6_, q1_, q2_, q3_]); refine H.takeRun (List.Sublist.refl _) 11 rfl (by kernel_rfl) (by kernel_rfl) (by kernel_rfl) (fun _ _ _ _ h => h) rfl v14_ ?_; (try simp only [Act.put, q4_, q5_, q6_, q1_, q2_, q3_]); refine wpAnyH_done (by kernel_rfl) ?_ _)
    | ((with_reducible show Code.wp _ (.region 15 _ true) _ _ _); refine H.heldSub rfl (List.Sublist.refl _) ?_; intro H; refine H.takeRun (List.Sublist.refl _) 0 rfl (by kernel_rfl) (by kernel_rfl) (by kernel_rfl) (fun _ _ _ _ h => h) rfl v14_ ?_; (try simp only [Act.put, q4_, q5_, q1_, q2_, q3_]); refine H.takeRun (List.Sublist.refl _) 1 rfl (by kernel_rfl) (by kernel_rfl) (by kernel_rfl) (fun _ _ _ _ h => h) rfl v14_ ?_; (try simp only [Act.put, q4_, q5_, q6_, q1_, q2_, q3_]); refine H.takeOff (List.Sublist.refl _) 2 rfl (by kernel_rfl) (by kernel_rfl) (by kernel_rfl) (fun _ _ _ _ h => h) rfl ?_; (try simp only [Act.put, q4_, q5_, q6_, q1_, q2_, q3_]); refine H.takeOff (List.Sublist.refl _) 3 rfl (by kernel_rfl) (by kernel_rfl) (by kernel_rfl) (fun _ _ _ _ h => h) rfl ?_; (try simp only [Act.put, q4_, q5_, q6_, q1_, q2_, q3_]); refine H.takeOff (List.Sublist.refl _) 4 rfl (by kernel_rfl) (by kernel_rfl) (by kernel_rfl) (fun _ _ _ _ h => h) rfl ?_; (try simp only [Act.put, q4_, q5_, q6_, q1_, q2_, q3_]); refine H.takeRun (List.Sublist.refl _) 5 rfl (by kernel_rfl) (by kernel_rfl) (by kernel_rfl) (fun _ _ _ _ h => h) rfl v14_ ?_; (try simp only [Act.put, q4_, q5_, q6_, q1_, q2_, q3_]); (first | refine H.takeLoad (List.Sublist.refl _) 6 rfl (by kernel_rfl) (by kernel_rfl) (by kernel_rfl) (fun _ _ _ _ h => h) rfl (ty := 33) rfl rfl 0 rfl Tryd.underlying33 rfl (by with_reducible exact ext_limbs _) (by exact tW_s) ?_ | refine H.takeLoad (List.Sublist.refl _) 6 rfl (by kernel_rfl) (by kernel_rfl) (by kernel_rfl) (fun _ _ _ _ h => h) rfl (ty := 33) rfl rfl 0 rfl Tryd.underlying33 rfl v22_ (by exact tW_s) ?_ | refine H.takeLoad (List.Sublist.refl _) 6 rfl (by kernel_rfl) (by kernel_rfl) (by kernel_rfl) (fun _ _ _ _ h => h) rfl (ty := 33) rfl rfl 0 rfl Tryd.underlying33 rfl v23_ (by exact tW_s) ?_ | refine H.takeLoad (List.Sublist.refl _) 6 rfl (by kernel_rfl) (by kernel_rfl) (by kernel_rfl) (fun _ _ _ _ h => h) rfl (ty := 33) rfl rfl 0 rfl Tryd.underlying33 rfl v24_ (by exact tW_s) ?_ | refine H.takeLoad (List.Sublist.refl _) 6 rfl (by kernel_rfl) (by kernel_rfl) (by kernel_rfl) (fun _ _ _ _ h => h) rfl (ty := 33) rfl rfl 1 rfl Tryd.underlying33 rfl (by with_reducible exact ext_limbs _) (by exact tW_s) ?_ | refine H.takeLoad (List.Sublist.refl _) 6 rfl (by kernel_rfl) (by kernel_rfl) (by kernel_rfl) (fun _ _ _ _ h => h) rfl (ty := 33) rfl rfl 1 rfl Tryd.underlying33 rfl v22_ (by exact tW_s) ?_ | refine H.takeLoad (List.Sublist.refl _) 6 rfl (by kernel_rfl) (by kernel_rfl) (by kernel_rfl) (fun _ _ _ _ h => h) rfl (ty := 33) rfl rfl 1 rfl Tryd.underlying33 rfl v23_ (by exact tW_s) ?_ | refine H.takeLoad (List.Sublist.refl _) 6 rfl (by kernel_rfl) (by kernel_rfl) (by kernel_rfl) (fun _ _ _ _ h => h) rfl (ty := 33) rfl rfl 1 rfl Tryd.underlying33 rfl v24_ (by exact tW_s) ?_ | refine H.takeLoad (List.Sublist.refl _) 6 rfl (by kernel_rfl) (by kernel_rfl) (by kernel_rfl) (fun _ _ _ _ h => h) rfl (ty := 33) rfl rfl 2 rfl Tryd.underlying33 rfl (by with_reducible exact ext_limbs _) (by exact tW_s) ?_ | refine H.takeLoad (List.Sublist.refl _) 6 rfl (by kernel_rfl) (by kernel_rfl) (by kernel_rfl) (fun _ _ _ _ h => h) rfl (ty := 33) rfl rfl 2 rfl Tryd.underlying33 rfl v22_ (by exact tW_s) ?_ | refine H.takeLoad (List.Sublist.refl _) 6 rfl (by kernel_rfl) (by kernel_rfl) (by kernel_rfl) (fun _ _ _ _ h => h) rfl (ty := 33) rfl rfl 2 rfl Tryd.underlying33 rfl v23_ (by exact tW_s) ?_ | refine H.takeLoad (List.Sublist.refl _) 6 rfl (by kernel_rfl) (by kernel_rfl) (by kernel_rfl) (fun _ _ _ _ h => h) rfl (ty := 33) rfl rfl 2 rfl Tryd.underlying33 rfl v24_ (by exact tW_s) ?_ | refine H.takeLoad (List.Sublist.refl _) 6 rfl (by kernel_rfl) (by kernel_rfl) (by kernel_rfl) (fun _ _ _ _ h => h) rfl (ty := 33) rfl rfl 3 rfl Tryd.underlying33 rfl (by with_reducible exact ext_limbs _) (by exact tW_s) ?_ | refine H.takeLoad (List.Sublist.refl _) 6 rfl (by kernel_rfl) (by kernel_rfl) (by kernel_rfl) (fun _ _ _ _ h => h) rfl (ty := 33) rfl rfl 3 rfl Tryd.underlying33 rfl v22_ (by exact tW_s) ?_ | refine H.takeLoad (List.Sublist.refl _) 6 rfl (by kernel_rfl) (by kernel_rfl) (by kernel_rfl) (fun _ _ _ _ h => h) rfl (ty := 33) rfl rfl 3 rfl Tryd.underlying33 rfl v23_ (by exact tW_s) ?_ | refine H.takeLoad (List.Sublist.refl _) 6 rfl (by kernel_rfl) (by kernel_rfl) (by kernel_rfl) (fun _ _ _ _ h => h) rfl (ty := 33) rfl rfl 3 rfl Tryd.underlying33 rfl v24_ (by exact tW_s) ?_ | refine H.takeLoad (List.Sublist.refl _) 6 rfl (by kernel_rfl) (by kernel_rfl) (by kernel_rfl) (fun _ _ _ _ h => h) rfl (ty := 33) rfl rfl 4 rfl Tryd.underlying33 rfl (by with_reducible exact ext_limbs _) (by exact tW_s) ?_ | refine H.takeLoad (List.Sublist.refl _) 6 rfl (by kernel_rfl) (by kernel_rfl) (by kernel_rfl) (fun _ _ _ _ h => h) rfl (ty := 33) rfl rfl 4 rfl Tryd.underlying33 rfl v22_ (by exact tW_s) ?_ | refine H.takeLoad (List.Sublist.refl _) 6 rfl (by kernel_rfl) (by kernel_rfl) (by kernel_rfl) (fun _ _ _ _ h => h) rfl (ty := 33) rfl rfl 4 rfl Tryd.underlying33 rfl v23_ (by exact tW_s) ?_ | refine H.takeLoad (List.Sublist.refl _) 6 rfl (by kernel_rfl) (by kernel_rfl) (by kernel_rfl) (fun _ _ _ _ h => h) rfl (ty := 33) rfl rfl 4 rfl Tryd.underlying33 rfl v24_ (by exact tW_s) ?_); (try simp only [Act.put, q4_, q5_, q6_, q1_, q2_, q3_]); refine H.takeRun (List.Sublist.refl _) 7 rfl (by kernel_rfl) (by kernel_rfl) (by kernel_rfl) (fun _ _ _ _ h => h) rfl v14_ ?_; (try simp only [Act.put, q4_, q5_, q6_, q1_, q2_, q3_]); refine H.takeRun (List.Sublist.refl _) 8 rfl (by kernel_rfl) (by kernel_rfl) (by kernel_rfl) (fun _ _ _ _ h => h) rfl v14_ ?_; (try simp only [Act.put, q4_, q5_, q6_, q1_, q2_, q3_]); refine held_one (i := 9) (by kernel_rfl) rfl rfl ?_; (first | refine H.op_store (ty := 33) rfl rfl (cells_agg _) 0 rfl v29_ (by exact tW_s) (one_of rfl) (ble_le rfl) ?_ | refine H.op_store (ty := 33) rfl rfl (cells_agg _) 0 rfl v30_ (by exact tW_s) (one_of rfl) (ble_le rfl) ?_ | refine H.op_store (ty := 33) rfl rfl (cells_agg _) 0 rfl v31_ (by exact tW_s) (one_of rfl) (ble_le rfl) ?_ | refine H.op_store (ty := 33) rfl rfl (cells_agg _) 0 rfl v32_ (by exact tW_s) (one_of rfl) (ble_le rfl) ?_ | refine H.op_store (ty := 33) rfl rfl (cells_agg _) 0 rfl v33_ (by exact tW_s) (one_of rfl) (ble_le rfl) ?_ | refine H.op_store (ty := 33) rfl rfl (cells_agg _) 1 rfl v29_ (by exact tW_s) (one_of rfl) (ble_le rfl) ?_ | refine H.op_store (ty := 33) rfl rfl (cells_agg _) 1 rfl v30_ (by exact tW_s) (one_of rfl) (ble_le rfl) ?_ | refine H.op_store (ty := 33) rfl rfl (cells_agg _) 1 rfl v31_ (by exact tW_s) (one_of rfl) (ble_le rfl) ?_ | refine H.op_store (ty := 33) rfl rfl (cells_agg _) 1 rfl v32_ (by exact tW_s) (one_of rfl) (ble_le rfl) ?_ | refine H.op_store (ty := 33) rfl rfl (cells_agg _) 1 rfl v33_ (by exact tW_s) (one_of rfl) (ble_le rfl) ?_ | refine H.op_store (ty := 33) rfl rfl (cells_agg _) 2 rfl v29_ (by exact tW_s) (one_of rfl) (ble_le rfl) ?_ | refine H.op_store (ty := 33) rfl rfl (cells_agg _) 2 rfl v30_ (by exact tW_s) (one_of rfl) (ble_le rfl) ?_ | refine H.op_store (ty := 33) rfl rfl (cells_agg _) 2 rfl v31_ (by exact tW_s) (one_of rfl) (ble_le rfl) ?_ | refine H.op_store (ty := 33) rfl rfl (cells_agg _) 2 rfl v32_ (by exact tW_s) (one_of rfl) (ble_le rfl) ?_ | refine H.op_store (ty := 33) rfl rfl (cells_agg _) 2 rfl v33_ (by exact tW_s) (one_of rfl) (ble_le rfl) ?_ | refine H.op_store (ty := 33) rfl rfl (cells_agg _) 3 rfl v29_ (by exact tW_s) (one_of rfl) (ble_le rfl) ?_ | refine H.op_store (ty := 33) rfl rfl (cells_agg _) 3 rfl v30_ (by exact tW_s) (one_of rfl) (ble_le rfl) ?_ | refine H.op_store (ty := 33) rfl rfl (cells_agg _) 3 rfl v31_ (by exact tW_s) (one_of rfl) (ble_le rfl) ?_ | refine H.op_store (ty := 33) rfl rfl (cells_agg _) 3 rfl v32_ (by exact tW_s) (one_of rfl) (ble_le rfl) ?_ | refine H.op_store (ty := 33) rfl rfl (cells_agg _) 3 rfl v33_ (by exact tW_s) (one_of rfl) (ble_le rfl) ?_ | refine H.op_store (ty := 33) rfl rfl (cells_agg _) 4 rfl v29_ (by exact tW_s) (one_of rfl) (ble_le rfl) ?_ | refine H.op_store (ty := 33) rfl rfl (cells_agg _) 4 rfl v30_ (by exact tW_s) (one_of rfl) (ble_le rfl) ?_ | refine H.op_store (ty := 33) rfl rfl (cells_agg _) 4 rfl v31_ (by exact tW_s) (one_of rfl) (ble_le rfl) ?_ | refine H.op_store (ty := 33) rfl rfl (cells_agg _) 4 rfl v32_ (by exact tW_s) (one_of rfl) (ble_le rfl) ?_ | refine H.op_store (ty := 33) rfl rfl (cells_agg _) 4 rfl v33_ (by exact tW_s) (one_of rfl) (ble_le rfl) ?_); intro w H; simp only [q2_, q3_] at H; refine H.next (List.Sublist.refl _) ?_; (try simp only [Act.put, q4_, q5_, q6_]); refine H.takeRun (List.Sublist.refl _) 10 rfl (by kernel_rfl) (by kernel_rfl) (by kernel_rfl) (fun _ _ _ _ h => h) rfl v14_ ?_; (try simp only [Act.put, q4_, q5_, q6_, q1_, q2_, q3_]); refine H.takeRun (List.Sublist.refl _) 11 rfl (by kernel_rfl) (by kernel_rfl) (by kernel_rfl) (fun _ _ _ _ h => h) rfl v14_ ?_; (try simp only [Act.put, q4_, q5_, q6_, q1_, q2_, q3_]); refine wpAnyH_done (by kernel_rfl) ?_ _)
    | (go_at_call 13; ((with_reducible refine (cU _ (HT.out.below H.below)).mono ?_); rintro e w ⟨rfl, hb⟩; replace H := H.call hb; clear hb))
    | (go_at_call 14; ((with_reducible refine (cM _).mono ?_); rintro e w' ⟨rfl, rfl⟩))
    | (go_at_call 16; ((with_reducible refine (cC _ (HT.out.below H.below)).mono ?_); rintro e w ⟨rfl, hb⟩; replace H := H.call hb; clear hb))
    | (go_at_call 17; ((with_reducible refine (cR _).mono ?_); rintro e w' ⟨rfl, rfl⟩))
    )
  all_goals ((first | refine bodyPost_ret (results_tctt rfl rfl (H.result 0 rfl Tryd.underlying33 rfl (by exact tW_s) (ext_limbs _))) rfl ⟨?_, H.below⟩ | refine bodyPost_ret (results_tctt rfl rfl (H.result 1 rfl Tryd.underlying33 rfl (by exact tW_s) (ext_limbs _))) rfl ⟨?_, H.below⟩ | refine bodyPost_ret (results_tctt rfl rfl (H.result 2 rfl Tryd.underlying33 rfl (by exact tW_s) (ext_limbs _))) rfl ⟨?_, H.below⟩ | refine bodyPost_ret (results_tctt rfl rfl (H.result 3 rfl Tryd.underlying33 rfl (by exact tW_s) (ext_limbs _))) rfl ⟨?_, H.below⟩); exact rfl)) : P := h
theorem tointWhole_cut_tt (f m a c s fr n : Nat) (x half : Int) (ex : Bool) (w : World) (hT : Tab w) (hc0 : 0 < c) (hc7 : c < 7) (hc4 : decide ((c : Int) < 4) = true) (hn : (n + 1) < top6) (x0 : x < 0) (x1 : -40000 < x) (cU : ∀ w, Tab w → Calls Tryd.prog 13 #[.int .u8 f, BV a] w fun e w' => e = .returned (.tuple #[PV c s x fr, .int .i64 0]) ∧ Below w.heap.size w w') (cM : ∀ w, Calls Tryd.prog 14 #[.int .u8 m] w fun e w' => e = .returned (.int .i64 0) ∧ w = w') (cC : ∀ w, Tab w → Calls Tryd.prog 16 #[W s, .int .i64 (-x)] w fun e w' => e = .returned (.tuple #[W n, .int .i64 half, .bool ex]) ∧ Below w.heap.size w w') (cR : ∀ w, Calls Tryd.prog 17 #[.int .u8 m, .bool true, .bool (Go.bits .and .u64 (limb n 0) 1 == 1), .int .i64 half, .bool ex] w fun e w' => e = .returned (.bool true) ∧ w = w') :
    Calls Tryd.prog 8 #[.int .u8 f, .int .u8 m, BV a] w fun e w' => e = .returned (.tuple #[.bool (!decide ((n + 1) = 0)), W (n + 1), .bool ex, .int .i64 0]) ∧ Below w.heap.size w w' := by
  have H := Own.start w
  have HT := Lib.hid hT
  clear hT
  have c1 : ((c : Int) == 0) = false := by simp; omega
  have c2 : decide (7 ≤ (c : Int)) = false := by simp; omega
  have x2 : ¬ 0 ≤ x := by omega
  have eq1 : ∀ w, (Op.equalIn 10000 33 (.agg (limbs (n + 1))) (.agg #[.int .u64 0, .int .u64 0, .int .u64 0, .int .u64 0, .int .u64 0, .int .u64 0])).run Tryd.prog w = .ok (decide ((n + 1) = 0)) w := fun w => run_equal_zero w (n + 1) hn
  clear hn hc0 hc7
  go_enter Tryd.func8, Tryd.ntmps8
  exact walk1
theorem tointWhole_cut_tf (f m a c s fr n : Nat) (x half : Int) (ex : Bool) (w : World) (hT : Tab w) (hc0 : 0 < c) (hc7 : c < 7) (hc4 : decide ((c : Int) < 4) = false) (hn : (n + 1) < top6) (x0 : x < 0) (x1 : -40000 < x) (cU : ∀ w, Tab w → Calls Tryd.prog 13 #[.int .u8 f, BV a] w fun e w' => e = .returned (.tuple #[PV c s x fr, .int .i64 0]) ∧ Below w.heap.size w w') (cM : ∀ w, Calls Tryd.prog 14 #[.int .u8 m] w fun e w' => e = .returned (.int .i64 0) ∧ w = w') (cC : ∀ w, Tab w → Calls Tryd.prog 16 #[W s, .int .i64 (-x)] w fun e w' => e = .returned (.tuple #[W n, .int .i64 half, .bool ex]) ∧ Below w.heap.size w w') (cR : ∀ w, Calls Tryd.prog 17 #[.int .u8 m, .bool false, .bool (Go.bits .and .u64 (limb n 0) 1 == 1), .int .i64 half, .bool ex] w fun e w' => e = .returned (.bool true) ∧ w = w') :
    Calls Tryd.prog 8 #[.int .u8 f, .int .u8 m, BV a] w fun e w' => e = .returned (.tuple #[.bool false, W (n + 1), .bool ex, .int .i64 0]) ∧ Below w.heap.size w w' := by
  have H := Own.start w
  have HT := Lib.hid hT
  clear hT
  have c1 : ((c : Int) == 0) = false := by simp; omega
  have c2 : decide (7 ≤ (c : Int)) = false := by simp; omega
  have x2 : ¬ 0 ≤ x := by omega
  have eq1 : ∀ w, (Op.equalIn 10000 33 (.agg (limbs (n + 1))) (.agg #[.int .u64 0, .int .u64 0, .int .u64 0, .int .u64 0, .int .u64 0, .int .u64 0])).run Tryd.prog w = .ok (decide ((n + 1) = 0)) w := fun w => run_equal_zero w (n + 1) hn
  clear hn hc0 hc7
  go_enter Tryd.func8, Tryd.ntmps8
  exact walk1
theorem tointWhole_cut_ft (f m a c s fr n : Nat) (x half : Int) (ex : Bool) (w : World) (hT : Tab w) (hc0 : 0 < c) (hc7 : c < 7) (hc4 : decide ((c : Int) < 4) = true) (hn : n < top6) (x0 : x < 0) (x1 : -40000 < x) (cU : ∀ w, Tab w → Calls Tryd.prog 13 #[.int .u8 f, BV a] w fun e w' => e = .returned (.tuple #[PV c s x fr, .int .i64 0]) ∧ Below w.heap.size w w') (cM : ∀ w, Calls Tryd.prog 14 #[.int .u8 m] w fun e w' => e = .returned (.int .i64 0) ∧ w = w') (cC : ∀ w, Tab w → Calls Tryd.prog 16 #[W s, .int .i64 (-x)] w fun e w' => e = .returned (.tuple #[W n, .int .i64 half, .bool ex]) ∧ Below w.heap.size w w') (cR : ∀ w, Calls Tryd.prog 17 #[.int .u8 m, .bool true, .bool (Go.bits .and .u64 (limb n 0) 1 == 1), .int .i64 half, .bool ex] w fun e w' => e = .returned (.bool false) ∧ w = w') :
    Calls Tryd.prog 8 #[.int .u8 f, .int .u8 m, BV a] w fun e w' => e = .returned (.tuple #[.bool (!decide (n = 0)), W n, .bool ex, .int .i64 0]) ∧ Below w.heap.size w w' := by
  have H := Own.start w
  have HT := Lib.hid hT
  clear hT
  have c1 : ((c : Int) == 0) = false := by simp; omega
  have c2 : decide (7 ≤ (c : Int)) = false := by simp; omega
  have x2 : ¬ 0 ≤ x := by omega
  have eq1 : ∀ w, (Op.equalIn 10000 33 (.agg (limbs n)) (.agg #[.int .u64 0, .int .u64 0, .int .u64 0, .int .u64 0, .int .u64 0, .int .u64 0])).run Tryd.prog w = .ok (decide (n = 0)) w := fun w => run_equal_zero w n hn
  clear hn hc0 hc7
  go_enter Tryd.func8, Tryd.ntmps8
  exact walk1
theorem tointWhole_cut_ff (f m a c s fr n : Nat) (x half : Int) (ex : Bool) (w : World) (hT : Tab w) (hc0 : 0 < c) (hc7 : c < 7) (hc4 : decide ((c : Int) < 4) = false) (hn : n < top6) (x0 : x < 0) (x1 : -40000 < x) (cU : ∀ w, Tab w → Calls Tryd.prog 13 #[.int .u8 f, BV a] w fun e w' => e = .returned (.tuple #[PV c s x fr, .int .i64 0]) ∧ Below w.heap.size w w') (cM : ∀ w, Calls Tryd.prog 14 #[.int .u8 m] w fun e w' => e = .returned (.int .i64 0) ∧ w = w') (cC : ∀ w, Tab w → Calls Tryd.prog 16 #[W s, .int .i64 (-x)] w fun e w' => e = .returned (.tuple #[W n, .int .i64 half, .bool ex]) ∧ Below w.heap.size w w') (cR : ∀ w, Calls Tryd.prog 17 #[.int .u8 m, .bool false, .bool (Go.bits .and .u64 (limb n 0) 1 == 1), .int .i64 half, .bool ex] w fun e w' => e = .returned (.bool false) ∧ w = w') :
    Calls Tryd.prog 8 #[.int .u8 f, .int .u8 m, BV a] w fun e w' => e = .returned (.tuple #[.bool false, W n, .bool ex, .int .i64 0]) ∧ Below w.heap.size w w' := by
  have H := Own.start w
  have HT := Lib.hid hT
  clear hT
  have c1 : ((c : Int) == 0) = false := by simp; omega
  have c2 : decide (7 ≤ (c : Int)) = false := by simp; omega
  have x2 : ¬ 0 ≤ x := by omega
  have eq1 : ∀ w, (Op.equalIn 10000 33 (.agg (limbs n)) (.agg #[.int .u64 0, .int .u64 0, .int .u64 0, .int .u64 0, .int .u64 0, .int .u64 0])).run Tryd.prog w = .ok (decide (n = 0)) w := fun w => run_equal_zero w n hn
  clear hn hc0 hc7
  go_enter Tryd.func8, Tryd.ntmps8
  exact walk1
open Go.RowKit
theorem odd_limb (n : Nat) : (Go.bits .and .u64 (limb n 0) 1 == 1) = decide (n % 2 = 1) := by
  have h1 : (1 : Int) = limb 1 0 := rfl
  rw [h1, limb_and, show n &&& 1 = n % 2 from Nat.and_one_is_mod n, ← h1]
  unfold limb limbN
  rw [Nat.mul_zero, Nat.pow_zero, Nat.div_one, Nat.mod_eq_of_lt (by omega), Bool.eq_iff_iff, beq_iff_eq, decide_eq_true_iff]
  omega
theorem halfN_cases (a n : Nat) : halfN a n = -1 ∨ halfN a n = 0 ∨ halfN a n = 1 := by
  unfold halfN
  split
  · simp
  · split
    · split <;> simp
    · simp
theorem sigN_lt (f a : Nat) (hf : f < 4) : sigN f a < 2 ^ 113 := by
  have ht := Nat.mod_lt a (two_pos (pF f - 1))
  have hp := pow_pred f hf
  have h8 := (formK f hf).2.2.2.2.2.2.2
  have hm : 2 ^ pF f ≤ 2 ^ 113 := Nat.pow_le_pow_right (by decide) h8
  unfold sigN
  split
  · omega
  · split
    · omega
    · have := two_pos (pF f); omega
theorem lt_of_pow (T b c x : Nat) (h : T = 2 ^ c) (hb : b ≤ c) (hx : x < 2 ^ b) : x < T := by rw [h]; exact Nat.lt_of_lt_of_le hx (pow_mono2 b c hb)
theorem lt_top113 (x : Nat) (h : x < 2 ^ 114) : x < top6 := lt_of_pow top6 114 (64 * 6) x top6.eq_1 (by decide) h
theorem xpN_bd (f a : Nat) (hf : f < 4) : -40000 < xpN f a ∧ xpN f a < 40000 := by
  obtain ⟨h1, h2, h3, h4, h5, h6, h7, h8⟩ := formK f hf
  have hx := expN_lt f a hf
  unfold xpN
  split
  · omega
  · split <;> omega
theorem ret_whole {n n' : Bool} {v v' : Nat} {x x' : Bool} {d d' : Int} {e : Ending} {P : Prop} (h1 : n = n') (h2 : v = v') (h3 : x = x') (h4 : d = d') (k : e = .returned (.tuple #[.bool n, W v, .bool x, .int .i64 d]) ∧ P) :
    e = .returned (.tuple #[.bool n', W v', .bool x', .int .i64 d']) ∧ P := by subst h1 h2 h3 h4; exact k
theorem tointWhole_any (f m a : Nat) (w : World) (hm : m < 256) (ha : a < 2 ^ (64 * 2)) (hT : Tab w) :
    Calls Tryd.prog 8 #[.int .u8 f, .int .u8 m, BV a] w fun e w' => e = .returned (.tuple #[.bool (wholeNeg f m a), W (wholeN f m a), .bool (wholeX f m a), .int .i64 (wholeE f m a)]) ∧ Below w.heap.size w w' := by
  have cM := fun w => shapeCheckMode_any m w hm
  by_cases hfit : fitsB f a = true
  · have hf := ((fits_iff f a).1 hfit).1
    have cU := fun w hT => kindUnpack_yes f a w hfit hT
    have hs := sigN_lt f a hf
    obtain ⟨hx1, hx2⟩ := xpN_bd f a hf
    have hc9 := cls_le f a
    by_cases h5 : m < 5
    · rw [decide_eq_true h5] at cM
      have okE : wholeE f m a = cond (noFin (clsN f a)) 80 (cond (decide (top6 ≤ (wholeG f m a).1)) 4 0) := by unfold wholeE; rw [hfit, decide_eq_true h5]; rfl
      by_cases hnf : clsN f a = 0 ∨ 7 ≤ clsN f a
      · have hE : wholeE f m a = 80 := by rw [okE]; unfold noFin; rcases hnf with h | h <;> simp [h]
        have post : ∀ e w', (e = Ending.returned (.tuple #[.bool false, W 0, .bool false, .int .i64 80]) ∧ Below w.heap.size w w') → e = Ending.returned (.tuple #[.bool (wholeNeg f m a), W (wholeN f m a), .bool (wholeX f m a), .int .i64 (wholeE f m a)]) ∧ Below w.heap.size w w' := fun e w' k =>
          ret_whole (by unfold wholeNeg; rw [hE]; rfl) (by unfold wholeN; rw [hE]; rfl) (by unfold wholeX; rw [hE]; rfl) hE.symm k
        rcases hnf with h | h
        · rw [h] at cU
          exact (tointWhole_inf0 f m a _ _ _ w hT cU cM).mono post
        · exact (tointWhole_inf7 f m a _ _ _ _ w hT (by omega) cU cM).mono post
      · have hc0 : 0 < clsN f a := by omega
        have hc7 : clsN f a < 7 := by omega
        have hnF : noFin (clsN f a) = false := by unfold noFin; rw [decide_eq_false (by omega), decide_eq_false (by omega)]; rfl
        rw [hnF] at okE
        have hb4 : decide ((clsN f a : Int) < 4) = belowN4 (clsN f a) := by unfold belowN4; rw [Bool.eq_iff_iff, decide_eq_true_iff, decide_eq_true_iff]; omega
        by_cases hx : 0 ≤ xpN f a
        · have hG : wholeG f m a = (sigN f a * 2 ^ (xpN f a).toNat, true) := by
            unfold wholeG gridN; rw [if_pos hx, Int.sub_zero]; rfl
          have cL := fun w => wideLeft_n (sigN f a) (xpN f a) w (lt_top113 _ (by omega))
          by_cases hlong : top6 ≤ sigN f a * 2 ^ (xpN f a).toNat
          · rw [decide_eq_true hlong] at cL
            have hE : wholeE f m a = 4 := by rw [okE, hG, decide_eq_true hlong]; rfl
            exact (tointWhole_long f m a _ _ _ _ _ w hT hc0 hc7 hx cU cM cL).mono fun e w' k =>
              ret_whole (by unfold wholeNeg; rw [hE]; rfl) (by unfold wholeN; rw [hE]; rfl) (by unfold wholeX; rw [hE]; rfl) hE.symm k
          · rw [decide_eq_false hlong] at cL
            have hE : wholeE f m a = 0 := by rw [okE, hG, decide_eq_false hlong]; rfl
            cases hb : belowN4 (clsN f a)
            · exact (tointWhole_up_f f m a _ _ _ _ _ w hT hc0 hc7 (hb4.trans hb) (by omega) hx cU cM cL).mono fun e w' k =>
                ret_whole (by unfold wholeNeg; rw [hE, hb]; rfl) (by unfold wholeN; rw [hE, hG]; rfl) (by unfold wholeX; rw [hE, hG]; rfl) hE.symm k
            · exact (tointWhole_up_t f m a _ _ _ _ _ w hT hc0 hc7 (hb4.trans hb) (by omega) hx cU cM cL).mono fun e w' k =>
                ret_whole (by unfold wholeNeg; rw [hE, hb, hG]; rfl) (by unfold wholeN; rw [hE, hG]; rfl) (by unfold wholeX; rw [hE, hG]; rfl) hE.symm k
        · have ht : (0 - xpN f a).toNat = (-xpN f a).toNat := by rw [Int.zero_sub]
          have cC := fun w hT => jamCut_any (sigN f a) (-xpN f a) w (lt_top113 _ (by omega)) hT
          have cR := fun w => roundUp_any m (belowN4 (clsN f a)) (Go.bits .and .u64 (limb (sigN f a / 2 ^ (-xpN f a).toNat) 0) 1 == 1) (halfN (sigN f a) (-xpN f a).toNat) (decide (sigN f a % 2 ^ (-xpN f a).toNat = 0)) w hm (halfN_cases _ _)
          have hq : sigN f a / 2 ^ (-xpN f a).toNat ≤ sigN f a := Nat.div_le_self _ _
          cases hu : upB m (belowN4 (clsN f a)) (Go.bits .and .u64 (limb (sigN f a / 2 ^ (-xpN f a).toNat) 0) 1 == 1) (halfN (sigN f a) (-xpN f a).toNat) (decide (sigN f a % 2 ^ (-xpN f a).toNat = 0))
          · have hG : wholeG f m a = (sigN f a / 2 ^ (-xpN f a).toNat, decide (sigN f a % 2 ^ (-xpN f a).toNat = 0)) := by
              unfold wholeG gridN; rw [if_neg hx, ht]
              rw [odd_limb] at hu
              simp only [Bool.false_and, cond, Bool.not_false, Bool.and_true]
              rw [hu]; rfl
            have hE : wholeE f m a = 0 := by rw [okE, hG, decide_eq_false (by have := lt_top113 _ (show sigN f a / 2 ^ (-xpN f a).toNat < 2 ^ 114 by omega); first | omega | (simp only []; omega))]; rfl
            rw [hu] at cR
            cases hb : belowN4 (clsN f a)
            · rw [hb] at cR
              exact (tointWhole_cut_ff f m a _ _ _ _ _ _ _ w hT hc0 hc7 (hb4.trans hb) (lt_top113 _ (by omega)) (by omega) hx1 cU cM cC cR).mono fun e w' k =>
                ret_whole (by unfold wholeNeg; rw [hE, hb]; rfl) (by unfold wholeN; rw [hE, hG]; rfl) (by unfold wholeX; rw [hE, hG]; rfl) hE.symm k
            · rw [hb] at cR
              exact (tointWhole_cut_ft f m a _ _ _ _ _ _ _ w hT hc0 hc7 (hb4.trans hb) (lt_top113 _ (by omega)) (by omega) hx1 cU cM cC cR).mono fun e w' k =>
                ret_whole (by unfold wholeNeg; rw [hE, hb, hG]; rfl) (by unfold wholeN; rw [hE, hG]; rfl) (by unfold wholeX; rw [hE, hG]; rfl) hE.symm k
          · have hG : wholeG f m a = (sigN f a / 2 ^ (-xpN f a).toNat + 1, decide (sigN f a % 2 ^ (-xpN f a).toNat = 0)) := by
              unfold wholeG gridN; rw [if_neg hx, ht]
              rw [odd_limb] at hu
              simp only [Bool.false_and, cond, Bool.not_false, Bool.and_true]
              rw [hu]
            have hE : wholeE f m a = 0 := by rw [okE, hG, decide_eq_false (by have := lt_top113 _ (show sigN f a / 2 ^ (-xpN f a).toNat + 1 < 2 ^ 114 by omega); first | omega | (simp only []; omega))]; rfl
            rw [hu] at cR
            cases hb : belowN4 (clsN f a)
            · rw [hb] at cR
              exact (tointWhole_cut_tf f m a _ _ _ _ _ _ _ w hT hc0 hc7 (hb4.trans hb) (lt_top113 _ (by omega)) (by omega) hx1 cU cM cC cR).mono fun e w' k =>
                ret_whole (by unfold wholeNeg; rw [hE, hb]; rfl) (by unfold wholeN; rw [hE, hG]; rfl) (by unfold wholeX; rw [hE, hG]; rfl) hE.symm k
            · rw [hb] at cR
              exact (tointWhole_cut_tt f m a _ _ _ _ _ _ _ w hT hc0 hc7 (hb4.trans hb) (lt_top113 _ (by omega)) (by omega) hx1 cU cM cC cR).mono fun e w' k =>
                ret_whole (by unfold wholeNeg; rw [hE, hb, hG]; rfl) (by unfold wholeN; rw [hE, hG]; rfl) (by unfold wholeX; rw [hE, hG]; rfl) hE.symm k
    · rw [decide_eq_false h5] at cM
      have hE : wholeE f m a = 2 := by unfold wholeE; rw [decide_eq_false h5, Bool.and_false]; rfl
      exact (tointWhole_mode f m a _ _ _ _ w hT cU cM).mono fun e w' k =>
        ret_whole (by unfold wholeNeg; rw [hE]; rfl) (by unfold wholeN; rw [hE]; rfl) (by unfold wholeX; rw [hE]; rfl) hE.symm k
  · have hfit' : fitsB f a = false := by simpa using hfit
    have cU := fun w (_ : Tab w) => kindUnpack_not f a w ha hfit'
    have hE : wholeE f m a = 2 := by unfold wholeE; rw [hfit', Bool.false_and]; rfl
    exact (tointWhole_no f m a _ _ _ _ w hT cU).mono fun e w' k =>
      ret_whole (by unfold wholeNeg; rw [hE]; rfl) (by unfold wholeN; rw [hE]; rfl) (by unfold wholeX; rw [hE]; rfl) hE.symm k
open Go.RowKit
theorem sext_wrap (x : Nat) : IntKind.u64.wrap (wrap64 (wrap32 ((x : Int) % 4294967296))) = ((sext32 x : Nat) : Int) := by
  simp only [wrap64, wrap32, IntKind.wrap_u64]
  unfold sext32
  by_cases hh : x % 4294967296 < 2147483648
  · rw [decide_eq_true hh]; simp only [cond]; omega
  · rw [decide_eq_false hh]; simp only [cond]; omega
theorem sext_neg (n : Nat) (h : n < 18446744073709551616) : IntKind.u64.wrap (wrap64 (wrap32 (IntKind.u64.wrap (-(n : Int)) % 4294967296))) = ((sext32 (neg64 true n) : Nat) : Int) := by
  rw [wrap_neg64 n h, sext_wrap]
theorem toldN_low (k n : Nat) (neg : Bool) (hk : k < 2) : toldN k neg n = sext32 (neg64 neg n) := by unfold toldN; rw [decide_eq_true hk]; rfl
theorem toldN_high (k n : Nat) (neg : Bool) (hk : ¬ k < 2) : toldN k neg n = neg64 neg n := by unfold toldN; rw [decide_eq_false hk]; rfl
theorem tointTold_any (k n : Nat) (neg : Bool) (w : World) (hk : k < 4) (hn : n < 18446744073709551616) :
    Calls Tryd.prog 12 #[.int .u8 k, .bool neg, .int .u64 n] w fun e w' => e = .returned (.int .u64 (toldN k neg n : Nat)) ∧ w = w' := by
  have HN := Lib.hid hn
  clear hn
  have : k = 0 ∨ k = 1 ∨ k = 2 ∨ k = 3 := by omega
  rcases this with rfl | rfl | rfl | rfl <;> cases neg
  · rw [toldN_low _ _ _ (by decide)]
    go_enter Tryd.func12, Tryd.ntmps12
    go_wp2
    go_ret
    exact ⟨ret_int (sext_wrap n), rfl⟩
  · rw [toldN_low _ _ _ (by decide)]
    go_enter Tryd.func12, Tryd.ntmps12
    go_wp2
    go_ret
    exact ⟨ret_int (sext_neg n HN.out), rfl⟩
  · rw [toldN_low _ _ _ (by decide)]
    go_enter Tryd.func12, Tryd.ntmps12
    go_wp2
    go_ret
    exact ⟨ret_int (sext_wrap n), rfl⟩
  · rw [toldN_low _ _ _ (by decide)]
    go_enter Tryd.func12, Tryd.ntmps12
    go_wp2
    go_ret
    exact ⟨ret_int (sext_neg n HN.out), rfl⟩
  · rw [toldN_high _ _ _ (by decide)]
    go_enter Tryd.func12, Tryd.ntmps12
    go_wp2
    go_ret
    exact ⟨rfl, rfl⟩
  · rw [toldN_high _ _ _ (by decide)]
    go_enter Tryd.func12, Tryd.ntmps12
    go_wp2
    go_ret
    exact ⟨ret_int (wrap_neg64 n HN.out), rfl⟩
  · rw [toldN_high _ _ _ (by decide)]
    go_enter Tryd.func12, Tryd.ntmps12
    go_wp2
    go_ret
    exact ⟨rfl, rfl⟩
  · rw [toldN_high _ _ _ (by decide)]
    go_enter Tryd.func12, Tryd.ntmps12
    go_wp2
    go_ret
    exact ⟨ret_int (wrap_neg64 n HN.out), rfl⟩
open Go.RowKit
theorem div_step (a k : Nat) : a / 2 ^ (64 * k) = a / 2 ^ (64 * (k + 1)) * 18446744073709551616 + limbN a k := by
  unfold limbN
  rw [pw_succ, ← Nat.div_div_eq_div_mul]
  have := Nat.div_add_mod (a / 2 ^ (64 * k)) 18446744073709551616
  omega
theorem cmp_less (a b k : Nat) (h : a / 2 ^ (64 * (k + 1)) = b / 2 ^ (64 * (k + 1))) (hl : limbN a k < limbN b k) : a < b := by
  have h1 := div_step a k
  have h2 := div_step b k
  rw [h] at h1
  rcases Nat.lt_or_ge a b with hab | hab
  · exact hab
  · have := Nat.div_le_div_right (c := 2 ^ (64 * k)) hab
    omega
theorem cmp_same (a b k : Nat) (h : a / 2 ^ (64 * (k + 1)) = b / 2 ^ (64 * (k + 1))) (hl : limbN a k = limbN b k) : a / 2 ^ (64 * k) = b / 2 ^ (64 * k) := by
  rw [div_step a k, div_step b k, h, hl]
def EqFrom (a b k : Nat) : Prop := a / 2 ^ (64 * k) = b / 2 ^ (64 * k)
theorem eqFrom6 {a b : Nat} (ha : a < top6) (hb : b < top6) : EqFrom a b 6 := by
  unfold top6 at ha hb
  unfold EqFrom
  rw [Nat.div_eq_of_lt ha, Nat.div_eq_of_lt hb]
theorem below_drewN {B : Nat} {w w' : World} (h : Below B w w') (n : Nat) : Below B w (w'.drewN n) := ⟨h.os, h.tape, h.output, h.size, h.block⟩
theorem limb_lt (a b k : Nat) : limb a k < limb b k ↔ limbN a k < limbN b k := by unfold limb; omega
theorem wideCmp_any (a b : Nat) (w : World) (ha : a < top6) (hb : b < top6) :
    Calls Tryd.prog 56 #[W a, W b] w fun e w' => e = .returned (.int .i64 (cmpN a b)) ∧ Below w.heap.size w w' := by
  have sa := limbs_size a
  have sb := limbs_size b
  have E6 := eqFrom6 ha hb
  clear ha hb
  go_enter Tryd.func56, Tryd.ntmps56
  go_wp2_with fail
  go_loopw [5] (fun i wr => ∃ k : Nat, k ≤ 6 ∧ i = .int .i64 ((k : Int) - 1) ∧ EqFrom a b k ∧ Blk 33 wr w.heap.size (limbs a) ∧ Blk 33 wr (w.heap.size + 1) (limbs b) ∧ Below w.heap.size w wr) (fun i _ => (intOf i + 1).toNat)
  case atStart =>
    refine ⟨6, by omega, rfl, E6, (Blk.new w _).alloc _, ?_, ((Below.refl _ _).alloc (Nat.le_refl _) _).alloc (by simp) _⟩
    have := Blk.new (T := 33) (w.alloc (.cells (limbs a) 33)) (limbs b)
    simpa using this
  case round =>
    obtain ⟨k, hk, rfl, hE, hA, hB, hbel⟩ := hrel
    cases k with
    | zero =>
      have Z := Lib.hid (show (0 : Int) = cmpN a b by
        have : a = b := by have := hE; unfold EqFrom at this; simpa using this
        unfold cmpN; rw [if_neg (by omega), if_neg (by omega)])
      clear hE
      go_wp2_with fail
      go_ret
      exact ⟨ret_int Z.out, hbel⟩
    | succ j =>
      have ca := hA.cell j (limbs_get a j (by omega))
      have cb := hB.cell j (limbs_get b j (by omega))
      rw [show ((j + 1 : Nat) : Int) - 1 = (j : Int) by omega]
      by_cases h1 : limb a j < limb b j
      · have Z := Lib.hid (show (-1 : Int) = cmpN a b by
          have := cmp_less a b j hE ((limb_lt a b j).1 h1)
          unfold cmpN; rw [if_pos this])
        have d1 : decide (limb a j < limb b j) = true := decide_eq_true h1
        clear hE
        go_wp2_with fail
        go_quiet (fail)
        go_wp2_with fail
        go_ret
        exact ⟨ret_int Z.out, below_drewN hbel _⟩
      · have d1 : decide (limb a j < limb b j) = false := decide_eq_false h1
        by_cases h2 : limb b j < limb a j
        · have Z := Lib.hid (show (1 : Int) = cmpN a b by
            have := cmp_less b a j hE.symm ((limb_lt b a j).1 h2)
            unfold cmpN; rw [if_neg (by omega), if_pos this])
          have d2 : decide (limb b j < limb a j) = true := decide_eq_true h2
          clear hE h1
          go_wp2_with fail
          go_quiet (fail)
          go_wp2_with fail
          go_quiet (fail)
          go_wp2_with fail
          go_ret
          exact ⟨ret_int Z.out, below_drewN (below_drewN hbel _) _⟩
        · have d2 : decide (limb b j < limb a j) = false := decide_eq_false h2
          have S : EqFrom a b j := cmp_same a b j hE (by unfold limb at h1 h2; omega)
          clear hE h1 h2
          go_wp2_with fail
          go_quiet (fail)
          go_wp2_with fail
          go_quiet (fail)
          go_wp2_with fail
          go_roundw
          case rel => exact ⟨j, by omega, rfl, S, hA, hB, below_drewN hbel _⟩
          case measure => simp [intOf]
end Go.Proofs.YtecdpjhifmlahaaDoor
