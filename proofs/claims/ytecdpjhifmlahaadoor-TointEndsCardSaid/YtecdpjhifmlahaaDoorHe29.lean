/- TointEnds: for every input the law returns true, and each argument reads behind the call as it read before; the listed table is tied to the program's text. -/
import Derived.Test.YtecdpjhifmlahaaDoorRows
import Derived.Test.YtecdpjhifmlahaaDoorTie
import Derived.Test.YtecdpjhifmlahaaDoorCards
import Derived.WalkKit
import Derived.ProofKit
import Derived.LaidMore
import Derived.OpenShut
import Derived.Stop.Joined
import Derived.SevenTiedAt
import Derived.Lib.SmallJoins
import Derived.ChangeOld
import Derived.Below
import Derived.Carry
import Derived.Test.YtecdpjhifmlahaaDoorHe1
import Derived.Test.YtecdpjhifmlahaaDoorHe2
import Derived.Test.YtecdpjhifmlahaaDoorHe3
import Derived.Test.YtecdpjhifmlahaaDoorHe24
import Derived.Test.YtecdpjhifmlahaaDoorHe28
set_option linter.unusedSimpArgs false
set_option linter.unusedVariables false
set_option linter.unnecessarySimpa false
set_option maxRecDepth 100000
set_option maxHeartbeats 1600000
namespace Go.Proofs.YtecdpjhifmlahaaDoor
open Go.RowKit
theorem results_ttt {fn : Func} {t u v : Tmp} {tmps : Array Value} {P : Program} {w : World} (h : fn.results = #[.tmp t, .tmp u, .tmp v]) :
    (results fn tmps).run P w = .ok (.tuple #[tmps.getD t undef, tmps.getD u undef, tmps.getD v undef]) w := by simp [results, h]
theorem walk3 {P : Prop} (h : P := by
  go_wp2_with (first
    | ((with_reducible show wpList _ _ _ (⟨_, .box _ _, _, _, _, _⟩ :: _) _ _); refine H.box rfl rfl (cells_agg _) ?_; (intro g w H; simp only [Act.put, q1_, q2_, q3_]))
    | ((with_reducible show wpList _ _ _ (⟨_, .alloc 33, _, _, _, _⟩ :: _) _ _); refine H.new rfl (T := 33) rfl tW_z (cells_agg _) ?_; (intro g w H; simp only [Act.put, q1_, q2_, q3_]))
    | ((with_reducible show wpList _ _ _ (⟨_, .alloc 27, _, _, _, _⟩ :: _) _ _); refine H.new rfl (T := 27) rfl tB_z (cells_agg _) ?_; (intro g w H; simp only [Act.put, q1_, q2_, q3_]))
    | ((with_reducible show wpList _ _ _ (⟨_, .alloc 25, _, _, _, _⟩ :: _) _ _); refine H.new rfl (T := 25) rfl tu_z (cells_int _ _) ?_; (intro g w H; simp only [Act.put, q1_, q2_, q3_]))
    | ((with_reducible show wpList _ _ _ (⟨_, .load 33 _, _, _, _, _⟩ :: _) _ _); (first | refine H.load rfl (ty := 33) rfl rfl 0 rfl Tryd.underlying33 rfl (by with_reducible exact ext_limbs _) (by exact tW_s) ?_ | refine H.load rfl (ty := 33) rfl rfl 0 rfl Tryd.underlying33 rfl v22_ (by exact tW_s) ?_ | refine H.load rfl (ty := 33) rfl rfl 0 rfl Tryd.underlying33 rfl v23_ (by exact tW_s) ?_ | refine H.load rfl (ty := 33) rfl rfl 0 rfl Tryd.underlying33 rfl v24_ (by exact tW_s) ?_ | refine H.load rfl (ty := 33) rfl rfl 1 rfl Tryd.underlying33 rfl (by with_reducible exact ext_limbs _) (by exact tW_s) ?_ | refine H.load rfl (ty := 33) rfl rfl 1 rfl Tryd.underlying33 rfl v22_ (by exact tW_s) ?_ | refine H.load rfl (ty := 33) rfl rfl 1 rfl Tryd.underlying33 rfl v23_ (by exact tW_s) ?_ | refine H.load rfl (ty := 33) rfl rfl 1 rfl Tryd.underlying33 rfl v24_ (by exact tW_s) ?_ | refine H.load rfl (ty := 33) rfl rfl 2 rfl Tryd.underlying33 rfl (by with_reducible exact ext_limbs _) (by exact tW_s) ?_ | refine H.load rfl (ty := 33) rfl rfl 2 rfl Tryd.underlying33 rfl v22_ (by exact tW_s) ?_ | refine H.load rfl (ty := 33) rfl rfl 2 rfl Tryd.underlying33 rfl v23_ (by exact tW_s) ?_ | refine H.load rfl (ty := 33) rfl rfl 2 rfl Tryd.underlying33 rfl v24_ (by exact tW_s) ?_ | refine H.load rfl (ty := 33) rfl rfl 3 rfl Tryd.underlying33 rfl (by with_reducible exact ext_limbs _) (by exact tW_s) ?_ | refine H.load rfl (ty := 33) rfl rfl 3 rfl Tryd.underlying33 rfl v22_ (by exact tW_s) ?_ | refine H.load rfl (ty := 33) rfl rfl 3 rfl Tryd.underlying33 rfl v23_ (by exact tW_s) ?_ | refine H.load rfl (ty := 33) rfl rfl 3 rfl Tryd.underlying33 rfl v24_ (by exact tW_s) ?_); simp only [Act.put, q1_, q2_, q3_])
    | ((with_reducible show wpList _ _ _ (⟨_, .load 27 _, _, _, _, _⟩ :: _) _ _); (first | refine H.load rfl (ty := 27) rfl rfl 0 rfl Tryd.underlying27 rfl (by with_reducible exact ext_2 _ _) (by exact tB_s) ?_ | refine H.load rfl (ty := 27) rfl rfl 1 rfl Tryd.underlying27 rfl (by with_reducible exact ext_2 _ _) (by exact tB_s) ?_ | refine H.load rfl (ty := 27) rfl rfl 2 rfl Tryd.underlying27 rfl (by with_reducible exact ext_2 _ _) (by exact tB_s) ?_ | refine H.load rfl (ty := 27) rfl rfl 3 rfl Tryd.underlying27 rfl (by with_reducible exact ext_2 _ _) (by exact tB_s) ?_); simp only [Act.put, q1_, q2_, q3_])
    | ((with_reducible show wpList _ _ _ (⟨_, .load 25 _, _, _, _, _⟩ :: _) _ _); (first | refine H.load1 rfl (ty := 25) rfl rfl 0 rfl Tryd.underlying25 rfl (by with_reducible exact get_20 _ _) ?_ | refine H.load1 rfl (ty := 25) rfl rfl 0 rfl Tryd.underlying25 rfl (by with_reducible exact get_21 _ _) ?_ | refine H.load1 rfl (ty := 25) rfl rfl 0 rfl Tryd.underlying25 rfl (by with_reducible exact limbs_o0 _) ?_ | refine H.load1 rfl (ty := 25) rfl rfl 0 rfl Tryd.underlying25 rfl (by with_reducible exact limbs_o1 _) ?_ | refine H.load1 rfl (ty := 25) rfl rfl 0 rfl Tryd.underlying25 rfl (by with_reducible exact limbs_o2 _) ?_ | refine H.load1 rfl (ty := 25) rfl rfl 0 rfl Tryd.underlying25 rfl (by with_reducible exact limbs_o3 _) ?_ | refine H.load1 rfl (ty := 25) rfl rfl 0 rfl Tryd.underlying25 rfl (by with_reducible exact limbs_o4 _) ?_ | refine H.load1 rfl (ty := 25) rfl rfl 0 rfl Tryd.underlying25 rfl (by with_reducible exact limbs_o5 _) ?_ | refine H.load1 rfl (ty := 25) rfl rfl 0 rfl Tryd.underlying25 rfl (by with_reducible exact get_10 _) ?_ | refine H.load1 rfl (ty := 25) rfl rfl 1 rfl Tryd.underlying25 rfl (by with_reducible exact get_20 _ _) ?_ | refine H.load1 rfl (ty := 25) rfl rfl 1 rfl Tryd.underlying25 rfl (by with_reducible exact get_21 _ _) ?_ | refine H.load1 rfl (ty := 25) rfl rfl 1 rfl Tryd.underlying25 rfl (by with_reducible exact limbs_o0 _) ?_ | refine H.load1 rfl (ty := 25) rfl rfl 1 rfl Tryd.underlying25 rfl (by with_reducible exact limbs_o1 _) ?_ | refine H.load1 rfl (ty := 25) rfl rfl 1 rfl Tryd.underlying25 rfl (by with_reducible exact limbs_o2 _) ?_ | refine H.load1 rfl (ty := 25) rfl rfl 1 rfl Tryd.underlying25 rfl (by with_reducible exact limbs_o3 _) ?_ | refine H.load1 rfl (ty := 25) rfl rfl 1 rfl Tryd.underlying25 rfl (by with_reducible exact limbs_o4 _) ?_ | refine H.load1 rfl (ty := 25) rfl rfl 1 rfl Tryd.underlying25 rfl (by with_reducible exact limbs_o5 _) ?_ | refine H.load1 rfl (ty := 25) rfl rfl 1 rfl Tryd.underlying25 rfl (by with_reducible exact get_10 _) ?_ | refine H.load1 rfl (ty := 25) rfl rfl 2 rfl Tryd.underlying25 rfl (by with_reducible exact get_20 _ _) ?_ | refine H.load1 rfl (ty := 25) rfl rfl 2 rfl Tryd.underlying25 rfl (by with_reducible exact get_21 _ _) ?_ | refine H.load1 rfl (ty := 25) rfl rfl 2 rfl Tryd.underlying25 rfl (by with_reducible exact limbs_o0 _) ?_ | refine H.load1 rfl (ty := 25) rfl rfl 2 rfl Tryd.underlying25 rfl (by with_reducible exact limbs_o1 _) ?_ | refine H.load1 rfl (ty := 25) rfl rfl 2 rfl Tryd.underlying25 rfl (by with_reducible exact limbs_o2 _) ?_ | refine H.load1 rfl (ty := 25) rfl rfl 2 rfl Tryd.underlying25 rfl (by with_reducible exact limbs_o3 _) ?_ | refine H.load1 rfl (ty := 25) rfl rfl 2 rfl Tryd.underlying25 rfl (by with_reducible exact limbs_o4 _) ?_ | refine H.load1 rfl (ty := 25) rfl rfl 2 rfl Tryd.underlying25 rfl (by with_reducible exact limbs_o5 _) ?_ | refine H.load1 rfl (ty := 25) rfl rfl 2 rfl Tryd.underlying25 rfl (by with_reducible exact get_10 _) ?_ | refine H.load1 rfl (ty := 25) rfl rfl 3 rfl Tryd.underlying25 rfl (by with_reducible exact get_20 _ _) ?_ | refine H.load1 rfl (ty := 25) rfl rfl 3 rfl Tryd.underlying25 rfl (by with_reducible exact get_21 _ _) ?_ | refine H.load1 rfl (ty := 25) rfl rfl 3 rfl Tryd.underlying25 rfl (by with_reducible exact limbs_o0 _) ?_ | refine H.load1 rfl (ty := 25) rfl rfl 3 rfl Tryd.underlying25 rfl (by with_reducible exact limbs_o1 _) ?_ | refine H.load1 rfl (ty := 25) rfl rfl 3 rfl Tryd.underlying25 rfl (by with_reducible exact limbs_o2 _) ?_ | refine H.load1 rfl (ty := 25) rfl rfl 3 rfl Tryd.underlying25 rfl (by with_reducible exact limbs_o3 _) ?_ | refine H.load1 rfl (ty := 25) rfl rfl 3 rfl Tryd.underlying25 rfl (by with_reducible exact limbs_o4 _) ?_ | refine H.load1 rfl (ty := 25) rfl rfl 3 rfl Tryd.underlying25 rfl (by with_reducible exact limbs_o5 _) ?_ | refine H.load1 rfl (ty := 25) rfl rfl 3 rfl Tryd.underlying25 rfl (by with_reducible exact get_10 _) ?_); simp only [Act.put, q1_, q2_, q3_])
    | ((with_reducible show wpList _ _ _ (⟨_, .store 33 _ _, _, _, _, _⟩ :: _) _ _); (first | refine H.store rfl (ty := 33) rfl rfl (cells_agg _) 0 rfl v29_ (by exact tW_s) (one_of rfl) (ble_le rfl) ?_ | refine H.store rfl (ty := 33) rfl rfl (cells_agg _) 0 rfl v30_ (by exact tW_s) (one_of rfl) (ble_le rfl) ?_ | refine H.store rfl (ty := 33) rfl rfl (cells_agg _) 0 rfl v31_ (by exact tW_s) (one_of rfl) (ble_le rfl) ?_ | refine H.store rfl (ty := 33) rfl rfl (cells_agg _) 0 rfl v32_ (by exact tW_s) (one_of rfl) (ble_le rfl) ?_ | refine H.store rfl (ty := 33) rfl rfl (cells_agg _) 0 rfl v33_ (by exact tW_s) (one_of rfl) (ble_le rfl) ?_ | refine H.store rfl (ty := 33) rfl rfl (cells_agg _) 1 rfl v29_ (by exact tW_s) (one_of rfl) (ble_le rfl) ?_ | refine H.store rfl (ty := 33) rfl rfl (cells_agg _) 1 rfl v30_ (by exact tW_s) (one_of rfl) (ble_le rfl) ?_ | refine H.store rfl (ty := 33) rfl rfl (cells_agg _) 1 rfl v31_ (by exact tW_s) (one_of rfl) (ble_le rfl) ?_ | refine H.store rfl (ty := 33) rfl rfl (cells_agg _) 1 rfl v32_ (by exact tW_s) (one_of rfl) (ble_le rfl) ?_ | refine H.store rfl (ty := 33) rfl rfl (cells_agg _) 1 rfl v33_ (by exact tW_s) (one_of rfl) (ble_le rfl) ?_ | refine H.store rfl (ty := 33) rfl rfl (cells_agg _) 2 rfl v29_ (by exact tW_s) (one_of rfl) (ble_le rfl) ?_ | refine H.store rfl (ty := 33) rfl rfl (cells_agg _) 2 rfl v30_ (by exact tW_s) (one_of rfl) (ble_le rfl) ?_ | refine H.store rfl (ty := 33) rfl rfl (cells_agg _) 2 rfl v31_ (by exact tW_s) (one_of rfl) (ble_le rfl) ?_ | refine H.store rfl (ty := 33) rfl rfl (cells_agg _) 2 rfl v32_ (by exact tW_s) (one_of rfl) (ble_le rfl) ?_ | refine H.store rfl (ty := 33) rfl rfl (cells_agg _) 2 rfl v33_ (by exact tW_s) (one_of rfl) (ble_le rfl) ?_ | refine H.store rfl (ty := 33) rfl rfl (cells_agg _) 3 rfl v29_ (by exact tW_s) (one_of rfl) (ble_le rfl) ?_ | refine H.store rfl (ty := 33) rfl rfl (cells_agg _) 3 rfl v30_ (by exact tW_s) (one_of rfl) (ble_le rfl) ?_ | refine H.store rfl (ty := 33) rfl rfl (cells_agg _) 3 rfl v31_ (by exact tW_s) (one_of rfl) (ble_le rfl) ?_ | refine H.store rfl (ty := 33) rfl rfl (cells_agg _) 3 rfl v32_ (by exact tW_s) (one_of rfl) (ble_le rfl) ?_ | refine H.store rfl (ty := 33) rfl rfl (cells_agg _) 3 rfl v33_ (by exact tW_s) (one_of rfl) (ble_le rfl) ?_); (intro w H; simp only [q2_, q3_] at H; simp only [Act.put, q1_, q2_, q3_]))
    | ((with_reducible show wpList _ _ _ (⟨_, .store 27 _ _, _, _, _, _⟩ :: _) _ _); (first | refine H.store rfl (ty := 27) rfl rfl (cells_agg _) 0 rfl v30_ (by exact tB_s) (one_of rfl) (ble_le rfl) ?_ | refine H.store rfl (ty := 27) rfl rfl (cells_agg _) 1 rfl v30_ (by exact tB_s) (one_of rfl) (ble_le rfl) ?_ | refine H.store rfl (ty := 27) rfl rfl (cells_agg _) 2 rfl v30_ (by exact tB_s) (one_of rfl) (ble_le rfl) ?_ | refine H.store rfl (ty := 27) rfl rfl (cells_agg _) 3 rfl v30_ (by exact tB_s) (one_of rfl) (ble_le rfl) ?_); (intro w H; simp only [q2_, q3_] at H; simp only [Act.put, q1_, q2_, q3_]))
    | ((with_reducible show wpList _ _ _ (⟨_, .store 25 _ _, _, _, _, _⟩ :: _) _ _); (first | refine H.store rfl (ty := 25) rfl rfl (cells_int _ _) 0 rfl (by with_reducible exact set_20 _ _ _) (by exact tu_s) (one_of rfl) (ble_le rfl) ?_ | refine H.store rfl (ty := 25) rfl rfl (cells_int _ _) 0 rfl (by with_reducible exact set_21 _ _ _) (by exact tu_s) (one_of rfl) (ble_le rfl) ?_ | refine H.store rfl (ty := 25) rfl rfl (cells_int _ _) 0 rfl (by with_reducible exact set_10 _ _) (by exact tu_s) (one_of rfl) (ble_le rfl) ?_ | refine H.store rfl (ty := 25) rfl rfl (cells_int _ _) 1 rfl (by with_reducible exact set_20 _ _ _) (by exact tu_s) (one_of rfl) (ble_le rfl) ?_ | refine H.store rfl (ty := 25) rfl rfl (cells_int _ _) 1 rfl (by with_reducible exact set_21 _ _ _) (by exact tu_s) (one_of rfl) (ble_le rfl) ?_ | refine H.store rfl (ty := 25) rfl rfl (cells_int _ _) 1 rfl (by with_reducible exact set_10 _ _) (by exact tu_s) (one_of rfl) (ble_le rfl) ?_ | refine H.store rfl (ty := 25) rfl rfl (cells_int _ _) 2 rfl (by with_reducible exact set_20 _ _ _) (by exact tu_s) (one_of rfl) (ble_le rfl) ?_ | refine H.store rfl (ty := 25) rfl rfl (cells_int _ _) 2 rfl (by with_reducible exact set_21 _ _ _) (by exact tu_s) (one_of rfl) (ble_le rfl) ?_ | refine H.store rfl (ty := 25) rfl rfl (cells_int _ _) 2 rfl (by with_reducible exact set_10 _ _) (by exact tu_s) (one_of rfl) (ble_le rfl) ?_ | refine H.store rfl (ty := 25) rfl rfl (cells_int _ _) 3 rfl (by with_reducible exact set_20 _ _ _) (by exact tu_s) (one_of rfl) (ble_le rfl) ?_ | refine H.store rfl (ty := 25) rfl rfl (cells_int _ _) 3 rfl (by with_reducible exact set_21 _ _ _) (by exact tu_s) (one_of rfl) (ble_le rfl) ?_ | refine H.store rfl (ty := 25) rfl rfl (cells_int _ _) 3 rfl (by with_reducible exact set_10 _ _) (by exact tu_s) (one_of rfl) (ble_le rfl) ?_); (intro w H; simp only [q2_, q3_] at H; simp only [Act.put, q1_, q2_, q3_]))
    | (go_at_call 8; ((with_reducible refine (cW _ (HT.out.below H.below)).mono ?_); rintro e w ⟨rfl, hb⟩; replace H := H.call hb; clear hb))
    | (go_at_call 11; ((with_reducible refine (cE _).mono ?_); rintro e w ⟨rfl, hb⟩; replace H := H.call hb; clear hb))
    | (go_at_call 55; ((with_reducible refine (cC _ (HT.out.below H.below)).mono ?_); rintro e w ⟨rfl, hb⟩; replace H := H.call hb; clear hb))
    | (go_at_call 12; ((with_reducible refine (cT _).mono ?_); rintro e w' ⟨rfl, rfl⟩))
    )
  all_goals (refine bodyPost_ret (results_ttt rfl) rfl ?_; exact ⟨rfl, H.below⟩)) : P := h
theorem tointConvert_kind (k f m a : Nat) (w : World) (hk : 4 ≤ k) :
    Calls Tryd.prog 28 #[.int .u8 k, .int .u8 f, .int .u8 m, BV a] w fun e w' => e = .returned (.tuple #[.int .u64 0, .int .u8 0, .int .i64 2]) ∧ Below w.heap.size w w' := by
  have H := Own.start w
  have k3 : 3 < (k : Int) := by omega
  go_enter Tryd.func28, Tryd.ntmps28
  exact walk3
theorem tointConvert_arg (k f m a n low high : Nat) (neg ex : Bool) (w : World) (hT : Tab w) (hk : k < 4) (cW : ∀ w, Tab w → Calls Tryd.prog 8 #[.int .u8 f, .int .u8 m, BV a] w fun e w' => e = .returned (.tuple #[.bool neg, W n, .bool ex, .int .i64 2]) ∧ Below w.heap.size w w') (cE : ∀ w, Calls Tryd.prog 11 #[.int .u8 k] w fun e w' => e = .returned (.tuple #[.int .u64 (low : Nat), .int .u64 (high : Nat)]) ∧ Below w.heap.size w w') :
    Calls Tryd.prog 28 #[.int .u8 k, .int .u8 f, .int .u8 m, BV a] w fun e w' => e = .returned (.tuple #[.int .u64 0, .int .u8 0, .int .i64 2]) ∧ Below w.heap.size w w' := by
  have H := Own.start w
  have HT := Lib.hid hT
  clear hT
  have k3 : ¬ 3 < (k : Int) := by omega
  go_enter Tryd.func28, Tryd.ntmps28
  exact walk3
theorem tointConvert_none_t (k f m a n low high : Nat) (c : Nat) (t er ce : Int) (neg ex : Bool) (w : World) (hT : Tab w) (hk : k < 4) (e2 : (er == 2) = false) (e0 : (er == 0) = false) (hc : (c : Int) < 4) (cW : ∀ w, Tab w → Calls Tryd.prog 8 #[.int .u8 f, .int .u8 m, BV a] w fun e w' => e = .returned (.tuple #[.bool neg, W n, .bool ex, .int .i64 er]) ∧ Below w.heap.size w w') (cE : ∀ w, Calls Tryd.prog 11 #[.int .u8 k] w fun e w' => e = .returned (.tuple #[.int .u64 (low : Nat), .int .u64 (high : Nat)]) ∧ Below w.heap.size w w') (cC : ∀ w, Tab w → Calls Tryd.prog 55 #[.int .u8 f, BV a] w fun e w' => e = .returned (.tuple #[.int .u8 (c : Nat), .int .i64 ce]) ∧ Below w.heap.size w w') (cT : ∀ w, Calls Tryd.prog 12 #[.int .u8 k, .bool true, .int .u64 (low : Nat)] w fun e w' => e = .returned (.int .u64 t) ∧ w = w') :
    Calls Tryd.prog 28 #[.int .u8 k, .int .u8 f, .int .u8 m, BV a] w fun e w' => e = .returned (.tuple #[.int .u64 t, .int .u8 16, .int .i64 0]) ∧ Below w.heap.size w w' := by
  have H := Own.start w
  have HT := Lib.hid hT
  clear hT
  have k3 : ¬ 3 < (k : Int) := by omega
  go_enter Tryd.func28, Tryd.ntmps28
  exact walk3
theorem tointConvert_none_f (k f m a n low high : Nat) (c : Nat) (t er ce : Int) (neg ex : Bool) (w : World) (hT : Tab w) (hk : k < 4) (e2 : (er == 2) = false) (e0 : (er == 0) = false) (hc : ¬ (c : Int) < 4) (cW : ∀ w, Tab w → Calls Tryd.prog 8 #[.int .u8 f, .int .u8 m, BV a] w fun e w' => e = .returned (.tuple #[.bool neg, W n, .bool ex, .int .i64 er]) ∧ Below w.heap.size w w') (cE : ∀ w, Calls Tryd.prog 11 #[.int .u8 k] w fun e w' => e = .returned (.tuple #[.int .u64 (low : Nat), .int .u64 (high : Nat)]) ∧ Below w.heap.size w w') (cC : ∀ w, Tab w → Calls Tryd.prog 55 #[.int .u8 f, BV a] w fun e w' => e = .returned (.tuple #[.int .u8 (c : Nat), .int .i64 ce]) ∧ Below w.heap.size w w') (cT : ∀ w, Calls Tryd.prog 12 #[.int .u8 k, .bool false, .int .u64 (high : Nat)] w fun e w' => e = .returned (.int .u64 t) ∧ w = w') :
    Calls Tryd.prog 28 #[.int .u8 k, .int .u8 f, .int .u8 m, BV a] w fun e w' => e = .returned (.tuple #[.int .u64 t, .int .u8 16, .int .i64 0]) ∧ Below w.heap.size w w' := by
  have H := Own.start w
  have HT := Lib.hid hT
  clear hT
  have k3 : ¬ 3 < (k : Int) := by omega
  go_enter Tryd.func28, Tryd.ntmps28
  exact walk3
theorem walk2 {P : Prop} (h : P := by
  go_wp2_with (first
    | ((with_reducible show wpList _ _ _ (⟨_, .box _ _, _, _, _, _⟩ :: _) _ _); refine H.box rfl rfl (cells_agg _) ?_; (intro g w H; simp only [Act.put, q1_, q2_, q3_]))
    | ((with_reducible show wpList _ _ _ (⟨_, .alloc 33, _, _, _, _⟩ :: _) _ _); refine H.new rfl (T := 33) rfl tW_z (cells_agg _) ?_; (intro g w H; simp only [Act.put, q1_, q2_, q3_]))
    | ((with_reducible show wpList _ _ _ (⟨_, .alloc 27, _, _, _, _⟩ :: _) _ _); refine H.new rfl (T := 27) rfl tB_z (cells_agg _) ?_; (intro g w H; simp only [Act.put, q1_, q2_, q3_]))
    | ((with_reducible show wpList _ _ _ (⟨_, .alloc 25, _, _, _, _⟩ :: _) _ _); refine H.new rfl (T := 25) rfl tu_z (cells_int _ _) ?_; (intro g w H; simp only [Act.put, q1_, q2_, q3_]))
    | ((with_reducible show wpList _ _ _ (⟨_, .load 33 _, _, _, _, _⟩ :: _) _ _); (first | refine H.load rfl (ty := 33) rfl rfl 0 rfl Tryd.underlying33 rfl (by with_reducible exact ext_limbs _) (by exact tW_s) ?_ | refine H.load rfl (ty := 33) rfl rfl 0 rfl Tryd.underlying33 rfl v22_ (by exact tW_s) ?_ | refine H.load rfl (ty := 33) rfl rfl 0 rfl Tryd.underlying33 rfl v23_ (by exact tW_s) ?_ | refine H.load rfl (ty := 33) rfl rfl 0 rfl Tryd.underlying33 rfl v24_ (by exact tW_s) ?_ | refine H.load rfl (ty := 33) rfl rfl 1 rfl Tryd.underlying33 rfl (by with_reducible exact ext_limbs _) (by exact tW_s) ?_ | refine H.load rfl (ty := 33) rfl rfl 1 rfl Tryd.underlying33 rfl v22_ (by exact tW_s) ?_ | refine H.load rfl (ty := 33) rfl rfl 1 rfl Tryd.underlying33 rfl v23_ (by exact tW_s) ?_ | refine H.load rfl (ty := 33) rfl rfl 1 rfl Tryd.underlying33 rfl v24_ (by exact tW_s) ?_ | refine H.load rfl (ty := 33) rfl rfl 2 rfl Tryd.underlying33 rfl (by with_reducible exact ext_limbs _) (by exact tW_s) ?_ | refine H.load rfl (ty := 33) rfl rfl 2 rfl Tryd.underlying33 rfl v22_ (by exact tW_s) ?_ | refine H.load rfl (ty := 33) rfl rfl 2 rfl Tryd.underlying33 rfl v23_ (by exact tW_s) ?_ | refine H.load rfl (ty := 33) rfl rfl 2 rfl Tryd.underlying33 rfl v24_ (by exact tW_s) ?_ | refine H.load rfl (ty := 33) rfl rfl 3 rfl Tryd.underlying33 rfl (by with_reducible exact ext_limbs _) (by exact tW_s) ?_ | refine H.load rfl (ty := 33) rfl rfl 3 rfl Tryd.underlying33 rfl v22_ (by exact tW_s) ?_ | refine H.load rfl (ty := 33) rfl rfl 3 rfl Tryd.underlying33 rfl v23_ (by exact tW_s) ?_ | refine H.load rfl (ty := 33) rfl rfl 3 rfl Tryd.underlying33 rfl v24_ (by exact tW_s) ?_); simp only [Act.put, q1_, q2_, q3_])
    | ((with_reducible show wpList _ _ _ (⟨_, .load 27 _, _, _, _, _⟩ :: _) _ _); (first | refine H.load rfl (ty := 27) rfl rfl 0 rfl Tryd.underlying27 rfl (by with_reducible exact ext_2 _ _) (by exact tB_s) ?_ | refine H.load rfl (ty := 27) rfl rfl 1 rfl Tryd.underlying27 rfl (by with_reducible exact ext_2 _ _) (by exact tB_s) ?_ | refine H.load rfl (ty := 27) rfl rfl 2 rfl Tryd.underlying27 rfl (by with_reducible exact ext_2 _ _) (by exact tB_s) ?_ | refine H.load rfl (ty := 27) rfl rfl 3 rfl Tryd.underlying27 rfl (by with_reducible exact ext_2 _ _) (by exact tB_s) ?_); simp only [Act.put, q1_, q2_, q3_])
    | ((with_reducible show wpList _ _ _ (⟨_, .load 25 _, _, _, _, _⟩ :: _) _ _); (first | refine H.load1 rfl (ty := 25) rfl rfl 0 rfl Tryd.underlying25 rfl (by with_reducible exact get_20 _ _) ?_ | refine H.load1 rfl (ty := 25) rfl rfl 0 rfl Tryd.underlying25 rfl (by with_reducible exact get_21 _ _) ?_ | refine H.load1 rfl (ty := 25) rfl rfl 0 rfl Tryd.underlying25 rfl (by with_reducible exact limbs_o0 _) ?_ | refine H.load1 rfl (ty := 25) rfl rfl 0 rfl Tryd.underlying25 rfl (by with_reducible exact limbs_o1 _) ?_ | refine H.load1 rfl (ty := 25) rfl rfl 0 rfl Tryd.underlying25 rfl (by with_reducible exact limbs_o2 _) ?_ | refine H.load1 rfl (ty := 25) rfl rfl 0 rfl Tryd.underlying25 rfl (by with_reducible exact limbs_o3 _) ?_ | refine H.load1 rfl (ty := 25) rfl rfl 0 rfl Tryd.underlying25 rfl (by with_reducible exact limbs_o4 _) ?_ | refine H.load1 rfl (ty := 25) rfl rfl 0 rfl Tryd.underlying25 rfl (by with_reducible exact limbs_o5 _) ?_ | refine H.load1 rfl (ty := 25) rfl rfl 0 rfl Tryd.underlying25 rfl (by with_reducible exact get_10 _) ?_ | refine H.load1 rfl (ty := 25) rfl rfl 1 rfl Tryd.underlying25 rfl (by with_reducible exact get_20 _ _) ?_ | refine H.load1 rfl (ty := 25) rfl rfl 1 rfl Tryd.underlying25 rfl (by with_reducible exact get_21 _ _) ?_ | refine H.load1 rfl (ty := 25) rfl rfl 1 rfl Tryd.underlying25 rfl (by with_reducible exact limbs_o0 _) ?_ | refine H.load1 rfl (ty := 25) rfl rfl 1 rfl Tryd.underlying25 rfl (by with_reducible exact limbs_o1 _) ?_ | refine H.load1 rfl (ty := 25) rfl rfl 1 rfl Tryd.underlying25 rfl (by with_reducible exact limbs_o2 _) ?_ | refine H.load1 rfl (ty := 25) rfl rfl 1 rfl Tryd.underlying25 rfl (by with_reducible exact limbs_o3 _) ?_ | refine H.load1 rfl (ty := 25) rfl rfl 1 rfl Tryd.underlying25 rfl (by with_reducible exact limbs_o4 _) ?_ | refine H.load1 rfl (ty := 25) rfl rfl 1 rfl Tryd.underlying25 rfl (by with_reducible exact limbs_o5 _) ?_ | refine H.load1 rfl (ty := 25) rfl rfl 1 rfl Tryd.underlying25 rfl (by with_reducible exact get_10 _) ?_ | refine H.load1 rfl (ty := 25) rfl rfl 2 rfl Tryd.underlying25 rfl (by with_reducible exact get_20 _ _) ?_ | refine H.load1 rfl (ty := 25) rfl rfl 2 rfl Tryd.underlying25 rfl (by with_reducible exact get_21 _ _) ?_ | refine H.load1 rfl (ty := 25) rfl rfl 2 rfl Tryd.underlying25 rfl (by with_reducible exact limbs_o0 _) ?_ | refine H.load1 rfl (ty := 25) rfl rfl 2 rfl Tryd.underlying25 rfl (by with_reducible exact limbs_o1 _) ?_ | refine H.load1 rfl (ty := 25) rfl rfl 2 rfl Tryd.underlying25 rfl (by with_reducible exact limbs_o2 _) ?_ | refine H.load1 rfl (ty := 25) rfl rfl 2 rfl Tryd.underlying25 rfl (by with_reducible exact limbs_o3 _) ?_ | refine H.load1 rfl (ty := 25) rfl rfl 2 rfl Tryd.underlying25 rfl (by with_reducible exact limbs_o4 _) ?_ | refine H.load1 rfl (ty := 25) rfl rfl 2 rfl Tryd.underlying25 rfl (by with_reducible exact limbs_o5 _) ?_ | refine H.load1 rfl (ty := 25) rfl rfl 2 rfl Tryd.underlying25 rfl (by with_reducible exact get_10 _) ?_ | refine H.load1 rfl (ty := 25) rfl rfl 3 rfl Tryd.underlying25 rfl (by with_reducible exact get_20 _ _) ?_ | refine H.load1 rfl (ty := 25) rfl rfl 3 rfl Tryd.underlying25 rfl (by with_reducible exact get_21 _ _) ?_ | refine H.load1 rfl (ty := 25) rfl rfl 3 rfl Tryd.underlying25 rfl (by with_reducible exact limbs_o0 _) ?_ | refine H.load1 rfl (ty := 25) rfl rfl 3 rfl Tryd.underlying25 rfl (by with_reducible exact limbs_o1 _) ?_ | refine H.load1 rfl (ty := 25) rfl rfl 3 rfl Tryd.underlying25 rfl (by with_reducible exact limbs_o2 _) ?_ | refine H.load1 rfl (ty := 25) rfl rfl 3 rfl Tryd.underlying25 rfl (by with_reducible exact limbs_o3 _) ?_ | refine H.load1 rfl (ty := 25) rfl rfl 3 rfl Tryd.underlying25 rfl (by with_reducible exact limbs_o4 _) ?_ | refine H.load1 rfl (ty := 25) rfl rfl 3 rfl Tryd.underlying25 rfl (by with_reducible exact limbs_o5 _) ?_ | refine H.load1 rfl (ty := 25) rfl rfl 3 rfl Tryd.underlying25 rfl (by with_reducible exact get_10 _) ?_); simp only [Act.put, q1_, q2_, q3_])
    | ((with_reducible show wpList _ _ _ (⟨_, .store 33 _ _, _, _, _, _⟩ :: _) _ _); (first | refine H.store rfl (ty := 33) rfl rfl (cells_agg _) 0 rfl v29_ (by exact tW_s) (one_of rfl) (ble_le rfl) ?_ | refine H.store rfl (ty := 33) rfl rfl (cells_agg _) 0 rfl v30_ (by exact tW_s) (one_of rfl) (ble_le rfl) ?_ | refine H.store rfl (ty := 33) rfl rfl (cells_agg _) 0 rfl v31_ (by exact tW_s) (one_of rfl) (ble_le rfl) ?_ | refine H.store rfl (ty := 33) rfl rfl (cells_agg _) 0 rfl v32_ (by exact tW_s) (one_of rfl) (ble_le rfl) ?_ | refine H.store rfl (ty := 33) rfl rfl (cells_agg _) 0 rfl v33_ (by exact tW_s) (one_of rfl) (ble_le rfl) ?_ | refine H.store rfl (ty := 33) rfl rfl (cells_agg _) 1 rfl v29_ (by exact tW_s) (one_of rfl) (ble_le rfl) ?_ | refine H.store rfl (ty := 33) rfl rfl (cells_agg _) 1 rfl v30_ (by exact tW_s) (one_of rfl) (ble_le rfl) ?_ | refine H.store rfl (ty := 33) rfl rfl (cells_agg _) 1 rfl v31_ (by exact tW_s) (one_of rfl) (ble_le rfl) ?_ | refine H.store rfl (ty := 33) rfl rfl (cells_agg _) 1 rfl v32_ (by exact tW_s) (one_of rfl) (ble_le rfl) ?_ | refine H.store rfl (ty := 33) rfl rfl (cells_agg _) 1 rfl v33_ (by exact tW_s) (one_of rfl) (ble_le rfl) ?_ | refine H.store rfl (ty := 33) rfl rfl (cells_agg _) 2 rfl v29_ (by exact tW_s) (one_of rfl) (ble_le rfl) ?_ | refine H.store rfl (ty := 33) rfl rfl (cells_agg _) 2 rfl v30_ (by exact tW_s) (one_of rfl) (ble_le rfl) ?_ | refine H.store rfl (ty := 33) rfl rfl (cells_agg _) 2 rfl v31_ (by exact tW_s) (one_of rfl) (ble_le rfl) ?_ | refine H.store rfl (ty := 33) rfl rfl (cells_agg _) 2 rfl v32_ (by exact tW_s) (one_of rfl) (ble_le rfl) ?_ | refine H.store rfl (ty := 33) rfl rfl (cells_agg _) 2 rfl v33_ (by exact tW_s) (one_of rfl) (ble_le rfl) ?_ | refine H.store rfl (ty := 33) rfl rfl (cells_agg _) 3 rfl v29_ (by exact tW_s) (one_of rfl) (ble_le rfl) ?_ | refine H.store rfl (ty := 33) rfl rfl (cells_agg _) 3 rfl v30_ (by exact tW_s) (one_of rfl) (ble_le rfl) ?_ | refine H.store rfl (ty := 33) rfl rfl (cells_agg _) 3 rfl v31_ (by exact tW_s) (one_of rfl) (ble_le rfl) ?_ | refine H.store rfl (ty := 33) rfl rfl (cells_agg _) 3 rfl v32_ (by exact tW_s) (one_of rfl) (ble_le rfl) ?_ | refine H.store rfl (ty := 33) rfl rfl (cells_agg _) 3 rfl v33_ (by exact tW_s) (one_of rfl) (ble_le rfl) ?_); (intro w H; simp only [q2_, q3_] at H; simp only [Act.put, q1_, q2_, q3_]))
    | ((with_reducible show wpList _ _ _ (⟨_, .store 27 _ _, _, _, _, _⟩ :: _) _ _); (first | refine H.store rfl (ty := 27) rfl rfl (cells_agg _) 0 rfl v30_ (by exact tB_s) (one_of rfl) (ble_le rfl) ?_ | refine H.store rfl (ty := 27) rfl rfl (cells_agg _) 1 rfl v30_ (by exact tB_s) (one_of rfl) (ble_le rfl) ?_ | refine H.store rfl (ty := 27) rfl rfl (cells_agg _) 2 rfl v30_ (by exact tB_s) (one_of rfl) (ble_le rfl) ?_ | refine H.store rfl (ty := 27) rfl rfl (cells_agg _) 3 rfl v30_ (by exact tB_s) (one_of rfl) (ble_le rfl) ?_); (intro w H; simp only [q2_, q3_] at H; simp only [Act.put, q1_, q2_, q3_]))
    | ((with_reducible show wpList _ _ _ (⟨_, .store 25 _ _, _, _, _, _⟩ :: _) _ _); (first | refine H.store rfl (ty := 25) rfl rfl (cells_int _ _) 0 rfl (by with_reducible exact set_20 _ _ _) (by exact tu_s) (one_of rfl) (ble_le rfl) ?_ | refine H.store rfl (ty := 25) rfl rfl (cells_int _ _) 0 rfl (by with_reducible exact set_21 _ _ _) (by exact tu_s) (one_of rfl) (ble_le rfl) ?_ | refine H.store rfl (ty := 25) rfl rfl (cells_int _ _) 0 rfl (by with_reducible exact set_10 _ _) (by exact tu_s) (one_of rfl) (ble_le rfl) ?_ | refine H.store rfl (ty := 25) rfl rfl (cells_int _ _) 1 rfl (by with_reducible exact set_20 _ _ _) (by exact tu_s) (one_of rfl) (ble_le rfl) ?_ | refine H.store rfl (ty := 25) rfl rfl (cells_int _ _) 1 rfl (by with_reducible exact set_21 _ _ _) (by exact tu_s) (one_of rfl) (ble_le rfl) ?_ | refine H.store rfl (ty := 25) rfl rfl (cells_int _ _) 1 rfl (by with_reducible exact set_10 _ _) (by exact tu_s) (one_of rfl) (ble_le rfl) ?_ | refine H.store rfl (ty := 25) rfl rfl (cells_int _ _) 2 rfl (by with_reducible exact set_20 _ _ _) (by exact tu_s) (one_of rfl) (ble_le rfl) ?_ | refine H.store rfl (ty := 25) rfl rfl (cells_int _ _) 2 rfl (by with_reducible exact set_21 _ _ _) (by exact tu_s) (one_of rfl) (ble_le rfl) ?_ | refine H.store rfl (ty := 25) rfl rfl (cells_int _ _) 2 rfl (by with_reducible exact set_10 _ _) (by exact tu_s) (one_of rfl) (ble_le rfl) ?_ | refine H.store rfl (ty := 25) rfl rfl (cells_int _ _) 3 rfl (by with_reducible exact set_20 _ _ _) (by exact tu_s) (one_of rfl) (ble_le rfl) ?_ | refine H.store rfl (ty := 25) rfl rfl (cells_int _ _) 3 rfl (by with_reducible exact set_21 _ _ _) (by exact tu_s) (one_of rfl) (ble_le rfl) ?_ | refine H.store rfl (ty := 25) rfl rfl (cells_int _ _) 3 rfl (by with_reducible exact set_10 _ _) (by exact tu_s) (one_of rfl) (ble_le rfl) ?_); (intro w H; simp only [q2_, q3_] at H; simp only [Act.put, q1_, q2_, q3_]))
    | ((with_reducible show Code.wp _ (.region 13 _ true) _ _ _); refine H.heldSub rfl (List.Sublist.refl _) ?_; intro H; refine H.takeRun (List.Sublist.refl _) 0 rfl (by kernel_rfl) (by kernel_rfl) (by kernel_rfl) (fun _ _ _ _ h => h) rfl v14_ ?_; (try simp only [Act.put, q4_, q5_, q6_, q1_, q2_, q3_]); refine H.takeRun (List.Sublist.refl _) 1 rfl (by kernel_rfl) (by kernel_rfl) (by kernel_rfl) (fun _ _ _ _ h => h) rfl v14_ ?_; (try simp only [Act.put, q4_, q5_, q6_, q1_, q2_, q3_]); (first | refine H.takeLoad (List.Sublist.refl _) 2 rfl (by kernel_rfl) (by kernel_rfl) (by kernel_rfl) (fun _ _ _ _ h => h) rfl (ty := 33) rfl rfl 0 rfl Tryd.underlying33 rfl (by with_reducible exact ext_limbs _) (by exact tW_s) ?_ | refine H.takeLoad (List.Sublist.refl _) 2 rfl (by kernel_rfl) (by kernel_rfl) (by kernel_rfl) (fun _ _ _ _ h => h) rfl (ty := 33) rfl rfl 0 rfl Tryd.underlying33 rfl v22_ (by exact tW_s) ?_ | refine H.takeLoad (List.Sublist.refl _) 2 rfl (by kernel_rfl) (by kernel_rfl) (by kernel_rfl) (fun _ _ _ _ h => h) rfl (ty := 33) rfl rfl 0 rfl Tryd.underlying33 rfl v23_ (by exact tW_s) ?_ | refine H.takeLoad (List.Sublist.refl _) 2 rfl (by kernel_rfl) (by kernel_rfl) (by kernel_rfl) (fun _ _ _ _ h => h) rfl (ty := 33) rfl rfl 0 rfl Tryd.underlying33 rfl v24_ (by exact tW_s) ?_ | refine H.takeLoad (List.Sublist.refl _) 2 rfl (by kernel_rfl) (by kernel_rfl) (by kernel_rfl) (fun _ _ _ _ h => h) rfl (ty := 33) rfl rfl 1 rfl Tryd.underlying33 rfl (by with_reducible exact ext_limbs _) (by exact tW_s) ?_ | refine H.takeLoad (List.Sublist.refl _) 2 rfl (by kernel_rfl) (by kernel_rfl) (by kernel_rfl) (fun _ _ _ _ h => h) rfl (ty := 33) rfl rfl 1 rfl Tryd.underlying33 rfl v22_ (by exact tW_s) ?_ | refine H.takeLoad (List.Sublist.refl _) 2 rfl (by kernel_rfl) (by kernel_rfl) (by kernel_rfl) (fun _ _ _ _ h => h) rfl (ty := 33) rfl rfl 1 rfl Tryd.underlying33 rfl v23_ (by exact tW_s) ?_ | refine H.takeLoad (List.Sublist.refl _) 2 rfl (by kernel_rfl) (by kernel_rfl) (by kernel_rfl) (fun _ _ _ _ h => h) rfl (ty := 33) rfl rfl 1 rfl Tryd.underlying33 rfl v24_ (by exact tW_s) ?_ | refine H.takeLoad (List.Sublist.refl _) 2 rfl (by kernel_rfl) (by kernel_rfl) (by kernel_rfl) (fun _ _ _ _ h => h) rfl (ty := 33) rfl rfl 2 rfl Tryd.underlying33 rfl (by with_reducible exact ext_limbs _) (by exact tW_s) ?_ | refine H.takeLoad (List.Sublist.refl _) 2 rfl (by kernel_rfl) (by kernel_rfl) (by kernel_rfl) (fun _ _ _ _ h => h) rfl (ty := 33) rfl rfl 2 rfl Tryd.underlying33 rfl v22_ (by exact tW_s) ?_ | refine H.takeLoad (List.Sublist.refl _) 2 rfl (by kernel_rfl) (by kernel_rfl) (by kernel_rfl) (fun _ _ _ _ h => h) rfl (ty := 33) rfl rfl 2 rfl Tryd.underlying33 rfl v23_ (by exact tW_s) ?_ | refine H.takeLoad (List.Sublist.refl _) 2 rfl (by kernel_rfl) (by kernel_rfl) (by kernel_rfl) (fun _ _ _ _ h => h) rfl (ty := 33) rfl rfl 2 rfl Tryd.underlying33 rfl v24_ (by exact tW_s) ?_ | refine H.takeLoad (List.Sublist.refl _) 2 rfl (by kernel_rfl) (by kernel_rfl) (by kernel_rfl) (fun _ _ _ _ h => h) rfl (ty := 33) rfl rfl 3 rfl Tryd.underlying33 rfl (by with_reducible exact ext_limbs _) (by exact tW_s) ?_ | refine H.takeLoad (List.Sublist.refl _) 2 rfl (by kernel_rfl) (by kernel_rfl) (by kernel_rfl) (fun _ _ _ _ h => h) rfl (ty := 33) rfl rfl 3 rfl Tryd.underlying33 rfl v22_ (by exact tW_s) ?_ | refine H.takeLoad (List.Sublist.refl _) 2 rfl (by kernel_rfl) (by kernel_rfl) (by kernel_rfl) (fun _ _ _ _ h => h) rfl (ty := 33) rfl rfl 3 rfl Tryd.underlying33 rfl v23_ (by exact tW_s) ?_ | refine H.takeLoad (List.Sublist.refl _) 2 rfl (by kernel_rfl) (by kernel_rfl) (by kernel_rfl) (fun _ _ _ _ h => h) rfl (ty := 33) rfl rfl 3 rfl Tryd.underlying33 rfl v24_ (by exact tW_s) ?_); (try simp only [Act.put, q4_, q5_, q6_, q1_, q2_, q3_]); refine H.takeRun (List.Sublist.refl _) 3 rfl (by kernel_rfl) (by kernel_rfl) (by kernel_rfl) (fun _ _ _ _ h => h) rfl v14_ ?_; (try simp only [Act.put, q4_, q5_, q6_, q1_, q2_, q3_]); refine held_one (i := 4) (by kernel_rfl) rfl rfl ?_; unfold Oper.wp; go_simp; (first | (go_at_call 19; ((with_reducible refine (cO _).mono ?_); rintro e w ⟨rfl, hb⟩; replace H := H.call hb; clear hb)) | (go_at_call 56; ((with_reducible refine (cQ _).mono ?_); rintro e w ⟨rfl, hb⟩; replace H := H.call hb; clear hb))); refine H.next (List.Sublist.refl _) ?_; (try simp only [Act.put, q4_, q5_, q6_, q1_, q2_, q3_]); refine held_one (i := 5) (by kernel_rfl) rfl rfl ?_; unfold Oper.wp; go_simp; (first | (go_at_call 19; ((with_reducible refine (cO _).mono ?_); rintro e w ⟨rfl, hb⟩; replace H := H.call hb; clear hb)) | (go_at_call 56; ((with_reducible refine (cQ _).mono ?_); rintro e w ⟨rfl, hb⟩; replace H := H.call hb; clear hb))); refine H.next (List.Sublist.refl _) ?_; (try simp only [Act.put, q4_, q5_, q6_, q1_, q2_, q3_]); refine H.takeRun (List.Sublist.refl _) 6 rfl (by kernel_rfl) (by kernel_rfl) (by kernel_rfl) (fun _ _ _ _ h => h) rfl v14_ ?_; (try simp only [Act.put, q4_, q5_, q6_, q1_, q2_, q3_]); refine H.takeRun (List.Sublist.refl _) 7 rfl (by kernel_rfl) (by kernel_rfl) (by kernel_rfl) (fun _ _ _ _ h => h) rfl v14_ ?_; (try simp only [Act.put, q4_, q5_, q6_, q1_, q2_, q3_]); refine H.takeRun (List.Sublist.refl _) 8 rfl (by kernel_rfl) (by kernel_rfl) (by kernel_rfl) (fun _ _ _ _ h => h) rfl v14_ ?_; (try simp only [Act.put, q4_, q5_, q6_, q1_, q2_, q3_]); refine wpAnyH_done (by kernel_rfl) ?_ _)
    | ((with_reducible show Code.wp _ (.region 15 _ true) _ _ _); refine H.heldSub rfl (List.Sublist.refl _) ?_; intro H; refine H.takeRun (List.Sublist.refl _) 0 rfl (by kernel_rfl) (by kernel_rfl) (by kernel_rfl) (fun _ _ _ _ h => h) rfl v14_ ?_; (try simp only [Act.put, q4_, q5_, q6_, q1_, q2_, q3_]); refine H.takeRun (List.Sublist.refl _) 1 rfl (by kernel_rfl) (by kernel_rfl) (by kernel_rfl) (fun _ _ _ _ h => h) rfl v14_ ?_; (try simp only [Act.put, q4_, q5_, q6_, q1_, q2_, q3_]); refine H.takeRun (List.Sublist.refl _) 2 rfl (by kernel_rfl) (by kernel_rfl) (by kernel_rfl) (fun _ _ _ _ h => h) rfl v14_ ?_; (try simp only [Act.put, q4_, q5_, q6_, q1_, q2_, q3_]); refine H.takeOff (List.Sublist.refl _) 3 rfl (by kernel_rfl) (by kernel_rfl) (by kernel_rfl) (fun _ _ _ _ h => h) rfl ?_; (try simp only [Act.put, q4_, q5_, q6_, q1_, q2_, q3_]); refine H.takeOff (List.Sublist.refl _) 4 rfl (by kernel_rfl) (by kernel_rfl) (by kernel_rfl) (fun _ _ _ _ h => h) rfl ?_; (try simp only [Act.put, q4_, q5_, q6_, q1_, q2_, q3_]); refine H.takeOff (List.Sublist.refl _) 5 rfl (by kernel_rfl) (by kernel_rfl) (by kernel_rfl) (fun _ _ _ _ h => h) rfl ?_; (try simp only [Act.put, q4_, q5_, q6_, q1_, q2_, q3_]); refine H.takeOff (List.Sublist.refl _) 6 rfl (by kernel_rfl) (by kernel_rfl) (by kernel_rfl) (fun _ _ _ _ h => h) rfl ?_; (try simp only [Act.put, q4_, q5_, q6_, q1_, q2_, q3_]); refine H.takeOff (List.Sublist.refl _) 7 rfl (by kernel_rfl) (by kernel_rfl) (by kernel_rfl) (fun _ _ _ _ h => h) rfl ?_; (try simp only [Act.put, q4_, q5_, q6_, q1_, q2_, q3_]); refine H.takeRun (List.Sublist.refl _) 8 rfl (by kernel_rfl) (by kernel_rfl) (by kernel_rfl) (fun _ _ _ _ h => h) rfl v14_ ?_; (try simp only [Act.put, q4_, q5_, q6_, q1_, q2_, q3_]); refine H.takeRun (List.Sublist.refl _) 9 rfl (by kernel_rfl) (by kernel_rfl) (by kernel_rfl) (fun _ _ _ _ h => h) rfl v14_ ?_; (try simp only [Act.put, q4_, q5_, q6_, q1_, q2_, q3_]); refine wpAnyH_done (by kernel_rfl) ?_ _)
    | ((with_reducible show Code.wp _ (.region 13 _ true) _ _ _); refine H.heldSub rfl (List.Sublist.refl _) ?_; intro H; refine H.takeRun (List.Sublist.refl _) 0 rfl (by kernel_rfl) (by kernel_rfl) (by kernel_rfl) (fun _ _ _ _ h => h) rfl v14_ ?_; (try simp only [Act.put, q4_, q5_, q6_, q1_, q2_, q3_]); refine H.takeRun (List.Sublist.refl _) 1 rfl (by kernel_rfl) (by kernel_rfl) (by kernel_rfl) (fun _ _ _ _ h => h) rfl v14_ ?_; (try simp only [Act.put, q4_, q5_, q6_, q1_, q2_, q3_]); refine H.takeOff (List.Sublist.refl _) 2 rfl (by kernel_rfl) (by kernel_rfl) (by kernel_rfl) (fun _ _ _ _ h => h) rfl ?_; (try simp only [Act.put, q4_, q5_, q6_, q1_, q2_, q3_]); refine H.takeOff (List.Sublist.refl _) 3 rfl (by kernel_rfl) (by kernel_rfl) (by kernel_rfl) (fun _ _ _ _ h => h) rfl ?_; (try simp only [Act.put, q4_, q5_, q6_, q1_, q2_, q3_]); refine H.takeOff (List.Sublist.refl _) 4 rfl (by kernel_rfl) (by kernel_rfl) (by kernel_rfl) (fun _ _ _ _ h => h) rfl ?_; (try simp only [Act.put, q4_, q5_, q6_, q1_, q2_, q3_]); refine H.takeOff (List.Sublist.refl _) 5 rfl (by kernel_rfl) (by kernel_rfl) (by kernel_rfl) (fun _ _ _ _ h => h) rfl ?_; (try simp only [Act.put, q4_, q5_, q6_, q1_, q2_, q3_]); refine H.takeOff (List.Sublist.refl _) 6 rfl (by kernel_rfl) (by kernel_rfl) (by kernel_rfl) (fun _ _ _ _ h => h) rfl ?_; (try simp only [Act.put, q4_, q5_, q6_, q1_, q2_, q3_]); refine H.takeRun (List.Sublist.refl _) 7 rfl (by kernel_rfl) (by kernel_rfl) (by kernel_rfl) (fun _ _ _ _ h => h) rfl v14_ ?_; (try simp only [Act.put, q4_, q5_, q6_, q1_, q2_, q3_]); refine H.takeRun (List.Sublist.refl _) 8 rfl (by kernel_rfl) (by kernel_rfl) (by kernel_rfl) (fun _ _ _ _ h => h) rfl v14_ ?_; (try simp only [Act.put, q4_, q5_, q6_, q1_, q2_, q3_]); refine wpAnyH_done (by kernel_rfl) ?_ _)
    | ((with_reducible show Code.wp _ (.region 15 _ true) _ _ _); refine H.heldSub rfl (List.Sublist.refl _) ?_; intro H; refine H.takeRun (List.Sublist.refl _) 0 rfl (by kernel_rfl) (by kernel_rfl) (by kernel_rfl) (fun _ _ _ _ h => h) rfl v14_ ?_; (try simp only [Act.put, q4_, q5_, q6_, q1_, q2_, q3_]); refine H.takeRun (List.Sublist.refl _) 1 rfl (by kernel_rfl) (by kernel_rfl) (by kernel_rfl) (fun _ _ _ _ h => h) rfl v14_ ?_; (try simp only [Act.put, q4_, q5_, q6_, q1_, q2_, q3_]); refine H.takeRun (List.Sublist.refl _) 2 rfl (by kernel_rfl) (by kernel_rfl) (by kernel_rfl) (fun _ _ _ _ h => h) rfl v14_ ?_; (try simp only [Act.put, q4_, q5_, q6_, q1_, q2_, q3_]); (first | refine H.takeLoad (List.Sublist.refl _) 3 rfl (by kernel_rfl) (by kernel_rfl) (by kernel_rfl) (fun _ _ _ _ h => h) rfl (ty := 33) rfl rfl 0 rfl Tryd.underlying33 rfl (by with_reducible exact ext_limbs _) (by exact tW_s) ?_ | refine H.takeLoad (List.Sublist.refl _) 3 rfl (by kernel_rfl) (by kernel_rfl) (by kernel_rfl) (fun _ _ _ _ h => h) rfl (ty := 33) rfl rfl 0 rfl Tryd.underlying33 rfl v22_ (by exact tW_s) ?_ | refine H.takeLoad (List.Sublist.refl _) 3 rfl (by kernel_rfl) (by kernel_rfl) (by kernel_rfl) (fun _ _ _ _ h => h) rfl (ty := 33) rfl rfl 0 rfl Tryd.underlying33 rfl v23_ (by exact tW_s) ?_ | refine H.takeLoad (List.Sublist.refl _) 3 rfl (by kernel_rfl) (by kernel_rfl) (by kernel_rfl) (fun _ _ _ _ h => h) rfl (ty := 33) rfl rfl 0 rfl Tryd.underlying33 rfl v24_ (by exact tW_s) ?_ | refine H.takeLoad (List.Sublist.refl _) 3 rfl (by kernel_rfl) (by kernel_rfl) (by kernel_rfl) (fun _ _ _ _ h => h) rfl (ty := 33) rfl rfl 1 rfl Tryd.underlying33 rfl (by with_reducible exact ext_limbs _) (by exact tW_s) ?_ | refine H.takeLoad (List.Sublist.refl _) 3 rfl (by kernel_rfl) (by kernel_rfl) (by kernel_rfl) (fun _ _ _ _ h => h) rfl (ty := 33) rfl rfl 1 rfl Tryd.underlying33 rfl v22_ (by exact tW_s) ?_ | refine H.takeLoad (List.Sublist.refl _) 3 rfl (by kernel_rfl) (by kernel_rfl) (by kernel_rfl) (fun _ _ _ _ h => h) rfl (ty := 33) rfl rfl 1 rfl Tryd.underlying33 rfl v23_ (by exact tW_s) ?_ | refine H.takeLoad (List.Sublist.refl _) 3 rfl (by kernel_rfl) (by kernel_rfl) (by kernel_rfl) (fun _ _ _ _ h => h) rfl (ty := 33) rfl rfl 1 rfl Tryd.underlying33 rfl v24_ (by exact tW_s) ?_ | refine H.takeLoad (List.Sublist.refl _) 3 rfl (by kernel_rfl) (by kernel_rfl) (by kernel_rfl) (fun _ _ _ _ h => h) rfl (ty := 33) rfl rfl 2 rfl Tryd.underlying33 rfl (by with_reducible exact ext_limbs _) (by exact tW_s) ?_ | refine H.takeLoad (List.Sublist.refl _) 3 rfl (by kernel_rfl) (by kernel_rfl) (by kernel_rfl) (fun _ _ _ _ h => h) rfl (ty := 33) rfl rfl 2 rfl Tryd.underlying33 rfl v22_ (by exact tW_s) ?_ | refine H.takeLoad (List.Sublist.refl _) 3 rfl (by kernel_rfl) (by kernel_rfl) (by kernel_rfl) (fun _ _ _ _ h => h) rfl (ty := 33) rfl rfl 2 rfl Tryd.underlying33 rfl v23_ (by exact tW_s) ?_ | refine H.takeLoad (List.Sublist.refl _) 3 rfl (by kernel_rfl) (by kernel_rfl) (by kernel_rfl) (fun _ _ _ _ h => h) rfl (ty := 33) rfl rfl 2 rfl Tryd.underlying33 rfl v24_ (by exact tW_s) ?_ | refine H.takeLoad (List.Sublist.refl _) 3 rfl (by kernel_rfl) (by kernel_rfl) (by kernel_rfl) (fun _ _ _ _ h => h) rfl (ty := 33) rfl rfl 3 rfl Tryd.underlying33 rfl (by with_reducible exact ext_limbs _) (by exact tW_s) ?_ | refine H.takeLoad (List.Sublist.refl _) 3 rfl (by kernel_rfl) (by kernel_rfl) (by kernel_rfl) (fun _ _ _ _ h => h) rfl (ty := 33) rfl rfl 3 rfl Tryd.underlying33 rfl v22_ (by exact tW_s) ?_ | refine H.takeLoad (List.Sublist.refl _) 3 rfl (by kernel_rfl) (by kernel_rfl) (by kernel_rfl) (fun _ _ _ _ h => h) rfl (ty := 33) rfl rfl 3 rfl Tryd.underlying33 rfl v23_ (by exact tW_s) ?_ | refine H.takeLoad (List.Sublist.refl _) 3 rfl (by kernel_rfl) (by kernel_rfl) (by kernel_rfl) (fun _ _ _ _ h => h) rfl (ty := 33) rfl rfl 3 rfl Tryd.underlying33 rfl v24_ (by exact tW_s) ?_); (try simp only [Act.put, q4_, q5_, q6_, q1_, q2_, q3_]); refine H.takeRun (List.Sublist.refl _) 4 rfl (by kernel_rfl) (by kernel_rfl) (by kernel_rfl) (fun _ _ _ _ h => h) rfl v14_ ?_; (try simp only [Act.put, q4_, q5_, q6_, q1_, q2_, q3_]); refine held_one (i := 5) (by kernel_rfl) rfl rfl ?_; unfold Oper.wp; go_simp; (first | (go_at_call 19; ((with_reducible refine (cO _).mono ?_); rintro e w ⟨rfl, hb⟩; replace H := H.call hb; clear hb)) | (go_at_call 56; ((with_reducible refine (cQ _).mono ?_); rintro e w ⟨rfl, hb⟩; replace H := H.call hb; clear hb))); refine H.next (List.Sublist.refl _) ?_; (try simp only [Act.put, q4_, q5_, q6_, q1_, q2_, q3_]); refine held_one (i := 6) (by kernel_rfl) rfl rfl ?_; unfold Oper.wp; go_simp; (first | (go_at_call 19; ((with_reducible refine (cO _).mono ?_); rintro e w ⟨rfl, hb⟩; replace H := H.call hb; clear hb)) | (go_at_call 56; ((with_reducible refine (cQ _).mono ?_); rintro e w ⟨rfl, hb⟩; replace H := H.call hb; clear hb))); refine H.next (List.Sublist.refl _) ?_; (try simp only [Act.put, q4_, q5_, q6_, q1_, q2_, q3_]); refine H.takeRun (List.Sublist.refl _) 7 rfl (by kernel_rfl) (by kernel_rfl) (by kernel_rfl) (fun _ _ _ _ h => h) rfl v14_ ?_; (try simp only [Act.put, q4_, q5_, q6_, q1_, q2_, q3_]); refine H.takeRun (List.Sublist.refl _) 8 rfl (by kernel_rfl) (by kernel_rfl) (by kernel_rfl) (fun _ _ _ _ h => h) rfl v14_ ?_; (try simp only [Act.put, q4_, q5_, q6_, q1_, q2_, q3_]); refine H.takeRun (List.Sublist.refl _) 9 rfl (by kernel_rfl) (by kernel_rfl) (by kernel_rfl) (fun _ _ _ _ h => h) rfl v14_ ?_; (try simp only [Act.put, q4_, q5_, q6_, q1_, q2_, q3_]); refine wpAnyH_done (by kernel_rfl) ?_ _)
    | (go_at_call 8; ((with_reducible refine (cW _ (HT.out.below H.below)).mono ?_); rintro e w ⟨rfl, hb⟩; replace H := H.call hb; clear hb))
    | (go_at_call 11; ((with_reducible refine (cE _).mono ?_); rintro e w ⟨rfl, hb⟩; replace H := H.call hb; clear hb))
    | (go_at_call 12; ((with_reducible refine (cT _).mono ?_); rintro e w' ⟨rfl, rfl⟩))
    )
  all_goals (refine bodyPost_ret (results_ttt rfl) rfl ?_; exact ⟨rfl, H.below⟩)) : P := h
theorem tointConvert_out_t (k f m a n low high : Nat) (t cm : Int) (ex : Bool) (w : World) (hT : Tab w) (hk : k < 4) (hcm : 0 < cm) (cW : ∀ w, Tab w → Calls Tryd.prog 8 #[.int .u8 f, .int .u8 m, BV a] w fun e w' => e = .returned (.tuple #[.bool true, W n, .bool ex, .int .i64 0]) ∧ Below w.heap.size w w') (cE : ∀ w, Calls Tryd.prog 11 #[.int .u8 k] w fun e w' => e = .returned (.tuple #[.int .u64 (low : Nat), .int .u64 (high : Nat)]) ∧ Below w.heap.size w w') (cO : ∀ w, Calls Tryd.prog 19 #[.int .u64 (low : Nat)] w fun e w' => e = .returned (W low) ∧ Below w.heap.size w w') (cQ : ∀ w, Calls Tryd.prog 56 #[W n, W low] w fun e w' => e = .returned (.int .i64 cm) ∧ Below w.heap.size w w') (cT : ∀ w, Calls Tryd.prog 12 #[.int .u8 k, .bool true, .int .u64 (low : Nat)] w fun e w' => e = .returned (.int .u64 t) ∧ w = w') :
    Calls Tryd.prog 28 #[.int .u8 k, .int .u8 f, .int .u8 m, BV a] w fun e w' => e = .returned (.tuple #[.int .u64 t, .int .u8 16, .int .i64 0]) ∧ Below w.heap.size w w' := by
  have H := Own.start w
  have HT := Lib.hid hT
  clear hT
  have k3 : ¬ 3 < (k : Int) := by omega
  have hcm2 : decide (0 < cm) = true := by simpa using hcm
  go_enter Tryd.func28, Tryd.ntmps28
  exact walk2
theorem tointConvert_in_tt (k f m a n low high : Nat) (t cm : Int) (w : World) (hT : Tab w) (hk : k < 4) (hcm : ¬ 0 < cm) (cW : ∀ w, Tab w → Calls Tryd.prog 8 #[.int .u8 f, .int .u8 m, BV a] w fun e w' => e = .returned (.tuple #[.bool true, W n, .bool true, .int .i64 0]) ∧ Below w.heap.size w w') (cE : ∀ w, Calls Tryd.prog 11 #[.int .u8 k] w fun e w' => e = .returned (.tuple #[.int .u64 (low : Nat), .int .u64 (high : Nat)]) ∧ Below w.heap.size w w') (cO : ∀ w, Calls Tryd.prog 19 #[.int .u64 (low : Nat)] w fun e w' => e = .returned (W low) ∧ Below w.heap.size w w') (cQ : ∀ w, Calls Tryd.prog 56 #[W n, W low] w fun e w' => e = .returned (.int .i64 cm) ∧ Below w.heap.size w w') (cT : ∀ w, Calls Tryd.prog 12 #[.int .u8 k, .bool true, .int .u64 (limb n 0)] w fun e w' => e = .returned (.int .u64 t) ∧ w = w') :
    Calls Tryd.prog 28 #[.int .u8 k, .int .u8 f, .int .u8 m, BV a] w fun e w' => e = .returned (.tuple #[.int .u64 t, .int .u8 0, .int .i64 0]) ∧ Below w.heap.size w w' := by
  have H := Own.start w
  have HT := Lib.hid hT
  clear hT
  have k3 : ¬ 3 < (k : Int) := by omega
  have hcm2 : decide (0 < cm) = false := by simpa using hcm
  go_enter Tryd.func28, Tryd.ntmps28
  exact walk2
theorem tointConvert_in_tf (k f m a n low high : Nat) (t cm : Int) (w : World) (hT : Tab w) (hk : k < 4) (hcm : ¬ 0 < cm) (cW : ∀ w, Tab w → Calls Tryd.prog 8 #[.int .u8 f, .int .u8 m, BV a] w fun e w' => e = .returned (.tuple #[.bool true, W n, .bool false, .int .i64 0]) ∧ Below w.heap.size w w') (cE : ∀ w, Calls Tryd.prog 11 #[.int .u8 k] w fun e w' => e = .returned (.tuple #[.int .u64 (low : Nat), .int .u64 (high : Nat)]) ∧ Below w.heap.size w w') (cO : ∀ w, Calls Tryd.prog 19 #[.int .u64 (low : Nat)] w fun e w' => e = .returned (W low) ∧ Below w.heap.size w w') (cQ : ∀ w, Calls Tryd.prog 56 #[W n, W low] w fun e w' => e = .returned (.int .i64 cm) ∧ Below w.heap.size w w') (cT : ∀ w, Calls Tryd.prog 12 #[.int .u8 k, .bool true, .int .u64 (limb n 0)] w fun e w' => e = .returned (.int .u64 t) ∧ w = w') :
    Calls Tryd.prog 28 #[.int .u8 k, .int .u8 f, .int .u8 m, BV a] w fun e w' => e = .returned (.tuple #[.int .u64 t, .int .u8 1, .int .i64 0]) ∧ Below w.heap.size w w' := by
  have H := Own.start w
  have HT := Lib.hid hT
  clear hT
  have k3 : ¬ 3 < (k : Int) := by omega
  have hcm2 : decide (0 < cm) = false := by simpa using hcm
  go_enter Tryd.func28, Tryd.ntmps28
  exact walk2
theorem tointConvert_out_f (k f m a n low high : Nat) (t cm : Int) (ex : Bool) (w : World) (hT : Tab w) (hk : k < 4) (hcm : 0 < cm) (cW : ∀ w, Tab w → Calls Tryd.prog 8 #[.int .u8 f, .int .u8 m, BV a] w fun e w' => e = .returned (.tuple #[.bool false, W n, .bool ex, .int .i64 0]) ∧ Below w.heap.size w w') (cE : ∀ w, Calls Tryd.prog 11 #[.int .u8 k] w fun e w' => e = .returned (.tuple #[.int .u64 (low : Nat), .int .u64 (high : Nat)]) ∧ Below w.heap.size w w') (cO : ∀ w, Calls Tryd.prog 19 #[.int .u64 (high : Nat)] w fun e w' => e = .returned (W high) ∧ Below w.heap.size w w') (cQ : ∀ w, Calls Tryd.prog 56 #[W n, W high] w fun e w' => e = .returned (.int .i64 cm) ∧ Below w.heap.size w w') (cT : ∀ w, Calls Tryd.prog 12 #[.int .u8 k, .bool false, .int .u64 (high : Nat)] w fun e w' => e = .returned (.int .u64 t) ∧ w = w') :
    Calls Tryd.prog 28 #[.int .u8 k, .int .u8 f, .int .u8 m, BV a] w fun e w' => e = .returned (.tuple #[.int .u64 t, .int .u8 16, .int .i64 0]) ∧ Below w.heap.size w w' := by
  have H := Own.start w
  have HT := Lib.hid hT
  clear hT
  have k3 : ¬ 3 < (k : Int) := by omega
  have hcm2 : decide (0 < cm) = true := by simpa using hcm
  go_enter Tryd.func28, Tryd.ntmps28
  exact walk2
theorem tointConvert_in_ft (k f m a n low high : Nat) (t cm : Int) (w : World) (hT : Tab w) (hk : k < 4) (hcm : ¬ 0 < cm) (cW : ∀ w, Tab w → Calls Tryd.prog 8 #[.int .u8 f, .int .u8 m, BV a] w fun e w' => e = .returned (.tuple #[.bool false, W n, .bool true, .int .i64 0]) ∧ Below w.heap.size w w') (cE : ∀ w, Calls Tryd.prog 11 #[.int .u8 k] w fun e w' => e = .returned (.tuple #[.int .u64 (low : Nat), .int .u64 (high : Nat)]) ∧ Below w.heap.size w w') (cO : ∀ w, Calls Tryd.prog 19 #[.int .u64 (high : Nat)] w fun e w' => e = .returned (W high) ∧ Below w.heap.size w w') (cQ : ∀ w, Calls Tryd.prog 56 #[W n, W high] w fun e w' => e = .returned (.int .i64 cm) ∧ Below w.heap.size w w') (cT : ∀ w, Calls Tryd.prog 12 #[.int .u8 k, .bool false, .int .u64 (limb n 0)] w fun e w' => e = .returned (.int .u64 t) ∧ w = w') :
    Calls Tryd.prog 28 #[.int .u8 k, .int .u8 f, .int .u8 m, BV a] w fun e w' => e = .returned (.tuple #[.int .u64 t, .int .u8 0, .int .i64 0]) ∧ Below w.heap.size w w' := by
  have H := Own.start w
  have HT := Lib.hid hT
  clear hT
  have k3 : ¬ 3 < (k : Int) := by omega
  have hcm2 : decide (0 < cm) = false := by simpa using hcm
  go_enter Tryd.func28, Tryd.ntmps28
  exact walk2
theorem tointConvert_in_ff (k f m a n low high : Nat) (t cm : Int) (w : World) (hT : Tab w) (hk : k < 4) (hcm : ¬ 0 < cm) (cW : ∀ w, Tab w → Calls Tryd.prog 8 #[.int .u8 f, .int .u8 m, BV a] w fun e w' => e = .returned (.tuple #[.bool false, W n, .bool false, .int .i64 0]) ∧ Below w.heap.size w w') (cE : ∀ w, Calls Tryd.prog 11 #[.int .u8 k] w fun e w' => e = .returned (.tuple #[.int .u64 (low : Nat), .int .u64 (high : Nat)]) ∧ Below w.heap.size w w') (cO : ∀ w, Calls Tryd.prog 19 #[.int .u64 (high : Nat)] w fun e w' => e = .returned (W high) ∧ Below w.heap.size w w') (cQ : ∀ w, Calls Tryd.prog 56 #[W n, W high] w fun e w' => e = .returned (.int .i64 cm) ∧ Below w.heap.size w w') (cT : ∀ w, Calls Tryd.prog 12 #[.int .u8 k, .bool false, .int .u64 (limb n 0)] w fun e w' => e = .returned (.int .u64 t) ∧ w = w') :
    Calls Tryd.prog 28 #[.int .u8 k, .int .u8 f, .int .u8 m, BV a] w fun e w' => e = .returned (.tuple #[.int .u64 t, .int .u8 1, .int .i64 0]) ∧ Below w.heap.size w w' := by
  have H := Own.start w
  have HT := Lib.hid hT
  clear hT
  have k3 : ¬ 3 < (k : Int) := by omega
  have hcm2 : decide (0 < cm) = false := by simpa using hcm
  go_enter Tryd.func28, Tryd.ntmps28
  exact walk2
open Go.RowKit
theorem ret_conv {x x' fl fl' : Nat} {d d' : Int} {e : Ending} {P : Prop} (h1 : x = x') (h2 : fl = fl') (h3 : d = d') (k : e = .returned (.tuple #[.int .u64 (x : Nat), .int .u8 (fl : Nat), .int .i64 d]) ∧ P) :
    e = .returned (.tuple #[.int .u64 (x' : Nat), .int .u8 (fl' : Nat), .int .i64 d']) ∧ P := by subst h1 h2 h3; exact k
theorem cmpN_pos (a b : Nat) : 0 < cmpN a b ↔ b < a := by
  unfold cmpN
  split
  · constructor <;> intro h <;> omega
  · split
    · constructor <;> intro h <;> omega
    · constructor <;> intro h <;> omega
theorem lowK_lt (k : Nat) : lowK k < 18446744073709551616 ∧ highK k < 18446744073709551616 := by
  match k with
  | 0 => decide
  | 1 => decide
  | 2 => decide
  | k + 3 => exact ⟨by show (0 : Nat) < _; decide, by show (18446744073709551615 : Nat) < _; decide⟩
theorem lt_top64 (x : Nat) (h : x < 18446744073709551616) : x < top6 := lt_top113 x (by omega)
theorem limb_zero_mod (n : Nat) : limb n 0 = ((n % 18446744073709551616 : Nat) : Int) := by unfold limb limbN; rw [Nat.mul_zero, Nat.pow_zero, Nat.div_one]
theorem wholeN_lt (f m a : Nat) (h : wholeE f m a = 0) : wholeN f m a < top6 := by
  unfold wholeN; rw [decide_eq_true h]
  show (wholeG f m a).1 < top6
  unfold wholeE at h
  rcases Nat.lt_or_ge (wholeG f m a).1 top6 with hl | hg
  · exact hl
  · rw [decide_eq_true hg] at h
    exfalso; revert h
    cases fitsB f a && decide (m < 5) <;> cases noFin (clsN f a) <;> simp
theorem tointConvert_any (k f m a : Nat) (w : World) (hk8 : k < 256) (hf8 : f < 256) (hm : m < 256) (ha : a < 2 ^ (64 * 2)) (hT : Tab w) :
    Calls Tryd.prog 28 #[.int .u8 k, .int .u8 f, .int .u8 m, BV a] w fun e w' => e = .returned (.tuple #[.int .u64 ((convN k f m a).1 : Nat), .int .u8 ((convN k f m a).2.1 : Nat), .int .i64 (convN k f m a).2.2]) ∧ Below w.heap.size w w' := by
  by_cases hk : k < 4
  · have cE := fun w => tointEnds_any k w hk
    have cW := fun w hT => tointWhole_any f m a w hm ha hT
    have hl := lowK_lt k
    by_cases h2 : wholeE f m a = 2
    · have hok : convOk k f m a = false := by unfold convOk; rw [(wholeE_two f m a).1 h2, Bool.and_false]
      rw [h2] at cW
      refine (tointConvert_arg k f m a _ _ _ _ _ w hT hk cW cE).mono fun e w' k => ret_conv (x := 0) (fl := 0) ?_ ?_ ?_ k
      · unfold convN; rw [hok]; rfl
      · unfold convN; rw [hok]; rfl
      · unfold convN; rw [hok]; rfl
    · have hfm : (fitsB f a && decide (m < 5)) = true := by
        cases h : fitsB f a && decide (m < 5)
        · exact absurd ((wholeE_two f m a).2 h) h2
        · rfl
      have hok : convOk k f m a = true := by unfold convOk; rw [hfm, decide_eq_true hk]; rfl
      have hfit : fitsB f a = true := by cases h : fitsB f a; rw [h] at hfm; cases hfm; rfl
      have cR : convN k f m a = ((convR k f m a).1, (convR k f m a).2, 0) := by unfold convN; rw [hok]; rfl
      rw [cR]
      by_cases h0 : wholeE f m a = 0
      · have hn := wholeN_lt f m a h0
        rw [h0] at cW
        cases hneg : wholeNeg f m a
        · rw [hneg] at cW
          have cO := fun w => wideOf_any (highK k) w hl.2
          have cQ := fun w => wideCmp_any (wholeN f m a) (highK k) w hn (lt_top64 _ hl.2)
          by_cases hout : highK k < wholeN f m a
          · have hR : convR k f m a = (toldN k false (highK k), 16) := by unfold convR; rw [if_pos h0, hneg, if_neg (by simp), if_pos ⟨rfl, hout⟩]
            have cT := fun w => tointTold_any k (highK k) false w hk hl.2
            exact (tointConvert_out_f k f m a _ _ _ _ _ _ w hT hk ((cmpN_pos _ _).2 hout) cW cE cO cQ cT).mono fun e w' k => ret_conv (fl := 16) (by rw [hR]) (by rw [hR]) rfl k
          · have hR : convR k f m a = (toldN k false (wholeN f m a % 18446744073709551616), cond (wholeX f m a) 0 1) := by unfold convR; rw [if_pos h0, hneg, if_neg (by simp), if_neg (by simp; omega)]
            have cT := fun w => tointTold_any k (wholeN f m a % 18446744073709551616) false w hk (Nat.mod_lt _ (by decide))
            rw [← limb_zero_mod] at cT
            cases hx : wholeX f m a
            · rw [hx] at cW hR
              exact (tointConvert_in_ff k f m a _ _ _ _ _ w hT hk (fun h => hout ((cmpN_pos _ _).1 h)) cW cE cO cQ cT).mono fun e w' k => ret_conv (fl := 1) (by rw [hR]) (by rw [hR]; rfl) rfl k
            · rw [hx] at cW hR
              exact (tointConvert_in_ft k f m a _ _ _ _ _ w hT hk (fun h => hout ((cmpN_pos _ _).1 h)) cW cE cO cQ cT).mono fun e w' k => ret_conv (fl := 0) (by rw [hR]) (by rw [hR]; rfl) rfl k
        · rw [hneg] at cW
          have cO := fun w => wideOf_any (lowK k) w hl.1
          have cQ := fun w => wideCmp_any (wholeN f m a) (lowK k) w hn (lt_top64 _ hl.1)
          by_cases hout : lowK k < wholeN f m a
          · have hR : convR k f m a = (toldN k true (lowK k), 16) := by unfold convR; rw [if_pos h0, hneg, if_pos ⟨rfl, hout⟩]
            have cT := fun w => tointTold_any k (lowK k) true w hk hl.1
            exact (tointConvert_out_t k f m a _ _ _ _ _ _ w hT hk ((cmpN_pos _ _).2 hout) cW cE cO cQ cT).mono fun e w' k => ret_conv (fl := 16) (by rw [hR]) (by rw [hR]) rfl k
          · have hR : convR k f m a = (toldN k true (wholeN f m a % 18446744073709551616), cond (wholeX f m a) 0 1) := by unfold convR; rw [if_pos h0, hneg, if_neg (by simp; omega), if_neg (by simp)]
            have cT := fun w => tointTold_any k (wholeN f m a % 18446744073709551616) true w hk (Nat.mod_lt _ (by decide))
            rw [← limb_zero_mod] at cT
            cases hx : wholeX f m a
            · rw [hx] at cW hR
              exact (tointConvert_in_tf k f m a _ _ _ _ _ w hT hk (fun h => hout ((cmpN_pos _ _).1 h)) cW cE cO cQ cT).mono fun e w' k => ret_conv (fl := 1) (by rw [hR]) (by rw [hR]; rfl) rfl k
            · rw [hx] at cW hR
              exact (tointConvert_in_tt k f m a _ _ _ _ _ w hT hk (fun h => hout ((cmpN_pos _ _).1 h)) cW cE cO cQ cT).mono fun e w' k => ret_conv (fl := 0) (by rw [hR]) (by rw [hR]; rfl) rfl k
      · have cC := fun w hT => kindClass_any f a w hf8 ha hT
        rw [hfit] at cC
        have b2 : (wholeE f m a == 2) = false := by simpa using h2
        have b0 : (wholeE f m a == 0) = false := by simpa using h0
        cases hb : belowN4 (clsN f a)
        · have hR : convR k f m a = (toldN k false (highK k), 16) := by unfold convR; rw [if_neg h0, hb]; rfl
          have cT := fun w => tointTold_any k (highK k) false w hk hl.2
          have hc : ¬ ((cond true (clsN f a) 0 : Nat) : Int) < 4 := by unfold belowN4 at hb; have := of_decide_eq_false hb; show ¬ ((clsN f a : Nat) : Int) < 4; omega
          exact (tointConvert_none_f k f m a _ _ _ _ _ _ _ _ _ w hT hk b2 b0 hc cW cE cC cT).mono fun e w' k => ret_conv (fl := 16) (by rw [hR]) (by rw [hR]) rfl k
        · have hR : convR k f m a = (toldN k true (lowK k), 16) := by unfold convR; rw [if_neg h0, hb]; rfl
          have cT := fun w => tointTold_any k (lowK k) true w hk hl.1
          have hc : ((cond true (clsN f a) 0 : Nat) : Int) < 4 := by unfold belowN4 at hb; have := of_decide_eq_true hb; show ((clsN f a : Nat) : Int) < 4; omega
          exact (tointConvert_none_t k f m a _ _ _ _ _ _ _ _ _ w hT hk b2 b0 hc cW cE cC cT).mono fun e w' k => ret_conv (fl := 16) (by rw [hR]) (by rw [hR]) rfl k
  · have hok : convOk k f m a = false := by unfold convOk; rw [decide_eq_false hk]; rfl
    refine (tointConvert_kind k f m a w (by omega)).mono fun e w' k => ret_conv (x := 0) (fl := 0) ?_ ?_ ?_ k
    · unfold convN; rw [hok]; rfl
    · unfold convN; rw [hok]; rfl
    · unfold convN; rw [hok]; rfl
open Go.RowKit
theorem tointAlive_any (w : World) (hT : Tab w) :
    Calls Tryd.prog 10 #[] w fun e w' => e = .returned (.bool true) ∧ Below w.heap.size w w' := by
  have cA : ∀ w, Tab w → Calls Tryd.prog 28 #[.int .u8 0, .int .u8 2, .int .u8 1, .agg #[.int .u64 0, .int .u64 48128]] w fun e w' => e = .returned (.tuple #[.int .u64 18446744073709551615, .int .u8 0, .int .i64 0]) ∧ Below w.heap.size w w' := by
    intro w hT
    have := tointConvert_any 0 2 1 48128 w (by decide) (by decide) (by decide) (by decide) hT
    rw [show convN 0 2 1 48128 = (18446744073709551615, 0, 0) by decide +kernel] at this
    exact this
  have HT := Lib.hid hT
  clear hT
  go_enter Tryd.func10, Tryd.ntmps10
  go_wp2_with (first | (go_at_call 28; (with_reducible refine (cA _ HT.out).mono ?_); rintro e w ⟨rfl, hb⟩))
  go_ret
  exact ⟨rfl, hb⟩
open Go.RowKit Go.Proofs.YtecdpjhifmlahaaDoorW.PrintWords Go.Proofs.YtecdpjhifmlahaaDoor.PTointEnds
theorem len_top (n : Nat) : 384 < lenN n ↔ top6 ≤ n := by
  have h := lenN_le n (64 * 6)
  rw [← top6.eq_1] at h
  omega
theorem len_nb48 (n : Nat) (h : n < top6) : nb n ≤ 48 := by
  have h1 : lenN n ≤ 384 := (lenN_le n (64 * 6)).2 (by rw [← top6.eq_1]; exact h)
  unfold nb; omega
theorem r8IsInf_nt (f b : Nat) (w : World) (hf : f < 4) (hb : b < 2 ^ (64 * 2)) :
    Calls Tryd.prog 23 #[.int .u8 f, BV b] w fun e w' => e = .returned (.bool (infB (clsN f b))) ∧ Below w.heap.size w w' := by
  by_cases hc : clsN f b = 0
  · exact r8IsInf_t f b _ w hc (fun w => r8Class_any f b w hf hb)
  · exact r8IsInf_f f b _ w hc (fun w => r8Class_any f b w hf hb)
theorem r19Whole_any (f m a : Nat) (w : World) (ha : a < 2 ^ (64 * 2)) (hT : Tab w) :
    Calls Tryd.prog 9 #[.int .u8 f, .int .u8 m, BV a] w fun e w' => e = .returned (.tuple #[.bool (wholeNeg f m a), W (wholeN f m a), .bool (wholeX f m a), .int .i64 (wholeE f m a)]) ∧ Below w.heap.size w w' := by
  have cT := fun w => r7Fits_any f a w ha
  have cM := fun w => r7RightMode_any m w
  cases hfit : fitsB f a
  case false =>
    rw [hfit] at cT
    have hE : wholeE f m a = 2 := by unfold wholeE; rw [hfit]; rfl
    unfold wholeNeg wholeN wholeX
    rw [hE]
    exact r19W_fit f m a 0 false w cT
  rw [hfit] at cT
  have hf := ((fits_iff f a).1 hfit).1
  by_cases h5 : m < 5
  case neg =>
    rw [decide_eq_false h5] at cM
    have hE : wholeE f m a = 2 := by unfold wholeE; rw [hfit, decide_eq_false h5]; rfl
    unfold wholeNeg wholeN wholeX
    rw [hE]
    exact r19W_mode f m a 0 false w cT cM
  rw [decide_eq_true h5] at cM
  have cN := fun w => r8IsNaN_any f a w hf ha
  have cI := fun w => r8IsInf_nt f a w hf ha
  have okE : wholeE f m a = cond (noFin (clsN f a)) 80 (cond (decide (top6 ≤ (wholeG f m a).1)) 4 0) := by unfold wholeE; rw [hfit, decide_eq_true h5]; rfl
  have hc9 := cls_le f a
  cases h8 : nanB (clsN f a)
  case true =>
    rw [h8] at cN
    have hE : wholeE f m a = 80 := by
      rw [okE]; unfold noFin; unfold nanB at h8; rw [decide_eq_true (show 7 ≤ clsN f a by have := of_decide_eq_true h8; omega)]; simp
    unfold wholeNeg wholeN wholeX
    rw [hE]
    exact r19W_nan f m a 0 false w cT cM cN
  rw [h8] at cN
  cases hi : infB (clsN f a)
  case true =>
    rw [hi] at cI
    have hE : wholeE f m a = 80 := by
      rw [okE]; unfold noFin
      have : clsN f a = 0 ∨ clsN f a = 7 := infB_cases _ hi
      rcases this with h | h <;> rw [h] <;> rfl
    unfold wholeNeg wholeN wholeX
    rw [hE]
    exact r19W_inf f m a 0 false w cT cM cN cI
  rw [hi] at cI
  have hn7 : noFin (clsN f a) = false := by
    unfold nanB at h8
    unfold infB at hi
    have h1 := of_decide_eq_false h8
    simp only [Bool.or_eq_false_iff, decide_eq_false_iff_not] at hi
    unfold noFin
    rw [decide_eq_false (by omega), decide_eq_false (by omega)]; rfl
  rw [hn7] at okE
  have cR := fun w => r19Rounded_any f m a w hfit h8 hi
  have hG : wholeG f m a = gridN m (negN f a) (sigN f a) (xpN f a) false 0 := by
    unfold wholeG; rw [below_neg f a (by unfold nanB at h8; exact of_decide_eq_false h8)]
  rw [← hG] at cR
  have hb : belowN4 (clsN f a) = negN f a := below_neg f a (by unfold nanB at h8; exact of_decide_eq_false h8)
  have hnb : nb (wholeG f m a).1 ≤ 16384 := by
    obtain ⟨x1, x2⟩ := xpN_bound f a hfit
    have hs := sigN_113 f a hfit
    obtain ⟨l1, l2, l3, l4⟩ := one_form (sigN f a) (xpN f a) hs x1 x2
    rw [hG, ← round_plain (sigN f a) (xpN f a) m (negN f a) 1 l2.symm]
    have b0 := fl_nb (numX (sigN f a) 1) 1 (expX (sigN f a) 1 (xpN f a)) 0 (by omega) (by omega)
    generalize ratFl (numX (sigN f a) 1) 1 (expX (sigN f a) 1 (xpN f a)) 0 = v0 at *
    have b1 := nb_add v0 1 15001 b0 (by decide)
    show nb (v0 + cond _ 1 0) ≤ 16384
    cases upB m (negX' (negN f a) (sigN f a)) _ _ _
    · show nb (v0 + 0) ≤ _; rw [Nat.add_zero]; omega
    · show nb (v0 + 1) ≤ _; omega
  have cL := fun w => r5Len_any (wholeG f m a).1 w hnb
  unfold wholeNeg wholeN wholeX
  rw [hb]
  by_cases hl : top6 ≤ (wholeG f m a).1
  · have hE : wholeE f m a = 4 := by rw [okE, decide_eq_true hl]; rfl
    rw [hE]
    have h4 := (len_top (wholeG f m a).1).2 hl
    exact r19W_long f m a (wholeG f m a).1 (lenN (wholeG f m a).1) (wholeG f m a).2 w cT cM cN cI cR cL (by omega)
  · have hE : wholeE f m a = 0 := by rw [okE, decide_eq_false hl]; rfl
    have hlt : (wholeG f m a).1 < top6 := by omega
    have h4 : ¬ 384 < lenN (wholeG f m a).1 := fun h => hl ((len_top _).1 h)
    have cW := fun w => r5ToWide_any (wholeG f m a).1 w (len_nb48 _ hlt)
    have cS := fun w => r8Sign_any f a w ha
    rw [hfit, Bool.true_and] at cS
    rw [hE]
    generalize (wholeG f m a).1 = n at *
    generalize (wholeG f m a).2 = x at *
    cases hng : negN f a
    · rw [hng] at cS
      exact r19W_ok_fx f m a n (lenN n) x w cT cM cN cI cR cL (by omega) cW cS
    · rw [hng] at cS
      by_cases h0 : n = 0
      · obtain ⟨q1, q2⟩ := str_none n h0
        rw [decide_eq_true h0]
        exact r19W_ok_tf f m a n (lenN n) x w cT cM cN cI cR cL (by omega) q1 q2 cW cS
      · obtain ⟨q1, q2⟩ := str_full n h0
        rw [decide_eq_false h0]
        exact r19W_ok_tt f m a n (lenN n) x w cT cM cN cI cR cL (by omega) q1 q2 cW cS
theorem tiLeast_big (k : Nat) (w : World) (hk : 3 < (k : Int)) :
    Calls Tryd.prog 4 #[.int .u8 k] w fun e w' => e = .returned (.tuple #[.int .u64 0, .int .i64 2]) ∧ Below w.heap.size w w' := by
  have H := Own.start w
  go_enter Tryd.func4, Tryd.ntmps4
  exact walk10
theorem tiGreat_big (k : Nat) (w : World) (hk : 3 < (k : Int)) :
    Calls Tryd.prog 5 #[.int .u8 k] w fun e w' => e = .returned (.tuple #[.int .u64 0, .int .i64 2]) ∧ Below w.heap.size w w' := by
  have H := Own.start w
  go_enter Tryd.func5, Tryd.ntmps5
  exact walk10
theorem tiLeast_in (k : Nat) (lo hi r : Int) (w : World) (hk : (k : Int) ≤ 3) (cE : ∀ w, Calls Tryd.prog 11 #[.int .u8 k] w fun e w' => e = .returned (.tuple #[.int .u64 lo, .int .u64 hi]) ∧ Below w.heap.size w w') (cT : ∀ w, Calls Tryd.prog 12 #[.int .u8 k, .bool true, .int .u64 lo] w fun e w' => e = .returned (.int .u64 r) ∧ w = w') :
    Calls Tryd.prog 4 #[.int .u8 k] w fun e w' => e = .returned (.tuple #[.int .u64 r, .int .i64 0]) ∧ Below w.heap.size w w' := by
  have H := Own.start w
  go_enter Tryd.func4, Tryd.ntmps4
  exact walk10
theorem tiGreat_in (k : Nat) (lo hi r : Int) (w : World) (hk : (k : Int) ≤ 3) (cE : ∀ w, Calls Tryd.prog 11 #[.int .u8 k] w fun e w' => e = .returned (.tuple #[.int .u64 lo, .int .u64 hi]) ∧ Below w.heap.size w w') (cT : ∀ w, Calls Tryd.prog 12 #[.int .u8 k, .bool false, .int .u64 hi] w fun e w' => e = .returned (.int .u64 r) ∧ w = w') :
    Calls Tryd.prog 5 #[.int .u8 k] w fun e w' => e = .returned (.tuple #[.int .u64 r, .int .i64 0]) ∧ Below w.heap.size w w' := by
  have H := Own.start w
  go_enter Tryd.func5, Tryd.ntmps5
  exact walk10
theorem r19Least_0 (w : World) :
    Calls Tryd.prog 6 #[.int .u8 0] w fun e w' => e = .returned (.int .u64 18446744071562067968) ∧ Below w.heap.size w w' := by
  have H := Own.start w
  go_enter Tryd.func6, Tryd.ntmps6
  exact walk10
theorem r19Least_1 (w : World) :
    Calls Tryd.prog 6 #[.int .u8 1] w fun e w' => e = .returned (.int .u64 0) ∧ Below w.heap.size w w' := by
  have H := Own.start w
  go_enter Tryd.func6, Tryd.ntmps6
  exact walk10
theorem r19Least_2 (w : World) :
    Calls Tryd.prog 6 #[.int .u8 2] w fun e w' => e = .returned (.int .u64 9223372036854775808) ∧ Below w.heap.size w w' := by
  have H := Own.start w
  go_enter Tryd.func6, Tryd.ntmps6
  exact walk10
theorem r19Least_3 (w : World) :
    Calls Tryd.prog 6 #[.int .u8 3] w fun e w' => e = .returned (.int .u64 0) ∧ Below w.heap.size w w' := by
  have H := Own.start w
  go_enter Tryd.func6, Tryd.ntmps6
  exact walk10
theorem r19Least_le (k : Nat) (w : World) (hk : k < 4) : Calls Tryd.prog 6 #[.int .u8 k] w fun e w' => e = .returned (.int .u64 (toldN k true (lowK k) : Nat)) ∧ Below w.heap.size w w' := by
  obtain rfl | rfl | rfl | rfl : k = 0 ∨ k = 1 ∨ k = 2 ∨ k = 3 := by omega
  · have h := r19Least_0 w
    rw [show toldN 0 true (lowK 0) = 18446744071562067968 by decide +kernel]; exact h
  · have h := r19Least_1 w
    rw [show toldN 1 true (lowK 1) = 0 by decide +kernel]; exact h
  · have h := r19Least_2 w
    rw [show toldN 2 true (lowK 2) = 9223372036854775808 by decide +kernel]; exact h
  · have h := r19Least_3 w
    rw [show toldN 3 true (lowK 3) = 0 by decide +kernel]; exact h
theorem r19Greatest_0 (w : World) :
    Calls Tryd.prog 7 #[.int .u8 0] w fun e w' => e = .returned (.int .u64 2147483647) ∧ Below w.heap.size w w' := by
  have H := Own.start w
  go_enter Tryd.func7, Tryd.ntmps7
  exact walk10
theorem r19Greatest_1 (w : World) :
    Calls Tryd.prog 7 #[.int .u8 1] w fun e w' => e = .returned (.int .u64 18446744073709551615) ∧ Below w.heap.size w w' := by
  have H := Own.start w
  go_enter Tryd.func7, Tryd.ntmps7
  exact walk10
theorem r19Greatest_2 (w : World) :
    Calls Tryd.prog 7 #[.int .u8 2] w fun e w' => e = .returned (.int .u64 9223372036854775807) ∧ Below w.heap.size w w' := by
  have H := Own.start w
  go_enter Tryd.func7, Tryd.ntmps7
  exact walk10
theorem r19Greatest_3 (w : World) :
    Calls Tryd.prog 7 #[.int .u8 3] w fun e w' => e = .returned (.int .u64 18446744073709551615) ∧ Below w.heap.size w w' := by
  have H := Own.start w
  go_enter Tryd.func7, Tryd.ntmps7
  exact walk10
theorem r19Greatest_le (k : Nat) (w : World) (hk : k < 4) : Calls Tryd.prog 7 #[.int .u8 k] w fun e w' => e = .returned (.int .u64 (toldN k false (highK k) : Nat)) ∧ Below w.heap.size w w' := by
  obtain rfl | rfl | rfl | rfl : k = 0 ∨ k = 1 ∨ k = 2 ∨ k = 3 := by omega
  · have h := r19Greatest_0 w
    rw [show toldN 0 false (highK 0) = 2147483647 by decide +kernel]; exact h
  · have h := r19Greatest_1 w
    rw [show toldN 1 false (highK 1) = 18446744073709551615 by decide +kernel]; exact h
  · have h := r19Greatest_2 w
    rw [show toldN 2 false (highK 2) = 9223372036854775807 by decide +kernel]; exact h
  · have h := r19Greatest_3 w
    rw [show toldN 3 false (highK 3) = 18446744073709551615 by decide +kernel]; exact h
theorem walk9 {P : Prop} (h : P := by
  go_wp2_with (first
    | ((with_reducible show wpList _ _ _ (⟨_, .box _ _, _, _, _, _⟩ :: _) _ _); refine H.box rfl rfl (cells_agg _) ?_; (intro g w H; simp only [Act.put, q1_, q2_, q3_]))
    | ((with_reducible show wpList _ _ _ (⟨_, .alloc 33, _, _, _, _⟩ :: _) _ _); refine H.mk0 rfl rW rfl ?_; (intro g w H; simp only [Act.put, q1_, q2_, q3_]))
    | ((with_reducible show wpList _ _ _ (⟨_, .load 27 _, _, _, _, _⟩ :: _) _ _); refine H.ld rfl rB rfl rfl v2_ v3_ (by rfl) ?_; simp only [Act.put, q1_, q2_, q3_])
    | ((with_reducible show wpList _ _ _ (⟨_, .load 33 _, _, _, _, _⟩ :: _) _ _); refine H.ld rfl rW rfl rfl v2_ v4_ (by rfl) ?_; simp only [Act.put, q1_, q2_, q3_])
    | ((with_reducible show wpList _ _ _ (⟨_, .store 33 _ _, _, _, _, _⟩ :: _) _ _); refine H.st rfl rW rfl rfl (cells_agg _) v6_ (set_limbsR _ _) (by rfl) (by exact one_of rfl) v15_ ?_; (intro w H; simp only [Act.put]))
    | (go_at_call 4; ((with_reducible refine (cL _).mono ?_); rintro e w ⟨rfl, hb⟩; replace H := H.call hb; clear hb))
    | (go_at_call 5; ((with_reducible refine (cG _).mono ?_); rintro e w ⟨rfl, hb⟩; replace H := H.call hb; clear hb))
    | (go_at_call 6; ((with_reducible refine (cl _).mono ?_); rintro e w ⟨rfl, hb⟩; replace H := H.call hb; clear hb))
    | (go_at_call 7; ((with_reducible refine (cg _).mono ?_); rintro e w ⟨rfl, hb⟩; replace H := H.call hb; clear hb))
    | (go_at_call 8; ((with_reducible refine (cW _ (HT.out.below H.below)).mono ?_); rintro e w ⟨rfl, hb⟩; replace H := H.call hb; clear hb))
    | (go_at_call 9; ((with_reducible refine (cV _ (HT.out.below H.below)).mono ?_); rintro e w ⟨rfl, hb⟩; replace H := H.call hb; clear hb))
    | (go_at_call 10; ((with_reducible refine (tointAlive_any _ (HT.out.below H.below)).mono ?_); rintro e w ⟨rfl, hb⟩; replace H := H.call hb; clear hb))
    )
  all_goals (go_ret; exact ⟨rfl, H.below⟩)) : P := h
set_option maxHeartbeats 3200000 in
theorem tointEnds_big (k f m a n : Nat) (q x : Bool) (h : Int) (w : World) (hT : Tab w) (hk : 3 < (k : Int)) (eqW : ∀ w, (Op.equalIn 10000 33 (.agg (limbs n)) (.agg (limbs n))).run Tryd.prog w = .ok true w) (cW : ∀ w, Tab w → Calls Tryd.prog 8 #[.int .u8 f, .int .u8 m, BV a] w fun e w' => e = .returned (.tuple #[.bool q, W n, .bool x, .int .i64 h]) ∧ Below w.heap.size w w') (cV : ∀ w, Tab w → Calls Tryd.prog 9 #[.int .u8 f, .int .u8 m, BV a] w fun e w' => e = .returned (.tuple #[.bool q, W n, .bool x, .int .i64 h]) ∧ Below w.heap.size w w') (cL : ∀ w, Calls Tryd.prog 4 #[.int .u8 k] w fun e w' => e = .returned (.tuple #[.int .u64 0, .int .i64 2]) ∧ Below w.heap.size w w') (cG : ∀ w, Calls Tryd.prog 5 #[.int .u8 k] w fun e w' => e = .returned (.tuple #[.int .u64 0, .int .i64 2]) ∧ Below w.heap.size w w')  :
    Calls Tryd.prog 3 #[.int .u8 k, .int .u8 f, .int .u8 m, BV a] w fun e w' => e = .returned (.bool true) ∧ Below w.heap.size w w' := by
  have H := Own.start w
  have HT := Lib.hid hT
  clear hT
  go_enter Tryd.func3, Tryd.ntmps3
  exact walk9
set_option maxHeartbeats 3200000 in
theorem tointEnds_in (k f m a n : Nat) (q x : Bool) (h : Int) (w : World) (hT : Tab w) (lo hi : Int) (hk : (k : Int) ≤ 3) (eqW : ∀ w, (Op.equalIn 10000 33 (.agg (limbs n)) (.agg (limbs n))).run Tryd.prog w = .ok true w) (cW : ∀ w, Tab w → Calls Tryd.prog 8 #[.int .u8 f, .int .u8 m, BV a] w fun e w' => e = .returned (.tuple #[.bool q, W n, .bool x, .int .i64 h]) ∧ Below w.heap.size w w') (cV : ∀ w, Tab w → Calls Tryd.prog 9 #[.int .u8 f, .int .u8 m, BV a] w fun e w' => e = .returned (.tuple #[.bool q, W n, .bool x, .int .i64 h]) ∧ Below w.heap.size w w') (cL : ∀ w, Calls Tryd.prog 4 #[.int .u8 k] w fun e w' => e = .returned (.tuple #[.int .u64 lo, .int .i64 0]) ∧ Below w.heap.size w w') (cG : ∀ w, Calls Tryd.prog 5 #[.int .u8 k] w fun e w' => e = .returned (.tuple #[.int .u64 hi, .int .i64 0]) ∧ Below w.heap.size w w') (cl : ∀ w, Calls Tryd.prog 6 #[.int .u8 k] w fun e w' => e = .returned (.int .u64 lo) ∧ Below w.heap.size w w') (cg : ∀ w, Calls Tryd.prog 7 #[.int .u8 k] w fun e w' => e = .returned (.int .u64 hi) ∧ Below w.heap.size w w') :
    Calls Tryd.prog 3 #[.int .u8 k, .int .u8 f, .int .u8 m, BV a] w fun e w' => e = .returned (.bool true) ∧ Below w.heap.size w w' := by
  have H := Own.start w
  have HT := Lib.hid hT
  clear hT
  go_enter Tryd.func3, Tryd.ntmps3
  exact walk9
theorem tointEnds_law (k f m a : Nat) (w : World) (hk : k < 256) (hf : f < 256) (hm : m < 256) (ha : a < 2 ^ (64 * 2)) (hT : Tab w) :
    Calls Tryd.prog 3 #[.int .u8 k, .int .u8 f, .int .u8 m, BV a] w fun e w' => e = .returned (.bool true) ∧ Below w.heap.size w w' := by
  have cW := fun w hT => tointWhole_any f m a w hm ha hT
  have cV := fun w hT => r19Whole_any f m a w ha hT
  have hn : wholeN f m a < top6 := by
    by_cases h : wholeE f m a = 0
    · exact wholeN_lt f m a h
    · unfold wholeN; rw [decide_eq_false h]; exact zero_top
  have eqW : ∀ w, (Op.equalIn 10000 33 (.agg (limbs (wholeN f m a))) (.agg (limbs (wholeN f m a)))).run Tryd.prog w = .ok true w := fun w => (run_equal_wide w _ _ hn hn).trans (by rw [decide_eq_true rfl])
  by_cases h3 : k < 4
  · have cE := fun w => tointEnds_any k w h3
    obtain ⟨b1, b2⟩ := lowK_lt k
    have cL := fun w => tiLeast_in k _ _ _ w (by omega) cE (fun w => tointTold_any k (lowK k) true w h3 b1)
    have cG := fun w => tiGreat_in k _ _ _ w (by omega) cE (fun w => tointTold_any k (highK k) false w h3 b2)
    exact tointEnds_in k f m a _ _ _ _ w hT _ _ (by omega) eqW cW cV cL cG (fun w => r19Least_le k w h3) (fun w => r19Greatest_le k w h3)
  · exact tointEnds_big k f m a _ _ _ _ w hT (by omega) eqW cW cV (fun w => tiLeast_big k w (by omega)) (fun w => tiGreat_big k w (by omega))
open Go.ChangeShapes Go.WideShapes Go.ChangeAt Go.RowKit
theorem own : ownKnob Tryd.prog.godebug = none := by kernel_rfl
theorem laidOut : laidOutB Tryd.prog = true := by kernel_rfl
/-- What every row of this seat lists. -/
def laidL : List (String × DataW Unit) := [("math/bits.deBruijn64tab", Rows.laid_math_bits_deBruijn64tab)]
theorem gTab : Tryd.prog.globalNamed "math/bits.deBruijn64tab" = some 0 := by kernel_rfl
theorem tTab : (Tryd.prog.globals[0]?).map (·.type) = some 122 := by kernel_rfl
theorem ren1 : Tryd.lays29_ren.g 1 = 0 := rfl
theorem door_met (os : Os) (args : Array Value) : laidMetH Tryd.prog laidL ((World.doorLaid Tryd.prog 400 os).forCall (fun _ _ => 0) ⟨#[], args, []⟩).memory :=
  laidMetH_of_parts3 (fuel := 8) (laidMet_of_run' 8 (by kernel_rfl) (by kernel_rfl)) (by kernel_rfl) (by kernel_rfl)
theorem datum_map {H : Type} : (Rows.laid_math_bits_deBruijn64tab : DataW H) = .agg (Lib.deBruijn64tab.map fun x => .lit (.int .u8 (x : Nat))) := rfl
theorem tab_len : Lib.deBruijn64tab.length = 64 := by decide
theorem tab_of_laid {W : World} (h : laidMetH Tryd.prog laidL W) : Tab W := by
  rw [MakeChecks.laidMetH_plain _ _ _ (by kernel_rfl)] at h
  obtain ⟨ps, ⟨g0, t0, cs0, f0, p0, q0, hg0, ht0, hv0, hd0, _, _⟩, _, _⟩ := h
  obtain rfl := Option.some.inj (gTab.symm.trans hg0)
  obtain rfl := Option.some.inj (tTab.symm.trans ht0)
  obtain ⟨xs, m1, rfl, hx1, hlen, hn, hel⟩ := DataW.trod_array Tryd.underlying122 hd0
  have c1 : Tryd.prog.cellsOf 5 = 1 := by kernel_rfl
  rw [c1] at hel
  simp only [Prod.mk.injEq, datum_map, DataW.agg.injEq] at hx1
  intro j hj
  rw [ren1]
  have hj64 : j < 64 := by rw [tab_len] at hj; exact hj
  have hcell := World.var?_cell hg0 hv0 j
  rw [hcell]
  have h1 := hel j hj64
  have hxj : xs[j]? = some xs[j] := List.getElem?_eq_getElem (by omega)
  rw [hxj, Nat.mul_one] at h1
  obtain ⟨n, e1, e2, _⟩ := DataW.trod_int Tryd.underlying5 h1
  have hm : (xs.map (·.1))[j]? = some (.lit (.int .u8 n)) := by rw [List.getElem?_map, hxj, e2]; rfl
  rw [← hx1.1, List.getElem?_map, List.getElem?_eq_getElem hj] at hm
  simp only [Option.map_some, Option.some.injEq, DataW.lit.injEq, Lit.int.injEq, true_and] at hm
  have hget : cs0[j]? = some (.int .u8 n) := by
    have h2 : ((cs0.toList.drop j).take 1)[0]? = some (.int .u8 n) := by rw [e1]; rfl
    rw [List.getElem?_take_of_lt (by decide), List.getElem?_drop, Nat.add_zero, Array.getElem?_toList] at h2
    exact h2
  rw [hget, ← hm, List.getD_eq_getElem?_getD, List.getElem?_eq_getElem hj]; rfl
theorem two_words (x y : Nat) (hx : x < 18446744073709551616) (hy : y < 18446744073709551616) : ∃ b : Nat, Value.agg #[.int .u64 (x : Nat), .int .u64 (y : Nat)] = BV b ∧ b < 2 ^ (64 * 2) := by
  refine ⟨x * 18446744073709551616 + y, ?_, by omega⟩
  have h1 : limb (x * 18446744073709551616 + y) 1 = (x : Nat) := by
    show ((limbN (x * 18446744073709551616 + y) 1 : Nat) : Int) = x
    unfold limbN; rw [show 2 ^ (64 * 1) = 18446744073709551616 from rfl]; omega
  have h0 : limb (x * 18446744073709551616 + y) 0 = (y : Nat) := by
    show ((limbN (x * 18446744073709551616 + y) 0 : Nat) : Int) = y
    unfold limbN; rw [show 2 ^ (64 * 0) = 1 from rfl]; omega
  show Value.agg #[_, _] = .agg #[.int .u64 (limb _ 1), .int .u64 (limb _ 0)]
  rw [h1, h0]
theorem bits_cells : Tryd.prog.cellsOf 27 = 2 := by kernel_rfl
/-- An argument of 128 bits is the encoding of a number. -/
theorem open_bits {H : Type} {enc : TypeId × Value → H} {W : World} {r : Reach} {base b0 : Nat} {spare : Nat → Bool} {held : Bool} {v : Value} {d : DataW H} {p : List MemPlace}
    (hv : Value.okWide Tryd.prog W r b0 27 v) (h : DataW.Trod enc Tryd.prog W base spare held 27 v d p) : ∃ b : Nat, v = BV b ∧ b < 2 ^ (64 * 2) := by
  obtain ⟨c0, c1, y0, y1, m, rfl, rfl, rfl, hy0, hy1⟩ := Go.Joins.open_agg2 Tryd.underlying27 (by kernel_rfl) bits_cells hv h
  obtain ⟨x, e0, rfl, wx⟩ := DataW.trod_int Tryd.underlying25 hy0
  obtain ⟨y, e1, rfl, wy⟩ := DataW.trod_int Tryd.underlying25 hy1
  simp at e0 e1
  subst e0 e1
  have bx := bounds_u64 wx
  have bY := bounds_u64 wy
  obtain ⟨x, rfl⟩ := Int.eq_ofNat_of_zero_le bx.1
  obtain ⟨y, rfl⟩ := Int.eq_ofNat_of_zero_le bY.1
  exact two_words x y (by omega) (by omega)
theorem nat_u8 {x : Int} (h : (Lit.int .u8 x).wf = true) : ∃ n : Nat, x = n ∧ n < 256 := by
  have b := bounds_u8 h
  obtain ⟨n, rfl⟩ := Int.eq_ofNat_of_zero_le b.1
  exact ⟨n, rfl, by omega⟩
open Go.ChangeShapes Go.WideShapes Go.ChangeAt Go.RowKit
namespace RowTointEnds
theorem lifted (os : Os) (started : os.Started) (H : Type) (enc : TypeId × Value → H) :
    ReturnsInHanded {} Tryd.checked os 3 .any (fun w args => (Rows.tointEndsSpec.pre enc Tryd.prog Tryd.f3 [] false w args ∧ laidMetH Tryd.prog laidL w) ∧ sizedMet enc Tryd.prog Tryd.f3 (OpenSpec.ofChange Rows.tointEndsSpec) false w args)
      (Rows.tointEndsSpec.post enc Tryd.prog Tryd.f3 false true false false) := by
  refine returnsInHanded_of_change_and (C := Tryd.checked) (X := fun w _ => laidMetH Tryd.prog laidL w) (fun _ _ _ hh h => h.of_heap hh) own started (by kernel_rfl) Tryd.func3
    (ChangeSpec.witness_shaped (enc := enc) (C := Tryd.checked) (os := os) (X := fun w _ => laidMetH Tryd.prog laidL w) false (World.doorLaid Tryd.prog 400 os) #[.int .u8 0, .int .u8 0, .int .u8 0, .agg #[.int .u64 0, .int .u64 0]] 8 rfl (World.shaped_of_RefB (by kernel_rfl) (by kernel_rfl)) (by kernel_rfl) (by kernel_rfl) (by kernel_rfl) (door_met os _)) ?_
  intro W base args ds gs before hval0 hW _ _ hL _
  have hval : ∀ (j : Nat) t v, Tryd.f3.params[j]? = some t → args[j]? = some v → Value.okWide Tryd.prog W .any base t v := hval0
  have hW' := hW
  obtain ⟨p, q, hA0, hV, rfl, hfz, hnd⟩ := hW
  have hA : DataW.TrodAll enc Tryd.prog W 0 (fun _ => true) true Tryd.f3.params.toList args.toList ds p := hA0
  rw [Tryd.params3] at hA hval
  obtain ⟨v0, vs0, d0, ds0, p0, q0, hargs, rfl, rfl, h0, r0⟩ := trodAll_cons hA
  obtain ⟨v1, vs1, d1, ds1, p1, q1, rfl, rfl, rfl, h1, r1⟩ := trodAll_cons r0
  obtain ⟨v2, vs2, d2, ds2, p2, q2, rfl, rfl, rfl, h2, r2⟩ := trodAll_cons r1
  obtain ⟨v3, vs3, d3, ds3, p3, q3, rfl, rfl, rfl, h3, r3⟩ := trodAll_cons r2
  obtain ⟨rfl, rfl, rfl⟩ := trodAll_nil r3
  obtain rfl : args = #[v0, v1, v2, v3] := by cases args; simp_all
  obtain ⟨rfl, rfl⟩ := trodVars_none hV
  have hT : Tab W := tab_of_laid hL
  obtain ⟨b0, rfl, rfl, rfl, w0⟩ := open_int Tryd.underlying22 (hval 0 22 v0 rfl rfl) h0
  obtain ⟨a0, rfl, n0⟩ := nat_u8 w0
  obtain ⟨b1, rfl, rfl, rfl, w1⟩ := open_int Tryd.underlying23 (hval 1 23 v1 rfl rfl) h1
  obtain ⟨a1, rfl, n1⟩ := nat_u8 w1
  obtain ⟨b2, rfl, rfl, rfl, w2⟩ := open_int Tryd.underlying24 (hval 2 24 v2 rfl rfl) h2
  obtain ⟨a2, rfl, n2⟩ := nat_u8 w2
  have k3 := h3
  have lt3 : ∀ x ∈ p3, x.block < W.heap.size := by obtain ⟨m, hm⟩ := k3; exact DataW.trod_lt m _ _ _ hm
  obtain ⟨a3, rfl, n3⟩ := open_bits (hval 3 27 v3 rfl rfl) h3
  clear hA0 hval0
  refine (tointEnds_law a0 a1 a2 a3 W n0 n1 n2 n3 hT).mono fun e W' ⟨he, bel⟩ => ?_
  subst he
  exact ⟨_, rfl, _, _, _, [], _, [], hW', trodAll_mk1 (shut_bool Tryd.underlying4 _), (trodAll_cons_mk (shut_int Tryd.underlying22 w0) (trodAll_cons_mk (shut_int Tryd.underlying23 w1) (trodAll_cons_mk (shut_int Tryd.underlying24 w2) (trodAll_cons_mk (Below.trod laidOut (by kernel_rfl) (of_decide_eq_true (by kernel_rfl)) k3 bel lt3) trodAll_mk0)))), rfl, bel.frame _, fun h => by cases h⟩
theorem over : Rows.tointEndsRow.holds Tryd.pinned (OpenSpec.ofChange Rows.tointEndsSpec) :=
  OpenClaim.holds_of_wide 3 Tryd.f3 rfl rfl rfl rfl rfl rfl rfl ⟨rfl, rfl, rfl, rfl, rfl⟩ rfl rfl rfl rfl rfl (by kernel_rfl) Tryd.func3 (by kernel_rfl)
    (of_decide_eq_true (by kernel_rfl)) (by unfold Func.isWrapper; first | (rw [if_pos (by decide +kernel)]; kernel_rfl) | (rw [if_neg (by decide +kernel)]; exact ⟨rfl, rfl⟩))
    (fun os started H enc _ => lifted os started H enc)
end RowTointEnds
/-- The card, for the claim. -/
theorem tointEnds_holds : Rows.TointEndsCardSaid :=
  Claim7.holds_tied_plain_at .later [] [.data] true (true, "b325f15de9adb4480cbda1a0edbb8253ba584ad765d7ff78dd9a2beee0bbf58b") false
    RowTointEnds.over (fun _ h => by cases h) (by kernel_rfl) (fun _ h => by cases h) tointEnds_row_tie rfl ⟨rfl, rfl⟩ (by kernel_rfl) rfl
    (fun f fn hf hfn => by
      obtain rfl : f = 3 := Option.some.inj ((show Tryd.prog.funcNamed "abacus/abacuslaw19.TointEnds" = some 3 by kernel_rfl).symm.trans hf) |>.symm
      obtain rfl : fn = Tryd.f3 := (Option.some.inj (Tryd.func3.symm.trans hfn)).symm
      exact ⟨by kernel_rfl, fun j t ht => by
        rw [Tryd.params3] at ht
        have hm : t ∈ [22, 23, 24, 27] := by simpa using Array.mem_of_getElem? ht
        have hall : ([22, 23, 24, 27].all fun u => !Tryd.prog.wantsStandIn u) = true := by kernel_rfl
        exact (show Tryd.prog.wantsStandIn t = false by simpa using List.all_eq_true.1 hall t hm)⟩)
    (by kernel_rfl)
#print axioms tointEnds_holds
end Go.Proofs.YtecdpjhifmlahaaDoor
