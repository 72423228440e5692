/- Part 4 of what is proved: Shr, Rup, Shs, Mem3, Mem4, Mem5, Mem6, Mem7, Typ2, Pt, Pw, Pm, Hlp. -/
import Derived.Test.YtbngedcblngnhaaDoorHs0
import Derived.Test.YtbngedcblngnhaaDoorHs1
import Derived.Test.YtbngedcblngnhaaDoorHs2
import Derived.Test.YtbngedcblngnhaaDoorHs3
set_option linter.unusedSimpArgs false
set_option linter.unusedVariables false
set_option linter.unnecessarySimpa false
set_option maxRecDepth 100000
set_option maxHeartbeats 1600000
namespace Go.Proofs.YtbngedcblngnhaaDoor
open Go.RowKit
theorem pair_zero : Ending.returned (.agg #[.int .u64 0, .int .u64 0]) = .returned (BV 0) := rfl
theorem form_small (f : Nat) (hf : f < 4) : (2 * eF f + 1) * 2 ^ (pF f - 1) < 2 ^ (wF f - 1) ∧ (4 * eF f + 3) * 2 ^ (pF f - 2) < 2 ^ (wF f - 1) ∧ 0 < (2 * eF f + 1) * 2 ^ (pF f - 1) ∧ wF f - 1 < 128 := by
  have : f = 0 ∨ f = 1 ∨ f = 2 ∨ f = 3 := by omega
  rcases this with rfl | rfl | rfl | rfl <;> decide
theorem shapeAt_one (n : Nat) (w : World) (hn : n < 128) :
    Calls Tryd.prog 52 #[.int .u64 1, .int .i64 n] w fun e w' => e = .returned (BV (1 * 2 ^ n)) ∧ Below w.heap.size w w' := shapeAt_any 1 n w hn (by decide)
theorem shapeWith_big (f b : Nat) (neg : Bool) (w : World) (hf : f < 256) (h4 : ¬ f < 4) :
    Calls Tryd.prog 41 #[.int .u8 f, BV b, .bool neg] w fun e w' => e = .returned (BV 0) ∧ Below w.heap.size w w' := by
  have H := Own.start w
  go_enter Tryd.func41, Tryd.ntmps41
  go_wp2_with (first
    | ((with_reducible show wpList _ _ _ (⟨_, .box _ _, _, _, _, _⟩ :: _) _ _); refine H.box rfl rfl (cells_agg _) ?_; (intro g w H; simp only [Act.put, q1_, q2_, q3_, List.set_nil]))
    | ((with_reducible show wpList _ _ _ (⟨_, .alloc 26, _, _, _, _⟩ :: _) _ _); refine H.new rfl (T := 26) rfl tB_z (cells_agg _) ?_; (intro g w H; simp only [Act.put, q1_, q2_, q3_, List.set_nil]))
    | ((with_reducible show wpList _ _ _ (⟨_, .alloc 24, _, _, _, _⟩ :: _) _ _); refine H.new rfl (T := 24) rfl tu_z (cells_int _ _) ?_; (intro g w H; simp only [Act.put, q1_, q2_, q3_, List.set_nil]))
    | ((with_reducible show wpList _ _ _ (⟨_, .load 26 _, _, _, _, _⟩ :: _) _ _); (first | refine H.load rfl (ty := 26) rfl rfl 0 rfl Tryd.underlying26 rfl (by with_reducible exact ext_2 _ _) (by exact tB_s) ?_ | refine H.load rfl (ty := 26) rfl rfl 1 rfl Tryd.underlying26 rfl (by with_reducible exact ext_2 _ _) (by exact tB_s) ?_); simp only [Act.put, q1_, q2_, q3_, List.set_nil])
    | ((with_reducible show wpList _ _ _ (⟨_, .load 24 _, _, _, _, _⟩ :: _) _ _); (first | refine H.load1 rfl (ty := 24) rfl rfl 0 rfl Tryd.underlying24 rfl (by with_reducible exact get_20 _ _) ?_ | refine H.load1 rfl (ty := 24) rfl rfl 0 rfl Tryd.underlying24 rfl (by with_reducible exact get_21 _ _) ?_ | refine H.load1 rfl (ty := 24) rfl rfl 0 rfl Tryd.underlying24 rfl (by with_reducible exact limbs_o0 _) ?_ | refine H.load1 rfl (ty := 24) rfl rfl 0 rfl Tryd.underlying24 rfl (by with_reducible exact limbs_o1 _) ?_ | refine H.load1 rfl (ty := 24) rfl rfl 0 rfl Tryd.underlying24 rfl (by with_reducible exact limbs_o2 _) ?_ | refine H.load1 rfl (ty := 24) rfl rfl 0 rfl Tryd.underlying24 rfl (by with_reducible exact limbs_o3 _) ?_ | refine H.load1 rfl (ty := 24) rfl rfl 0 rfl Tryd.underlying24 rfl (by with_reducible exact limbs_o4 _) ?_ | refine H.load1 rfl (ty := 24) rfl rfl 0 rfl Tryd.underlying24 rfl (by with_reducible exact limbs_o5 _) ?_ | refine H.load1 rfl (ty := 24) rfl rfl 0 rfl Tryd.underlying24 rfl (by with_reducible exact get_10 _) ?_ | refine H.load1 rfl (ty := 24) rfl rfl 1 rfl Tryd.underlying24 rfl (by with_reducible exact get_20 _ _) ?_ | refine H.load1 rfl (ty := 24) rfl rfl 1 rfl Tryd.underlying24 rfl (by with_reducible exact get_21 _ _) ?_ | refine H.load1 rfl (ty := 24) rfl rfl 1 rfl Tryd.underlying24 rfl (by with_reducible exact limbs_o0 _) ?_ | refine H.load1 rfl (ty := 24) rfl rfl 1 rfl Tryd.underlying24 rfl (by with_reducible exact limbs_o1 _) ?_ | refine H.load1 rfl (ty := 24) rfl rfl 1 rfl Tryd.underlying24 rfl (by with_reducible exact limbs_o2 _) ?_ | refine H.load1 rfl (ty := 24) rfl rfl 1 rfl Tryd.underlying24 rfl (by with_reducible exact limbs_o3 _) ?_ | refine H.load1 rfl (ty := 24) rfl rfl 1 rfl Tryd.underlying24 rfl (by with_reducible exact limbs_o4 _) ?_ | refine H.load1 rfl (ty := 24) rfl rfl 1 rfl Tryd.underlying24 rfl (by with_reducible exact limbs_o5 _) ?_ | refine H.load1 rfl (ty := 24) rfl rfl 1 rfl Tryd.underlying24 rfl (by with_reducible exact get_10 _) ?_); simp only [Act.put, q1_, q2_, q3_, List.set_nil])
    | ((with_reducible show wpList _ _ _ (⟨_, .store 26 _ _, _, _, _, _⟩ :: _) _ _); (first | refine H.store rfl (ty := 26) rfl rfl (cells_agg _) 0 rfl v2_ (by exact tB_s) (one_of rfl) (ble_le rfl) ?_ | refine H.store rfl (ty := 26) rfl rfl (cells_agg _) 1 rfl v2_ (by exact tB_s) (one_of rfl) (ble_le rfl) ?_); (intro w H; simp only [q2_, q3_] at H; simp only [Act.put, q1_, q2_, q3_, List.set_nil]))
    | ((with_reducible show wpList _ _ _ (⟨_, .store 24 _ _, _, _, _, _⟩ :: _) _ _); (first | refine H.store rfl (ty := 24) rfl rfl (cells_int _ _) 0 rfl (by with_reducible exact set_20 _ _ _) (by exact tu_s) (one_of rfl) (ble_le rfl) ?_ | refine H.store rfl (ty := 24) rfl rfl (cells_int _ _) 0 rfl (by with_reducible exact set_21 _ _ _) (by exact tu_s) (one_of rfl) (ble_le rfl) ?_ | refine H.store rfl (ty := 24) rfl rfl (cells_int _ _) 0 rfl (by with_reducible exact set_10 _ _) (by exact tu_s) (one_of rfl) (ble_le rfl) ?_ | refine H.store rfl (ty := 24) rfl rfl (cells_int _ _) 1 rfl (by with_reducible exact set_20 _ _ _) (by exact tu_s) (one_of rfl) (ble_le rfl) ?_ | refine H.store rfl (ty := 24) rfl rfl (cells_int _ _) 1 rfl (by with_reducible exact set_21 _ _ _) (by exact tu_s) (one_of rfl) (ble_le rfl) ?_ | refine H.store rfl (ty := 24) rfl rfl (cells_int _ _) 1 rfl (by with_reducible exact set_10 _ _) (by exact tu_s) (one_of rfl) (ble_le rfl) ?_); (intro w H; simp only [q2_, q3_] at H; simp only [Act.put, q1_, q2_, q3_, List.set_nil]))
    | (go_at_call 16; ((with_reducible refine (shapeCheck_any f _ hf).mono ?_); rw [decide_eq_false h4]; rintro e w' ⟨rfl, rfl⟩))
    )
  (first | refine bodyPost_ret (results_c rfl rfl (H.result 0 rfl Tryd.underlying26 rfl (by exact tB_s) (ext_2 _ _))) rfl ⟨?_, H.below⟩ | refine bodyPost_ret (results_c rfl rfl (H.result 1 rfl Tryd.underlying26 rfl (by exact tB_s) (ext_2 _ _))) rfl ⟨?_, H.below⟩)
  exact pair_zero
theorem pair_or (a b : Nat) : Ending.returned (.agg #[.int .u64 (Go.bits .or .u64 (limb a 1) (limb b 1)), .int .u64 (Go.bits .or .u64 (limb a 0) (limb b 0))]) = .returned (BV (a ||| b)) := by
  rw [limb_or, limb_or]
theorem shapeWith_neg (f b : Nat) (w : World) (hf : f < 256) (h4 : f < 4) :
    Calls Tryd.prog 41 #[.int .u8 f, BV b, .bool true] w fun e w' => e = .returned (BV (b ||| signN f true)) ∧ Below w.heap.size w w' := by
  have H := Own.start w
  have cW := fun w => shapeWidth_any f w hf
  have hn := (form_small f h4).2.2.2
  unfold signN
  obtain ⟨n, hn1⟩ : ∃ n, wF f - 1 = n := ⟨_, rfl⟩
  have hw : 1 ≤ wF f := by have := (formK f h4).1; omega
  rw [hn1] at hn ⊢
  have vn : IntKind.i64.wrap ((wF f : Int) - 1) = (n : Int) := by rw [show (wF f : Int) - 1 = (n : Int) by omega]; exact IntWalk.i64_in _ (by omega)
  have vm : (wF f : Int) - 1 = (n : Int) := by omega
  generalize wF f = k at *
  clear hn1
  rw [show (cond true (2 ^ n) 0 : Nat) = 1 * 2 ^ n by simp]
  go_enter Tryd.func41, Tryd.ntmps41
  go_wp2_with (first
    | ((with_reducible show wpList _ _ _ (⟨_, .box _ _, _, _, _, _⟩ :: _) _ _); refine H.box rfl rfl (cells_agg _) ?_; (intro g w H; simp only [Act.put, q1_, q2_, q3_, List.set_nil]))
    | ((with_reducible show wpList _ _ _ (⟨_, .alloc 26, _, _, _, _⟩ :: _) _ _); refine H.new rfl (T := 26) rfl tB_z (cells_agg _) ?_; (intro g w H; simp only [Act.put, q1_, q2_, q3_, List.set_nil]))
    | ((with_reducible show wpList _ _ _ (⟨_, .alloc 24, _, _, _, _⟩ :: _) _ _); refine H.new rfl (T := 24) rfl tu_z (cells_int _ _) ?_; (intro g w H; simp only [Act.put, q1_, q2_, q3_, List.set_nil]))
    | ((with_reducible show wpList _ _ _ (⟨_, .load 26 _, _, _, _, _⟩ :: _) _ _); (first | refine H.load rfl (ty := 26) rfl rfl 0 rfl Tryd.underlying26 rfl (by with_reducible exact ext_2 _ _) (by exact tB_s) ?_ | refine H.load rfl (ty := 26) rfl rfl 1 rfl Tryd.underlying26 rfl (by with_reducible exact ext_2 _ _) (by exact tB_s) ?_ | refine H.load rfl (ty := 26) rfl rfl 2 rfl Tryd.underlying26 rfl (by with_reducible exact ext_2 _ _) (by exact tB_s) ?_ | refine H.load rfl (ty := 26) rfl rfl 3 rfl Tryd.underlying26 rfl (by with_reducible exact ext_2 _ _) (by exact tB_s) ?_); simp only [Act.put, q1_, q2_, q3_, List.set_nil])
    | ((with_reducible show wpList _ _ _ (⟨_, .load 24 _, _, _, _, _⟩ :: _) _ _); (first | refine H.load1 rfl (ty := 24) rfl rfl 0 rfl Tryd.underlying24 rfl (by with_reducible exact get_20 _ _) ?_ | refine H.load1 rfl (ty := 24) rfl rfl 0 rfl Tryd.underlying24 rfl (by with_reducible exact get_21 _ _) ?_ | refine H.load1 rfl (ty := 24) rfl rfl 0 rfl Tryd.underlying24 rfl (by with_reducible exact limbs_o0 _) ?_ | refine H.load1 rfl (ty := 24) rfl rfl 0 rfl Tryd.underlying24 rfl (by with_reducible exact limbs_o1 _) ?_ | refine H.load1 rfl (ty := 24) rfl rfl 0 rfl Tryd.underlying24 rfl (by with_reducible exact limbs_o2 _) ?_ | refine H.load1 rfl (ty := 24) rfl rfl 0 rfl Tryd.underlying24 rfl (by with_reducible exact limbs_o3 _) ?_ | refine H.load1 rfl (ty := 24) rfl rfl 0 rfl Tryd.underlying24 rfl (by with_reducible exact limbs_o4 _) ?_ | refine H.load1 rfl (ty := 24) rfl rfl 0 rfl Tryd.underlying24 rfl (by with_reducible exact limbs_o5 _) ?_ | refine H.load1 rfl (ty := 24) rfl rfl 0 rfl Tryd.underlying24 rfl (by with_reducible exact get_10 _) ?_ | refine H.load1 rfl (ty := 24) rfl rfl 1 rfl Tryd.underlying24 rfl (by with_reducible exact get_20 _ _) ?_ | refine H.load1 rfl (ty := 24) rfl rfl 1 rfl Tryd.underlying24 rfl (by with_reducible exact get_21 _ _) ?_ | refine H.load1 rfl (ty := 24) rfl rfl 1 rfl Tryd.underlying24 rfl (by with_reducible exact limbs_o0 _) ?_ | refine H.load1 rfl (ty := 24) rfl rfl 1 rfl Tryd.underlying24 rfl (by with_reducible exact limbs_o1 _) ?_ | refine H.load1 rfl (ty := 24) rfl rfl 1 rfl Tryd.underlying24 rfl (by with_reducible exact limbs_o2 _) ?_ | refine H.load1 rfl (ty := 24) rfl rfl 1 rfl Tryd.underlying24 rfl (by with_reducible exact limbs_o3 _) ?_ | refine H.load1 rfl (ty := 24) rfl rfl 1 rfl Tryd.underlying24 rfl (by with_reducible exact limbs_o4 _) ?_ | refine H.load1 rfl (ty := 24) rfl rfl 1 rfl Tryd.underlying24 rfl (by with_reducible exact limbs_o5 _) ?_ | refine H.load1 rfl (ty := 24) rfl rfl 1 rfl Tryd.underlying24 rfl (by with_reducible exact get_10 _) ?_ | refine H.load1 rfl (ty := 24) rfl rfl 2 rfl Tryd.underlying24 rfl (by with_reducible exact get_20 _ _) ?_ | refine H.load1 rfl (ty := 24) rfl rfl 2 rfl Tryd.underlying24 rfl (by with_reducible exact get_21 _ _) ?_ | refine H.load1 rfl (ty := 24) rfl rfl 2 rfl Tryd.underlying24 rfl (by with_reducible exact limbs_o0 _) ?_ | refine H.load1 rfl (ty := 24) rfl rfl 2 rfl Tryd.underlying24 rfl (by with_reducible exact limbs_o1 _) ?_ | refine H.load1 rfl (ty := 24) rfl rfl 2 rfl Tryd.underlying24 rfl (by with_reducible exact limbs_o2 _) ?_ | refine H.load1 rfl (ty := 24) rfl rfl 2 rfl Tryd.underlying24 rfl (by with_reducible exact limbs_o3 _) ?_ | refine H.load1 rfl (ty := 24) rfl rfl 2 rfl Tryd.underlying24 rfl (by with_reducible exact limbs_o4 _) ?_ | refine H.load1 rfl (ty := 24) rfl rfl 2 rfl Tryd.underlying24 rfl (by with_reducible exact limbs_o5 _) ?_ | refine H.load1 rfl (ty := 24) rfl rfl 2 rfl Tryd.underlying24 rfl (by with_reducible exact get_10 _) ?_ | refine H.load1 rfl (ty := 24) rfl rfl 3 rfl Tryd.underlying24 rfl (by with_reducible exact get_20 _ _) ?_ | refine H.load1 rfl (ty := 24) rfl rfl 3 rfl Tryd.underlying24 rfl (by with_reducible exact get_21 _ _) ?_ | refine H.load1 rfl (ty := 24) rfl rfl 3 rfl Tryd.underlying24 rfl (by with_reducible exact limbs_o0 _) ?_ | refine H.load1 rfl (ty := 24) rfl rfl 3 rfl Tryd.underlying24 rfl (by with_reducible exact limbs_o1 _) ?_ | refine H.load1 rfl (ty := 24) rfl rfl 3 rfl Tryd.underlying24 rfl (by with_reducible exact limbs_o2 _) ?_ | refine H.load1 rfl (ty := 24) rfl rfl 3 rfl Tryd.underlying24 rfl (by with_reducible exact limbs_o3 _) ?_ | refine H.load1 rfl (ty := 24) rfl rfl 3 rfl Tryd.underlying24 rfl (by with_reducible exact limbs_o4 _) ?_ | refine H.load1 rfl (ty := 24) rfl rfl 3 rfl Tryd.underlying24 rfl (by with_reducible exact limbs_o5 _) ?_ | refine H.load1 rfl (ty := 24) rfl rfl 3 rfl Tryd.underlying24 rfl (by with_reducible exact get_10 _) ?_); simp only [Act.put, q1_, q2_, q3_, List.set_nil])
    | ((with_reducible show wpList _ _ _ (⟨_, .store 26 _ _, _, _, _, _⟩ :: _) _ _); (first | refine H.store rfl (ty := 26) rfl rfl (cells_agg _) 0 rfl v2_ (by exact tB_s) (one_of rfl) (ble_le rfl) ?_ | refine H.store rfl (ty := 26) rfl rfl (cells_agg _) 1 rfl v2_ (by exact tB_s) (one_of rfl) (ble_le rfl) ?_ | refine H.store rfl (ty := 26) rfl rfl (cells_agg _) 2 rfl v2_ (by exact tB_s) (one_of rfl) (ble_le rfl) ?_ | refine H.store rfl (ty := 26) rfl rfl (cells_agg _) 3 rfl v2_ (by exact tB_s) (one_of rfl) (ble_le rfl) ?_); (intro w H; simp only [q2_, q3_] at H; simp only [Act.put, q1_, q2_, q3_, List.set_nil]))
    | ((with_reducible show wpList _ _ _ (⟨_, .store 24 _ _, _, _, _, _⟩ :: _) _ _); (first | refine H.store rfl (ty := 24) rfl rfl (cells_int _ _) 0 rfl (by with_reducible exact set_20 _ _ _) (by exact tu_s) (one_of rfl) (ble_le rfl) ?_ | refine H.store rfl (ty := 24) rfl rfl (cells_int _ _) 0 rfl (by with_reducible exact set_21 _ _ _) (by exact tu_s) (one_of rfl) (ble_le rfl) ?_ | refine H.store rfl (ty := 24) rfl rfl (cells_int _ _) 0 rfl (by with_reducible exact set_10 _ _) (by exact tu_s) (one_of rfl) (ble_le rfl) ?_ | refine H.store rfl (ty := 24) rfl rfl (cells_int _ _) 1 rfl (by with_reducible exact set_20 _ _ _) (by exact tu_s) (one_of rfl) (ble_le rfl) ?_ | refine H.store rfl (ty := 24) rfl rfl (cells_int _ _) 1 rfl (by with_reducible exact set_21 _ _ _) (by exact tu_s) (one_of rfl) (ble_le rfl) ?_ | refine H.store rfl (ty := 24) rfl rfl (cells_int _ _) 1 rfl (by with_reducible exact set_10 _ _) (by exact tu_s) (one_of rfl) (ble_le rfl) ?_ | refine H.store rfl (ty := 24) rfl rfl (cells_int _ _) 2 rfl (by with_reducible exact set_20 _ _ _) (by exact tu_s) (one_of rfl) (ble_le rfl) ?_ | refine H.store rfl (ty := 24) rfl rfl (cells_int _ _) 2 rfl (by with_reducible exact set_21 _ _ _) (by exact tu_s) (one_of rfl) (ble_le rfl) ?_ | refine H.store rfl (ty := 24) rfl rfl (cells_int _ _) 2 rfl (by with_reducible exact set_10 _ _) (by exact tu_s) (one_of rfl) (ble_le rfl) ?_ | refine H.store rfl (ty := 24) rfl rfl (cells_int _ _) 3 rfl (by with_reducible exact set_20 _ _ _) (by exact tu_s) (one_of rfl) (ble_le rfl) ?_ | refine H.store rfl (ty := 24) rfl rfl (cells_int _ _) 3 rfl (by with_reducible exact set_21 _ _ _) (by exact tu_s) (one_of rfl) (ble_le rfl) ?_ | refine H.store rfl (ty := 24) rfl rfl (cells_int _ _) 3 rfl (by with_reducible exact set_10 _ _) (by exact tu_s) (one_of rfl) (ble_le rfl) ?_); (intro w H; simp only [q2_, q3_] at H; simp only [Act.put, q1_, q2_, q3_, List.set_nil]))
    | (go_at_call 16; ((with_reducible refine (shapeCheck_any f _ hf).mono ?_); rw [decide_eq_true h4]; rintro e w' ⟨rfl, rfl⟩))
    | (go_at_call 26; ((with_reducible refine (cW _).mono ?_); rintro e w ⟨rfl, hb⟩; replace H := H.call hb; clear hb))
    | (go_at_call 52; ((with_reducible refine (shapeAt_one n _ hn).mono ?_); rintro e w ⟨rfl, hb⟩; replace H := H.call hb; clear hb))
    )
  (first | refine bodyPost_ret (results_c rfl rfl (H.result 0 rfl Tryd.underlying26 rfl (by exact tB_s) (ext_2 _ _))) rfl ⟨?_, H.below⟩ | refine bodyPost_ret (results_c rfl rfl (H.result 1 rfl Tryd.underlying26 rfl (by exact tB_s) (ext_2 _ _))) rfl ⟨?_, H.below⟩ | refine bodyPost_ret (results_c rfl rfl (H.result 2 rfl Tryd.underlying26 rfl (by exact tB_s) (ext_2 _ _))) rfl ⟨?_, H.below⟩ | refine bodyPost_ret (results_c rfl rfl (H.result 3 rfl Tryd.underlying26 rfl (by exact tB_s) (ext_2 _ _))) rfl ⟨?_, H.below⟩)
  exact by simpa using pair_or b (1 * 2 ^ n)
theorem shapeWith_pos (f b : Nat) (w : World) (hf : f < 256) (h4 : f < 4) :
    Calls Tryd.prog 41 #[.int .u8 f, BV b, .bool false] w fun e w' => e = .returned (BV (b ||| signN f false)) ∧ Below w.heap.size w w' := by
  have H := Own.start w
  rw [show signN f false = 0 from rfl, Nat.or_zero]
  go_enter Tryd.func41, Tryd.ntmps41
  go_wp2_with (first
    | ((with_reducible show wpList _ _ _ (⟨_, .box _ _, _, _, _, _⟩ :: _) _ _); refine H.box rfl rfl (cells_agg _) ?_; (intro g w H; simp only [Act.put, q1_, q2_, q3_, List.set_nil]))
    | ((with_reducible show wpList _ _ _ (⟨_, .alloc 26, _, _, _, _⟩ :: _) _ _); refine H.new rfl (T := 26) rfl tB_z (cells_agg _) ?_; (intro g w H; simp only [Act.put, q1_, q2_, q3_, List.set_nil]))
    | ((with_reducible show wpList _ _ _ (⟨_, .alloc 24, _, _, _, _⟩ :: _) _ _); refine H.new rfl (T := 24) rfl tu_z (cells_int _ _) ?_; (intro g w H; simp only [Act.put, q1_, q2_, q3_, List.set_nil]))
    | ((with_reducible show wpList _ _ _ (⟨_, .load 26 _, _, _, _, _⟩ :: _) _ _); (first | refine H.load rfl (ty := 26) rfl rfl 0 rfl Tryd.underlying26 rfl (by with_reducible exact ext_2 _ _) (by exact tB_s) ?_ | refine H.load rfl (ty := 26) rfl rfl 1 rfl Tryd.underlying26 rfl (by with_reducible exact ext_2 _ _) (by exact tB_s) ?_ | refine H.load rfl (ty := 26) rfl rfl 2 rfl Tryd.underlying26 rfl (by with_reducible exact ext_2 _ _) (by exact tB_s) ?_ | refine H.load rfl (ty := 26) rfl rfl 3 rfl Tryd.underlying26 rfl (by with_reducible exact ext_2 _ _) (by exact tB_s) ?_); simp only [Act.put, q1_, q2_, q3_, List.set_nil])
    | ((with_reducible show wpList _ _ _ (⟨_, .load 24 _, _, _, _, _⟩ :: _) _ _); (first | refine H.load1 rfl (ty := 24) rfl rfl 0 rfl Tryd.underlying24 rfl (by with_reducible exact get_20 _ _) ?_ | refine H.load1 rfl (ty := 24) rfl rfl 0 rfl Tryd.underlying24 rfl (by with_reducible exact get_21 _ _) ?_ | refine H.load1 rfl (ty := 24) rfl rfl 0 rfl Tryd.underlying24 rfl (by with_reducible exact limbs_o0 _) ?_ | refine H.load1 rfl (ty := 24) rfl rfl 0 rfl Tryd.underlying24 rfl (by with_reducible exact limbs_o1 _) ?_ | refine H.load1 rfl (ty := 24) rfl rfl 0 rfl Tryd.underlying24 rfl (by with_reducible exact limbs_o2 _) ?_ | refine H.load1 rfl (ty := 24) rfl rfl 0 rfl Tryd.underlying24 rfl (by with_reducible exact limbs_o3 _) ?_ | refine H.load1 rfl (ty := 24) rfl rfl 0 rfl Tryd.underlying24 rfl (by with_reducible exact limbs_o4 _) ?_ | refine H.load1 rfl (ty := 24) rfl rfl 0 rfl Tryd.underlying24 rfl (by with_reducible exact limbs_o5 _) ?_ | refine H.load1 rfl (ty := 24) rfl rfl 0 rfl Tryd.underlying24 rfl (by with_reducible exact get_10 _) ?_ | refine H.load1 rfl (ty := 24) rfl rfl 1 rfl Tryd.underlying24 rfl (by with_reducible exact get_20 _ _) ?_ | refine H.load1 rfl (ty := 24) rfl rfl 1 rfl Tryd.underlying24 rfl (by with_reducible exact get_21 _ _) ?_ | refine H.load1 rfl (ty := 24) rfl rfl 1 rfl Tryd.underlying24 rfl (by with_reducible exact limbs_o0 _) ?_ | refine H.load1 rfl (ty := 24) rfl rfl 1 rfl Tryd.underlying24 rfl (by with_reducible exact limbs_o1 _) ?_ | refine H.load1 rfl (ty := 24) rfl rfl 1 rfl Tryd.underlying24 rfl (by with_reducible exact limbs_o2 _) ?_ | refine H.load1 rfl (ty := 24) rfl rfl 1 rfl Tryd.underlying24 rfl (by with_reducible exact limbs_o3 _) ?_ | refine H.load1 rfl (ty := 24) rfl rfl 1 rfl Tryd.underlying24 rfl (by with_reducible exact limbs_o4 _) ?_ | refine H.load1 rfl (ty := 24) rfl rfl 1 rfl Tryd.underlying24 rfl (by with_reducible exact limbs_o5 _) ?_ | refine H.load1 rfl (ty := 24) rfl rfl 1 rfl Tryd.underlying24 rfl (by with_reducible exact get_10 _) ?_ | refine H.load1 rfl (ty := 24) rfl rfl 2 rfl Tryd.underlying24 rfl (by with_reducible exact get_20 _ _) ?_ | refine H.load1 rfl (ty := 24) rfl rfl 2 rfl Tryd.underlying24 rfl (by with_reducible exact get_21 _ _) ?_ | refine H.load1 rfl (ty := 24) rfl rfl 2 rfl Tryd.underlying24 rfl (by with_reducible exact limbs_o0 _) ?_ | refine H.load1 rfl (ty := 24) rfl rfl 2 rfl Tryd.underlying24 rfl (by with_reducible exact limbs_o1 _) ?_ | refine H.load1 rfl (ty := 24) rfl rfl 2 rfl Tryd.underlying24 rfl (by with_reducible exact limbs_o2 _) ?_ | refine H.load1 rfl (ty := 24) rfl rfl 2 rfl Tryd.underlying24 rfl (by with_reducible exact limbs_o3 _) ?_ | refine H.load1 rfl (ty := 24) rfl rfl 2 rfl Tryd.underlying24 rfl (by with_reducible exact limbs_o4 _) ?_ | refine H.load1 rfl (ty := 24) rfl rfl 2 rfl Tryd.underlying24 rfl (by with_reducible exact limbs_o5 _) ?_ | refine H.load1 rfl (ty := 24) rfl rfl 2 rfl Tryd.underlying24 rfl (by with_reducible exact get_10 _) ?_ | refine H.load1 rfl (ty := 24) rfl rfl 3 rfl Tryd.underlying24 rfl (by with_reducible exact get_20 _ _) ?_ | refine H.load1 rfl (ty := 24) rfl rfl 3 rfl Tryd.underlying24 rfl (by with_reducible exact get_21 _ _) ?_ | refine H.load1 rfl (ty := 24) rfl rfl 3 rfl Tryd.underlying24 rfl (by with_reducible exact limbs_o0 _) ?_ | refine H.load1 rfl (ty := 24) rfl rfl 3 rfl Tryd.underlying24 rfl (by with_reducible exact limbs_o1 _) ?_ | refine H.load1 rfl (ty := 24) rfl rfl 3 rfl Tryd.underlying24 rfl (by with_reducible exact limbs_o2 _) ?_ | refine H.load1 rfl (ty := 24) rfl rfl 3 rfl Tryd.underlying24 rfl (by with_reducible exact limbs_o3 _) ?_ | refine H.load1 rfl (ty := 24) rfl rfl 3 rfl Tryd.underlying24 rfl (by with_reducible exact limbs_o4 _) ?_ | refine H.load1 rfl (ty := 24) rfl rfl 3 rfl Tryd.underlying24 rfl (by with_reducible exact limbs_o5 _) ?_ | refine H.load1 rfl (ty := 24) rfl rfl 3 rfl Tryd.underlying24 rfl (by with_reducible exact get_10 _) ?_); simp only [Act.put, q1_, q2_, q3_, List.set_nil])
    | ((with_reducible show wpList _ _ _ (⟨_, .store 26 _ _, _, _, _, _⟩ :: _) _ _); (first | refine H.store rfl (ty := 26) rfl rfl (cells_agg _) 0 rfl v2_ (by exact tB_s) (one_of rfl) (ble_le rfl) ?_ | refine H.store rfl (ty := 26) rfl rfl (cells_agg _) 1 rfl v2_ (by exact tB_s) (one_of rfl) (ble_le rfl) ?_ | refine H.store rfl (ty := 26) rfl rfl (cells_agg _) 2 rfl v2_ (by exact tB_s) (one_of rfl) (ble_le rfl) ?_ | refine H.store rfl (ty := 26) rfl rfl (cells_agg _) 3 rfl v2_ (by exact tB_s) (one_of rfl) (ble_le rfl) ?_); (intro w H; simp only [q2_, q3_] at H; simp only [Act.put, q1_, q2_, q3_, List.set_nil]))
    | ((with_reducible show wpList _ _ _ (⟨_, .store 24 _ _, _, _, _, _⟩ :: _) _ _); (first | refine H.store rfl (ty := 24) rfl rfl (cells_int _ _) 0 rfl (by with_reducible exact set_20 _ _ _) (by exact tu_s) (one_of rfl) (ble_le rfl) ?_ | refine H.store rfl (ty := 24) rfl rfl (cells_int _ _) 0 rfl (by with_reducible exact set_21 _ _ _) (by exact tu_s) (one_of rfl) (ble_le rfl) ?_ | refine H.store rfl (ty := 24) rfl rfl (cells_int _ _) 0 rfl (by with_reducible exact set_10 _ _) (by exact tu_s) (one_of rfl) (ble_le rfl) ?_ | refine H.store rfl (ty := 24) rfl rfl (cells_int _ _) 1 rfl (by with_reducible exact set_20 _ _ _) (by exact tu_s) (one_of rfl) (ble_le rfl) ?_ | refine H.store rfl (ty := 24) rfl rfl (cells_int _ _) 1 rfl (by with_reducible exact set_21 _ _ _) (by exact tu_s) (one_of rfl) (ble_le rfl) ?_ | refine H.store rfl (ty := 24) rfl rfl (cells_int _ _) 1 rfl (by with_reducible exact set_10 _ _) (by exact tu_s) (one_of rfl) (ble_le rfl) ?_ | refine H.store rfl (ty := 24) rfl rfl (cells_int _ _) 2 rfl (by with_reducible exact set_20 _ _ _) (by exact tu_s) (one_of rfl) (ble_le rfl) ?_ | refine H.store rfl (ty := 24) rfl rfl (cells_int _ _) 2 rfl (by with_reducible exact set_21 _ _ _) (by exact tu_s) (one_of rfl) (ble_le rfl) ?_ | refine H.store rfl (ty := 24) rfl rfl (cells_int _ _) 2 rfl (by with_reducible exact set_10 _ _) (by exact tu_s) (one_of rfl) (ble_le rfl) ?_ | refine H.store rfl (ty := 24) rfl rfl (cells_int _ _) 3 rfl (by with_reducible exact set_20 _ _ _) (by exact tu_s) (one_of rfl) (ble_le rfl) ?_ | refine H.store rfl (ty := 24) rfl rfl (cells_int _ _) 3 rfl (by with_reducible exact set_21 _ _ _) (by exact tu_s) (one_of rfl) (ble_le rfl) ?_ | refine H.store rfl (ty := 24) rfl rfl (cells_int _ _) 3 rfl (by with_reducible exact set_10 _ _) (by exact tu_s) (one_of rfl) (ble_le rfl) ?_); (intro w H; simp only [q2_, q3_] at H; simp only [Act.put, q1_, q2_, q3_, List.set_nil]))
    | (go_at_call 16; ((with_reducible refine (shapeCheck_any f _ hf).mono ?_); rw [decide_eq_true h4]; rintro e w' ⟨rfl, rfl⟩))
    )
  (first | refine bodyPost_ret (results_c rfl rfl (H.result 0 rfl Tryd.underlying26 rfl (by exact tB_s) (ext_2 _ _))) rfl ⟨?_, H.below⟩ | refine bodyPost_ret (results_c rfl rfl (H.result 1 rfl Tryd.underlying26 rfl (by exact tB_s) (ext_2 _ _))) rfl ⟨?_, H.below⟩ | refine bodyPost_ret (results_c rfl rfl (H.result 2 rfl Tryd.underlying26 rfl (by exact tB_s) (ext_2 _ _))) rfl ⟨?_, H.below⟩ | refine bodyPost_ret (results_c rfl rfl (H.result 3 rfl Tryd.underlying26 rfl (by exact tB_s) (ext_2 _ _))) rfl ⟨?_, H.below⟩)
  exact rfl
theorem shapeWith_any (f b : Nat) (neg : Bool) (w : World) (hf : f < 256) :
    Calls Tryd.prog 41 #[.int .u8 f, BV b, .bool neg] w fun e w' => e = .returned (BV (cond (decide (f < 4)) (b ||| signN f neg) 0)) ∧ Below w.heap.size w w' := by
  by_cases h4 : f < 4
  · rw [decide_eq_true h4]
    cases neg
    · exact shapeWith_pos f b w hf h4
    · exact shapeWith_neg f b w hf h4
  · rw [decide_eq_false h4]
    exact shapeWith_big f b neg w hf h4
open Go.RowKit
set_option maxHeartbeats 3200000 in
theorem roundUp_any (m : Nat) (neg odd : Bool) (half : Int) (exact : Bool) (w : World) (hm : m < 256) (hh : half = -1 ∨ half = 0 ∨ half = 1) :
    Calls Tryd.prog 94 #[.int .u8 m, .bool neg, .bool odd, .int .i64 half, .bool exact] w fun e w' => e = .returned (.bool (upB m neg odd half exact)) ∧ w = w' := by
  cases exact
  · have : m = 0 ∨ m = 1 ∨ m = 2 ∨ m = 3 ∨ m = 4 ∨ 5 ≤ m := by omega
    rcases this with rfl | rfl | rfl | rfl | rfl | h
    · rcases hh with rfl | rfl | rfl <;>
      · go_enter Tryd.func94, Tryd.ntmps94
        go_wp2
        go_ret
        exact ⟨ret_bool (by simp [upB]), rfl⟩
    · go_enter Tryd.func94, Tryd.ntmps94
      go_wp2
      go_ret
      exact ⟨ret_bool (by simp [upB]), rfl⟩
    · cases neg <;>
      · go_enter Tryd.func94, Tryd.ntmps94
        go_wp2
        go_ret
        exact ⟨ret_bool (by simp [upB]), rfl⟩
    · cases neg <;>
      · go_enter Tryd.func94, Tryd.ntmps94
        go_wp2
        go_ret
        exact ⟨ret_bool (by simp [upB]), rfl⟩
    · rcases hh with rfl | rfl | rfl <;>
      · go_enter Tryd.func94, Tryd.ntmps94
        go_wp2
        go_ret
        exact ⟨ret_bool (by simp [upB]), rfl⟩
    · rw [upB_big _ _ _ _ _ h]
      have h5 : (5 : Int) ≤ (m : Int) := by omega
      have e0 : ((m : Int) == 0) = false := by simp; omega
      have e2 : ((m : Int) == 2) = false := by simp; omega
      have e3 : ((m : Int) == 3) = false := by simp; omega
      have e4 : ((m : Int) == 4) = false := by simp; omega
      go_enter Tryd.func94, Tryd.ntmps94
      go_wp2
      go_ret
      exact ⟨rfl, rfl⟩
  · go_enter Tryd.func94, Tryd.ntmps94
    go_wp2
    go_ret
    exact ⟨ret_bool (by simp [upB]), rfl⟩
open Go.RowKit
theorem or_sign (f x : Nat) (neg : Bool) (h : x < 2 ^ (wF f - 1)) : x ||| signN f neg = x + signN f neg := by
  cases neg
  · exact (Nat.or_zero x).trans (Nat.add_zero x).symm
  · show x ||| 2 ^ (wF f - 1) = x + 2 ^ (wF f - 1)
    rw [Nat.or_comm, Nat.add_comm]
    have := Nat.two_pow_add_eq_or_of_lt h 1
    rw [Nat.mul_one] at this; exact this.symm
theorem wrap_nat (x : Int) (n : Nat) (h : x = n) (hn : n < 18446744073709551616) : IntKind.u64.wrap x = (n : Int) := by rw [h, IntKind.wrap_u64]; omega
theorem shapeField_any (f k : Nat) (w : World) (h4 : f < 4) (hk : k < 32768) :
    Calls Tryd.prog 42 #[.int .u8 f, .int .i64 k] w fun e w' => e = .returned (BV (k * 2 ^ (pF f - 1))) ∧ Below w.heap.size w w' := by
  have H := Own.start w
  have cP := fun w => shapePrecision_any f w (by omega)
  obtain ⟨-, -, -, -, -, -, h1, h2⟩ := formK f h4
  obtain ⟨n, hn⟩ : ∃ n, pF f - 1 = n := ⟨_, rfl⟩
  rw [hn]
  have vn : IntKind.i64.wrap ((pF f : Int) - 1) = (n : Int) := by rw [show (pF f : Int) - 1 = (n : Int) by omega]; exact IntWalk.i64_in _ (by omega)
  have vm : (pF f : Int) - 1 = (n : Int) := by omega
  have ve : IntKind.u64.wrap (k : Int) = (k : Int) := wrap_nat _ k rfl (by omega)
  generalize pF f = p at *
  clear hn
  go_enter Tryd.func42, Tryd.ntmps42
  go_wp2_with (first
    | ((with_reducible show wpList _ _ _ (⟨_, .box _ _, _, _, _, _⟩ :: _) _ _); refine H.box rfl rfl (cells_agg _) ?_; (intro g w H; simp only [Act.put, q1_, q2_, q3_, List.set_nil]))
    | ((with_reducible show wpList _ _ _ (⟨_, .alloc 26, _, _, _, _⟩ :: _) _ _); refine H.new rfl (T := 26) rfl tB_z (cells_agg _) ?_; (intro g w H; simp only [Act.put, q1_, q2_, q3_, List.set_nil]))
    | ((with_reducible show wpList _ _ _ (⟨_, .load 26 _, _, _, _, _⟩ :: _) _ _); refine H.load rfl (ty := 26) rfl rfl 0 rfl Tryd.underlying26 rfl (by with_reducible exact ext_2 _ _) (by exact tB_s) ?_; simp only [Act.put, q1_, q2_, q3_, List.set_nil])
    | ((with_reducible show wpList _ _ _ (⟨_, .store 26 _ _, _, _, _, _⟩ :: _) _ _); refine H.store rfl (ty := 26) rfl rfl (cells_agg _) 0 rfl v2_ (by exact tB_s) (one_of rfl) (ble_le rfl) ?_; (intro w H; simp only [q2_, q3_] at H; simp only [Act.put, q1_, q2_, q3_, List.set_nil]))
    | (go_at_call 53; ((with_reducible refine (cP _).mono ?_); rintro e w ⟨rfl, hb⟩; replace H := H.call hb; clear hb))
    | (go_at_call 52; ((with_reducible refine (shapeAt_any k n _ (by omega) (by omega)).mono ?_); rintro e w ⟨rfl, hb⟩; replace H := H.call hb; clear hb))
    )
  refine bodyPost_ret (results_c rfl rfl (H.result 0 rfl Tryd.underlying26 rfl (by exact tB_s) (ext_2 _ _))) rfl ⟨?_, H.below⟩
  exact rfl
theorem shapeNaN_no (f : Nat) (w : World) (hf : f < 256) (h4 : ¬ f < 4) :
    Calls Tryd.prog 19 #[.int .u8 f] w fun e w' => e = .returned (BV (nanN f)) ∧ Below w.heap.size w w' := by
  have H := Own.start w
  rw [show nanN f = 0 by unfold nanN; rw [decide_eq_false h4]; rfl]
  go_enter Tryd.func19, Tryd.ntmps19
  go_wp2_with (first
    | ((with_reducible show wpList _ _ _ (⟨_, .box _ _, _, _, _, _⟩ :: _) _ _); refine H.box rfl rfl (cells_agg _) ?_; (intro g w H; simp only [Act.put, q1_, q2_, q3_, List.set_nil]))
    | ((with_reducible show wpList _ _ _ (⟨_, .alloc 26, _, _, _, _⟩ :: _) _ _); refine H.new rfl (T := 26) rfl tB_z (cells_agg _) ?_; (intro g w H; simp only [Act.put, q1_, q2_, q3_, List.set_nil]))
    | ((with_reducible show wpList _ _ _ (⟨_, .load 26 _, _, _, _, _⟩ :: _) _ _); refine H.load rfl (ty := 26) rfl rfl 0 rfl Tryd.underlying26 rfl (by with_reducible exact ext_2 _ _) (by exact tB_s) ?_; simp only [Act.put, q1_, q2_, q3_, List.set_nil])
    | ((with_reducible show wpList _ _ _ (⟨_, .store 26 _ _, _, _, _, _⟩ :: _) _ _); refine H.store rfl (ty := 26) rfl rfl (cells_agg _) 0 rfl v2_ (by exact tB_s) (one_of rfl) (ble_le rfl) ?_; (intro w H; simp only [q2_, q3_] at H; simp only [Act.put, q1_, q2_, q3_, List.set_nil]))
    | (go_at_call 16; ((with_reducible refine (shapeCheck_any f _ hf).mono ?_); rw [decide_eq_false h4]; rintro e w' ⟨rfl, rfl⟩))
    )
  refine bodyPost_ret (results_c rfl rfl (H.result 0 rfl Tryd.underlying26 rfl (by exact tB_s) (ext_2 _ _))) rfl ⟨?_, H.below⟩
  exact rfl
theorem shapeNaN_yes (f : Nat) (w : World) (hf : f < 256) (h4 : f < 4) :
    Calls Tryd.prog 19 #[.int .u8 f] w fun e w' => e = .returned (BV (nanN f)) ∧ Below w.heap.size w w' := by
  have H := Own.start w
  rw [show nanN f = (4 * eF f + 3) * 2 ^ (pF f - 2) by unfold nanN; rw [decide_eq_true h4]; rfl]
  have cP := fun w => shapePrecision_any f w hf
  have cE := fun w => shapeEmax_any f w hf
  obtain ⟨-, -, -, e1, e2, -, h1, h2⟩ := formK f h4
  obtain ⟨n, hn⟩ : ∃ n, pF f - 2 = n := ⟨_, rfl⟩
  rw [hn]
  have vn : IntKind.i64.wrap ((pF f : Int) - 2) = (n : Int) := by rw [show (pF f : Int) - 2 = (n : Int) by omega]; exact IntWalk.i64_in _ (by omega)
  have vm : (pF f : Int) - 2 = (n : Int) := by omega
  have ve : IntKind.u64.wrap (4 * (eF f : Int) + 3) = ((4 * eF f + 3 : Nat) : Int) := wrap_nat _ _ (by omega) (by omega)
  have e3 : (eF f : Int) ≤ 16383 := by omega
  generalize pF f = p at *
  generalize eF f = m at *
  have cA := fun w => shapeAt_any (4 * m + 3) n w (by omega) (by omega)
  rw [show ((4 * m + 3 : Nat) : Int) = 4 * (m : Int) + 3 by omega] at cA
  clear hn ve
  go_enter Tryd.func19, Tryd.ntmps19
  go_wp2_with (first
    | ((with_reducible show wpList _ _ _ (⟨_, .box _ _, _, _, _, _⟩ :: _) _ _); refine H.box rfl rfl (cells_agg _) ?_; (intro g w H; simp only [Act.put, q1_, q2_, q3_, List.set_nil]))
    | ((with_reducible show wpList _ _ _ (⟨_, .alloc 26, _, _, _, _⟩ :: _) _ _); refine H.new rfl (T := 26) rfl tB_z (cells_agg _) ?_; (intro g w H; simp only [Act.put, q1_, q2_, q3_, List.set_nil]))
    | ((with_reducible show wpList _ _ _ (⟨_, .load 26 _, _, _, _, _⟩ :: _) _ _); refine H.load rfl (ty := 26) rfl rfl 0 rfl Tryd.underlying26 rfl (by with_reducible exact ext_2 _ _) (by exact tB_s) ?_; simp only [Act.put, q1_, q2_, q3_, List.set_nil])
    | ((with_reducible show wpList _ _ _ (⟨_, .store 26 _ _, _, _, _, _⟩ :: _) _ _); refine H.store rfl (ty := 26) rfl rfl (cells_agg _) 0 rfl v2_ (by exact tB_s) (one_of rfl) (ble_le rfl) ?_; (intro w H; simp only [q2_, q3_] at H; simp only [Act.put, q1_, q2_, q3_, List.set_nil]))
    | (go_at_call 16; ((with_reducible refine (shapeCheck_any f _ hf).mono ?_); rw [decide_eq_true h4]; rintro e w' ⟨rfl, rfl⟩))
    | (go_at_call 43; ((with_reducible refine (cE _).mono ?_); rintro e w ⟨rfl, hb⟩; replace H := H.call hb; clear hb))
    | (go_at_call 53; ((with_reducible refine (cP _).mono ?_); rintro e w ⟨rfl, hb⟩; replace H := H.call hb; clear hb))
    | (go_at_call 52; ((with_reducible refine (cA _).mono ?_); rintro e w ⟨rfl, hb⟩; replace H := H.call hb; clear hb))
    )
  refine bodyPost_ret (results_c rfl rfl (H.result 0 rfl Tryd.underlying26 rfl (by exact tB_s) (ext_2 _ _))) rfl ⟨?_, H.below⟩
  exact rfl
theorem shapeNaN_any (f : Nat) (w : World) (hf : f < 256) :
    Calls Tryd.prog 19 #[.int .u8 f] w fun e w' => e = .returned (BV (nanN f)) ∧ Below w.heap.size w w' := by
  by_cases h4 : f < 4
  · exact shapeNaN_yes f w hf h4
  · exact shapeNaN_no f w hf h4
theorem shapeInf_no (f : Nat) (neg : Bool) (w : World) (hf : f < 256) (h4 : ¬ f < 4) :
    Calls Tryd.prog 13 #[.int .u8 f, .bool neg] w fun e w' => e = .returned (BV (infN f neg)) ∧ Below w.heap.size w w' := by
  have H := Own.start w
  rw [show infN f neg = 0 by unfold infN; rw [decide_eq_false h4]; rfl]
  go_enter Tryd.func13, Tryd.ntmps13
  go_wp2_with (first
    | ((with_reducible show wpList _ _ _ (⟨_, .box _ _, _, _, _, _⟩ :: _) _ _); refine H.box rfl rfl (cells_agg _) ?_; (intro g w H; simp only [Act.put, q1_, q2_, q3_, List.set_nil]))
    | ((with_reducible show wpList _ _ _ (⟨_, .alloc 26, _, _, _, _⟩ :: _) _ _); refine H.new rfl (T := 26) rfl tB_z (cells_agg _) ?_; (intro g w H; simp only [Act.put, q1_, q2_, q3_, List.set_nil]))
    | ((with_reducible show wpList _ _ _ (⟨_, .load 26 _, _, _, _, _⟩ :: _) _ _); refine H.load rfl (ty := 26) rfl rfl 0 rfl Tryd.underlying26 rfl (by with_reducible exact ext_2 _ _) (by exact tB_s) ?_; simp only [Act.put, q1_, q2_, q3_, List.set_nil])
    | ((with_reducible show wpList _ _ _ (⟨_, .store 26 _ _, _, _, _, _⟩ :: _) _ _); refine H.store rfl (ty := 26) rfl rfl (cells_agg _) 0 rfl v2_ (by exact tB_s) (one_of rfl) (ble_le rfl) ?_; (intro w H; simp only [q2_, q3_] at H; simp only [Act.put, q1_, q2_, q3_, List.set_nil]))
    | (go_at_call 16; ((with_reducible refine (shapeCheck_any f _ hf).mono ?_); rw [decide_eq_false h4]; rintro e w' ⟨rfl, rfl⟩))
    )
  refine bodyPost_ret (results_c rfl rfl (H.result 0 rfl Tryd.underlying26 rfl (by exact tB_s) (ext_2 _ _))) rfl ⟨?_, H.below⟩
  exact rfl
theorem shapeInf_yes (f : Nat) (neg : Bool) (w : World) (hf : f < 256) (h4 : f < 4) :
    Calls Tryd.prog 13 #[.int .u8 f, .bool neg] w fun e w' => e = .returned (BV (infN f neg)) ∧ Below w.heap.size w w' := by
  have H := Own.start w
  have cE := fun w => shapeEmax_any f w hf
  obtain ⟨-, -, -, e1, e2, -, h1, h2⟩ := formK f h4
  have sm := (form_small f h4).1
  have cF := fun w => shapeField_any f (2 * eF f + 1) w h4 (by omega)
  have cW := fun w => shapeWith_any f ((2 * eF f + 1) * 2 ^ (pF f - 1)) neg w hf
  rw [or_sign f _ neg (sm), decide_eq_true h4] at cW
  rw [show infN f neg = (2 * eF f + 1) * 2 ^ (pF f - 1) + signN f neg by unfold infN; rw [decide_eq_true h4]; rfl]
  rw [show ((2 * eF f + 1 : Nat) : Int) = 2 * (eF f : Int) + 1 by omega] at cF
  have e3 : (eF f : Int) ≤ 16383 := by omega
  generalize signN f neg = sg at *
  generalize 2 ^ (pF f - 1) = pw at *
  generalize eF f = m at *
  go_enter Tryd.func13, Tryd.ntmps13
  go_wp2_with (first
    | ((with_reducible show wpList _ _ _ (⟨_, .box _ _, _, _, _, _⟩ :: _) _ _); refine H.box rfl rfl (cells_agg _) ?_; (intro g w H; simp only [Act.put, q1_, q2_, q3_, List.set_nil]))
    | ((with_reducible show wpList _ _ _ (⟨_, .alloc 26, _, _, _, _⟩ :: _) _ _); refine H.new rfl (T := 26) rfl tB_z (cells_agg _) ?_; (intro g w H; simp only [Act.put, q1_, q2_, q3_, List.set_nil]))
    | ((with_reducible show wpList _ _ _ (⟨_, .load 26 _, _, _, _, _⟩ :: _) _ _); refine H.load rfl (ty := 26) rfl rfl 0 rfl Tryd.underlying26 rfl (by with_reducible exact ext_2 _ _) (by exact tB_s) ?_; simp only [Act.put, q1_, q2_, q3_, List.set_nil])
    | ((with_reducible show wpList _ _ _ (⟨_, .store 26 _ _, _, _, _, _⟩ :: _) _ _); refine H.store rfl (ty := 26) rfl rfl (cells_agg _) 0 rfl v2_ (by exact tB_s) (one_of rfl) (ble_le rfl) ?_; (intro w H; simp only [q2_, q3_] at H; simp only [Act.put, q1_, q2_, q3_, List.set_nil]))
    | (go_at_call 16; ((with_reducible refine (shapeCheck_any f _ hf).mono ?_); rw [decide_eq_true h4]; rintro e w' ⟨rfl, rfl⟩))
    | (go_at_call 43; ((with_reducible refine (cE _).mono ?_); rintro e w ⟨rfl, hb⟩; replace H := H.call hb; clear hb))
    | (go_at_call 42; ((with_reducible refine (cF _).mono ?_); rintro e w ⟨rfl, hb⟩; replace H := H.call hb; clear hb))
    | (go_at_call 41; ((with_reducible refine (cW _).mono ?_); rintro e w ⟨rfl, hb⟩; replace H := H.call hb; clear hb))
    )
  refine bodyPost_ret (results_c rfl rfl (H.result 0 rfl Tryd.underlying26 rfl (by exact tB_s) (ext_2 _ _))) rfl ⟨?_, H.below⟩
  exact rfl
theorem shapeInf_any (f : Nat) (neg : Bool) (w : World) (hf : f < 256) :
    Calls Tryd.prog 13 #[.int .u8 f, .bool neg] w fun e w' => e = .returned (BV (infN f neg)) ∧ Below w.heap.size w w' := by
  by_cases h4 : f < 4
  · exact shapeInf_yes f neg w hf h4
  · exact shapeInf_no f neg w hf h4
theorem shapeOne_no (f : Nat) (neg : Bool) (w : World) (hf : f < 256) (h4 : ¬ f < 4) :
    Calls Tryd.prog 22 #[.int .u8 f, .bool neg] w fun e w' => e = .returned (BV (oneN f neg)) ∧ Below w.heap.size w w' := by
  have H := Own.start w
  rw [show oneN f neg = 0 by unfold oneN; rw [decide_eq_false h4]; rfl]
  go_enter Tryd.func22, Tryd.ntmps22
  go_wp2_with (first
    | ((with_reducible show wpList _ _ _ (⟨_, .box _ _, _, _, _, _⟩ :: _) _ _); refine H.box rfl rfl (cells_agg _) ?_; (intro g w H; simp only [Act.put, q1_, q2_, q3_, List.set_nil]))
    | ((with_reducible show wpList _ _ _ (⟨_, .alloc 26, _, _, _, _⟩ :: _) _ _); refine H.new rfl (T := 26) rfl tB_z (cells_agg _) ?_; (intro g w H; simp only [Act.put, q1_, q2_, q3_, List.set_nil]))
    | ((with_reducible show wpList _ _ _ (⟨_, .load 26 _, _, _, _, _⟩ :: _) _ _); refine H.load rfl (ty := 26) rfl rfl 0 rfl Tryd.underlying26 rfl (by with_reducible exact ext_2 _ _) (by exact tB_s) ?_; simp only [Act.put, q1_, q2_, q3_, List.set_nil])
    | ((with_reducible show wpList _ _ _ (⟨_, .store 26 _ _, _, _, _, _⟩ :: _) _ _); refine H.store rfl (ty := 26) rfl rfl (cells_agg _) 0 rfl v2_ (by exact tB_s) (one_of rfl) (ble_le rfl) ?_; (intro w H; simp only [q2_, q3_] at H; simp only [Act.put, q1_, q2_, q3_, List.set_nil]))
    | (go_at_call 16; ((with_reducible refine (shapeCheck_any f _ hf).mono ?_); rw [decide_eq_false h4]; rintro e w' ⟨rfl, rfl⟩))
    )
  refine bodyPost_ret (results_c rfl rfl (H.result 0 rfl Tryd.underlying26 rfl (by exact tB_s) (ext_2 _ _))) rfl ⟨?_, H.below⟩
  exact rfl
theorem shapeOne_yes (f : Nat) (neg : Bool) (w : World) (hf : f < 256) (h4 : f < 4) :
    Calls Tryd.prog 22 #[.int .u8 f, .bool neg] w fun e w' => e = .returned (BV (oneN f neg)) ∧ Below w.heap.size w w' := by
  have H := Own.start w
  have cE := fun w => shapeEmax_any f w hf
  obtain ⟨-, -, -, e1, e2, -, h1, h2⟩ := formK f h4
  have sm := (form_small f h4).1
  have cF := fun w => shapeField_any f (eF f) w h4 (by omega)
  have cW := fun w => shapeWith_any f ((eF f) * 2 ^ (pF f - 1)) neg w hf
  rw [or_sign f _ neg (by have := Nat.mul_le_mul_right (2 ^ (pF f - 1)) (show eF f ≤ 2 * eF f + 1 by omega); omega), decide_eq_true h4] at cW
  rw [show oneN f neg = (eF f) * 2 ^ (pF f - 1) + signN f neg by unfold oneN; rw [decide_eq_true h4]; rfl]
  have e3 : (eF f : Int) ≤ 16383 := by omega
  generalize signN f neg = sg at *
  generalize 2 ^ (pF f - 1) = pw at *
  generalize eF f = m at *
  go_enter Tryd.func22, Tryd.ntmps22
  go_wp2_with (first
    | ((with_reducible show wpList _ _ _ (⟨_, .box _ _, _, _, _, _⟩ :: _) _ _); refine H.box rfl rfl (cells_agg _) ?_; (intro g w H; simp only [Act.put, q1_, q2_, q3_, List.set_nil]))
    | ((with_reducible show wpList _ _ _ (⟨_, .alloc 26, _, _, _, _⟩ :: _) _ _); refine H.new rfl (T := 26) rfl tB_z (cells_agg _) ?_; (intro g w H; simp only [Act.put, q1_, q2_, q3_, List.set_nil]))
    | ((with_reducible show wpList _ _ _ (⟨_, .load 26 _, _, _, _, _⟩ :: _) _ _); refine H.load rfl (ty := 26) rfl rfl 0 rfl Tryd.underlying26 rfl (by with_reducible exact ext_2 _ _) (by exact tB_s) ?_; simp only [Act.put, q1_, q2_, q3_, List.set_nil])
    | ((with_reducible show wpList _ _ _ (⟨_, .store 26 _ _, _, _, _, _⟩ :: _) _ _); refine H.store rfl (ty := 26) rfl rfl (cells_agg _) 0 rfl v2_ (by exact tB_s) (one_of rfl) (ble_le rfl) ?_; (intro w H; simp only [q2_, q3_] at H; simp only [Act.put, q1_, q2_, q3_, List.set_nil]))
    | (go_at_call 16; ((with_reducible refine (shapeCheck_any f _ hf).mono ?_); rw [decide_eq_true h4]; rintro e w' ⟨rfl, rfl⟩))
    | (go_at_call 43; ((with_reducible refine (cE _).mono ?_); rintro e w ⟨rfl, hb⟩; replace H := H.call hb; clear hb))
    | (go_at_call 42; ((with_reducible refine (cF _).mono ?_); rintro e w ⟨rfl, hb⟩; replace H := H.call hb; clear hb))
    | (go_at_call 41; ((with_reducible refine (cW _).mono ?_); rintro e w ⟨rfl, hb⟩; replace H := H.call hb; clear hb))
    )
  refine bodyPost_ret (results_c rfl rfl (H.result 0 rfl Tryd.underlying26 rfl (by exact tB_s) (ext_2 _ _))) rfl ⟨?_, H.below⟩
  exact rfl
theorem shapeOne_any (f : Nat) (neg : Bool) (w : World) (hf : f < 256) :
    Calls Tryd.prog 22 #[.int .u8 f, .bool neg] w fun e w' => e = .returned (BV (oneN f neg)) ∧ Below w.heap.size w w' := by
  by_cases h4 : f < 4
  · exact shapeOne_yes f neg w hf h4
  · exact shapeOne_no f neg w hf h4
theorem shapeZero_any (f : Nat) (neg : Bool) (w : World) (hf : f < 256) :
    Calls Tryd.prog 14 #[.int .u8 f, .bool neg] w fun e w' => e = .returned (BV (zeroN f neg)) ∧ Below w.heap.size w w' := by
  have H := Own.start w
  have cW : ∀ w, Calls Tryd.prog 41 #[.int .u8 f, .agg #[.int .u64 0, .int .u64 0], .bool neg] w fun e w' => e = .returned (BV (zeroN f neg)) ∧ Below w.heap.size w w' := by
    intro w
    have := shapeWith_any f 0 neg w hf
    rw [Nat.zero_or] at this
    exact this
  go_enter Tryd.func14, Tryd.ntmps14
  go_wp2_with (first
    | ((with_reducible show wpList _ _ _ (⟨_, .box _ _, _, _, _, _⟩ :: _) _ _); refine H.box rfl rfl (cells_agg _) ?_; (intro g w H; simp only [Act.put, q1_, q2_, q3_, List.set_nil]))
    | ((with_reducible show wpList _ _ _ (⟨_, .alloc 26, _, _, _, _⟩ :: _) _ _); refine H.new rfl (T := 26) rfl tB_z (cells_agg _) ?_; (intro g w H; simp only [Act.put, q1_, q2_, q3_, List.set_nil]))
    | ((with_reducible show wpList _ _ _ (⟨_, .load 26 _, _, _, _, _⟩ :: _) _ _); refine H.load rfl (ty := 26) rfl rfl 0 rfl Tryd.underlying26 rfl (by with_reducible exact ext_2 _ _) (by exact tB_s) ?_; simp only [Act.put, q1_, q2_, q3_, List.set_nil])
    | ((with_reducible show wpList _ _ _ (⟨_, .store 26 _ _, _, _, _, _⟩ :: _) _ _); refine H.store rfl (ty := 26) rfl rfl (cells_agg _) 0 rfl v2_ (by exact tB_s) (one_of rfl) (ble_le rfl) ?_; (intro w H; simp only [q2_, q3_] at H; simp only [Act.put, q1_, q2_, q3_, List.set_nil]))
    | (go_at_call 41; ((with_reducible refine (cW _).mono ?_); rintro e w ⟨rfl, hb⟩; replace H := H.call hb; clear hb))
    )
  refine bodyPost_ret (results_c rfl rfl (H.result 0 rfl Tryd.underlying26 rfl (by exact tB_s) (ext_2 _ _))) rfl ⟨?_, H.below⟩
  exact rfl
open Go.RowKit
section
variable {P : Program} {w0 w : World} {L L' : List Bk} {op : Oper} {a : Act} {Q : Exit → Act → World → Prop} {ops : Array Oper} {S : World → Prop} {md : Region.Mode} {fuel : Nat} {listed : Array Bool}
theorem Own.held (H : Own w0 w L) {id : Nat} (hm : P.follows .mixedOrders = true) (L' : List Bk) (h : Own w0 w.drew L → wpAnyH P .any ops Q (fun w' => Own w0 w' L') ops.size (Array.replicate ops.size false) a w.drew) :
    (Code.region id ops true).wp P Q a w := wp_region_held hm (h H.drew)
theorem Own.heldSub (H : Own w0 w L) {id : Nat} (hm : P.follows .mixedOrders = true) {L' : List Bk} (_hL : List.Sublist L' L) (h : Own w0 w.drew L → wpAnyH P .any ops Q (fun w' => Own w0 w' L') ops.size (Array.replicate ops.size false) a w.drew) :
    (Code.region id ops true).wp P Q a w := wp_region_held hm (h H.drew)
theorem Own.takeRun (H : Own w0 w L) (hL : List.Sublist L' L) (i : Nat) (hi : ops[i]? = some op) (hs : Region.noSelect ops = true) (hf : Region.free md ops listed i = true) (hr : (Region.ready md ops listed).contains i = true)
    (hQ : ∀ v c a w, Q (.panic c) (a.put op.dst v) w → Q (.panic c) a w) (hw : Region.wanted op (yielded ops a.tmps) = true) {v : Value} (hv : ∀ w, (execOp a.eval op).run P w = .ok (.value v) w)
    (h : wpAnyH P md ops Q (fun w' => Own w0 w' L') fuel (listed.setIfInBounds i true) (a.put op.dst v) w) : wpAnyH P md ops Q (fun w' => Own w0 w' L') (fuel + 1) listed a w :=
  wpAnyH_take hi hs hf hr (hQ v) (yields_run hw hv) (H.sub hL) h
theorem Own.takeLoad (H : Own w0 w L) (hL : List.Sublist L' L) (i : Nat) (hi : ops[i]? = some op) (hs : Region.noSelect ops = true) (hf : Region.free md ops listed i = true) (hr : (Region.ready md ops listed).contains i = true)
    (hQ : ∀ v c a w, Q (.panic c) (a.put op.dst v) w → Q (.panic c) a w) (hw : Region.wanted op (yielded ops a.tmps) = true)
    {ty : TypeId} {x : Operand} (ho : op.op = .load ty x) {g o : Nat} (hx : a.eval x = .pointer (some ⟨g, o, none⟩))
    (j : Nat) {T : TypeId} {cs : Array Value} (hj : L'[j]? = some (g, T, cs)) {d : TypeDesc} (hu : P.underlying ty = some d) (hd : d.isRow = true) {v : Array Value} (hv : cs.extract o (o + v.size) = v) (hz : (P.info? ty).map (·.size) = some v.size)
    (h : wpAnyH P md ops Q (fun w' => Own w0 w' L') fuel (listed.setIfInBounds i true) (a.put op.dst (.agg v)) w) : wpAnyH P md ops Q (fun w' => Own w0 w' L') (fuel + 1) listed a w :=
  wpAnyH_take hi hs hf hr (hQ _) (yields_load (fun _ h => h) hw ho hx j hj hu hd hz hv) (H.sub hL) h
theorem Own.takeLoad1 (H : Own w0 w L) (hL : List.Sublist L' L) (i : Nat) (hi : ops[i]? = some op) (hs : Region.noSelect ops = true) (hf : Region.free md ops listed i = true) (hr : (Region.ready md ops listed).contains i = true)
    (hQ : ∀ v c a w, Q (.panic c) (a.put op.dst v) w → Q (.panic c) a w) (hw : Region.wanted op (yielded ops a.tmps) = true)
    {ty : TypeId} {x : Operand} (ho : op.op = .load ty x) {g o : Nat} (hx : a.eval x = .pointer (some ⟨g, o, none⟩))
    (j : Nat) {T : TypeId} {cs : Array Value} (hj : L'[j]? = some (g, T, cs)) {d : TypeDesc} (hu : P.underlying ty = some d) (hd : d.isRow = false) {v : Value} (hv : cs[o]? = some v)
    (h : wpAnyH P md ops Q (fun w' => Own w0 w' L') fuel (listed.setIfInBounds i true) (a.put op.dst v) w) : wpAnyH P md ops Q (fun w' => Own w0 w' L') (fuel + 1) listed a w :=
  wpAnyH_take hi hs hf hr (hQ _) (yields_load1 (fun _ h => h) hw ho hx j hj hu hd hv) (H.sub hL) h
end
open Go.RowKit
/-- A block's cells turned. -/
inductive Upd (g : Nat) (T : TypeId) (cs cs' : Array Value) : List Bk → List Bk → Prop
  | head (L : List Bk) : Upd g T cs cs' ((g, T, cs) :: L) ((g, T, cs') :: L)
  | tail {L L' : List Bk} (x : Bk) (h : Upd g T cs cs' L L') : Upd g T cs cs' (x :: L) (x :: L')
theorem Upd.place {g : Nat} {T : TypeId} {cs cs' : Array Value} {L L' : List Bk} (h : Upd g T cs cs' L L') : ∃ i, L[i]? = some (g, T, cs) ∧ L' = L.set i (g, T, cs') := by
  induction h with
  | head L => exact ⟨0, rfl, rfl⟩
  | tail x h ih =>
    obtain ⟨i, h1, h2⟩ := ih
    exact ⟨i + 1, by rw [List.getElem?_cons_succ]; exact h1, by rw [h2]; rfl⟩
theorem place_of_mem {L : List Bk} {x : Bk} (h : x ∈ L) : ∃ i : Nat, L[i]? = some x := by
  obtain ⟨i, hi, rfl⟩ := List.mem_iff_getElem.1 h
  exact ⟨i, List.getElem?_eq_getElem hi⟩
/-- A type whose values are rows of n cells. -/
structure IsRow (P : Program) (t : TypeId) (n : Nat) (z : Array Value) : Prop where
  row : ∃ d, P.underlying t = some d ∧ d.isRow = true
  size : (P.info? t).map (·.size) = some n
  zero : (P.info? t).bind (·.zero) = some (.agg z)
/-- A type whose values are one cell. -/
structure IsOne (P : Program) (t : TypeId) : Prop where
  one : ∃ d, P.underlying t = some d ∧ d.isRow = false
  size : (P.info? t).map (·.size) = some 1
section
variable {P : Program} {w0 w : World} {L L' : List Bk} {op : Oper} {a : Act} {Q : Exit → Act → World → Prop} {ops : Array Oper} {rest : List Oper} {K : Act → World → Prop}
theorem Own.mk0 (H : Own w0 w L) (hw : Region.wanted op (yielded ops a.tmps) = true) {t : TypeId} {n : Nat} {z : Array Value} (R : IsRow P t n z) (ho : op.op = .alloc t)
    (h : ∀ g w', Own w0 w' ((g, t, z) :: L) → wpList P ops Q rest (a.put op.dst (.pointer (some ⟨g, 0, none⟩))) w') : wpList P ops Q (op :: rest) a w :=
  H.new hw ho R.zero rfl h
theorem Own.ld (H : Own w0 w L) (hw : Region.wanted op (yielded ops a.tmps) = true) {t : TypeId} {n : Nat} {z : Array Value} (R : IsRow P t n z) {x : Operand} (ho : op.op = .load t x) {g o : Nat} (hx : a.eval x = .pointer (some ⟨g, o, none⟩))
    {T : TypeId} {cs : Array Value} (hi : (g, T, cs) ∈ L) {v : Array Value} (hv : cs.extract o (o + v.size) = v) (hs : v.size = n) (h : wpList P ops Q rest (a.put op.dst (.agg v)) w) : wpList P ops Q (op :: rest) a w := by
  obtain ⟨i, hi⟩ := place_of_mem hi
  obtain ⟨d, hu, hd⟩ := R.row
  exact H.load hw ho hx i hi hu hd hv (by rw [R.size, hs]) h
theorem Own.ld1 (H : Own w0 w L) (hw : Region.wanted op (yielded ops a.tmps) = true) {t : TypeId} (R : IsOne P t) {x : Operand} (ho : op.op = .load t x) {g o : Nat} (hx : a.eval x = .pointer (some ⟨g, o, none⟩))
    {T : TypeId} {cs : Array Value} (hi : (g, T, cs) ∈ L) {v : Value} (hv : cs[o]? = some v) (h : wpList P ops Q rest (a.put op.dst v) w) : wpList P ops Q (op :: rest) a w := by
  obtain ⟨i, hi⟩ := place_of_mem hi
  obtain ⟨d, hu, hd⟩ := R.one
  exact H.load1 hw ho hx i hi hu hd hv h
theorem Own.st (H : Own w0 w L) (hw : Region.wanted op (yielded ops a.tmps) = true) {t : TypeId} {n : Nat} {z : Array Value} (R : IsRow P t n z) {x y : Operand} (ho : op.op = .store t x y) {g o : Nat} (hx : a.eval x = .pointer (some ⟨g, o, none⟩))
    {vs : Array Value} (hy : (a.eval y).cells = vs) {T : TypeId} {cs cs' : Array Value} (hi : Upd g T cs cs' L L') (hv : setRow cs o vs.toList = cs') (hs : vs.size = n) (h1 : vs.all (·.oneCell') = true) (hn : o + vs.size ≤ cs.size)
    (h : ∀ w', Own w0 w' L' → wpList P ops Q rest (a.put op.dst undef) w') : wpList P ops Q (op :: rest) a w := by
  obtain ⟨i, hj, rfl⟩ := hi.place
  exact H.store hw ho hx hy i hj hv (by rw [R.size, hs]) h1 hn h
theorem Own.st1 (H : Own w0 w L) (hw : Region.wanted op (yielded ops a.tmps) = true) {t : TypeId} (R : IsOne P t) {x y : Operand} (ho : op.op = .store t x y) {g o : Nat} (hx : a.eval x = .pointer (some ⟨g, o, none⟩))
    {vs : Array Value} (hy : (a.eval y).cells = vs) {T : TypeId} {cs cs' : Array Value} (hi : Upd g T cs cs' L L') (hv : setRow cs o vs.toList = cs') (hs : vs.size = 1) (h1 : vs.all (·.oneCell') = true) (hn : o + vs.size ≤ cs.size)
    (h : ∀ w', Own w0 w' L' → wpList P ops Q rest (a.put op.dst undef) w') : wpList P ops Q (op :: rest) a w := by
  obtain ⟨i, hj, rfl⟩ := hi.place
  exact H.store hw ho hx hy i hj hv (by rw [R.size, hs]) h1 hn h
theorem Own.old (H : Own w0 w L) {t : TypeId} {n : Nat} {z : Array Value} (R : IsRow P t n z) {x : Operand} (ho : op.op = .load t x) {g o : Nat} (hx : a.eval x = .pointer (some ⟨g, o, none⟩))
    {T : TypeId} {cs : Array Value} (hi : (g, T, cs) ∈ L) {v : Array Value} (hv : cs.extract o (o + v.size) = v) (hs : v.size = n) (h : K (a.put op.dst (.agg v)) w) : op.wp P a w K Q := by
  obtain ⟨i, hi⟩ := place_of_mem hi
  obtain ⟨d, hu, hd⟩ := R.row
  exact H.op_load ho hx i hi hu hd hv (by rw [R.size, hs]) h
theorem Own.old1 (H : Own w0 w L) {t : TypeId} (R : IsOne P t) {x : Operand} (ho : op.op = .load t x) {g o : Nat} (hx : a.eval x = .pointer (some ⟨g, o, none⟩))
    {T : TypeId} {cs : Array Value} (hi : (g, T, cs) ∈ L) {v : Value} (hv : cs[o]? = some v) (h : K (a.put op.dst v) w) : op.wp P a w K Q := by
  obtain ⟨i, hi⟩ := place_of_mem hi
  obtain ⟨d, hu, hd⟩ := R.one
  exact H.op_load1 ho hx i hi hu hd hv h
theorem Own.ost (H : Own w0 w L) {t : TypeId} {n : Nat} {z : Array Value} (R : IsRow P t n z) {x y : Operand} (ho : op.op = .store t x y) {g o : Nat} (hx : a.eval x = .pointer (some ⟨g, o, none⟩))
    {vs : Array Value} (hy : (a.eval y).cells = vs) {T : TypeId} {cs cs' : Array Value} (hi : Upd g T cs cs' L L') (hv : setRow cs o vs.toList = cs') (hs : vs.size = n) (h1 : vs.all (·.oneCell') = true) (hn : o + vs.size ≤ cs.size)
    (h : ∀ w', Own w0 w' L' → K (a.put op.dst undef) w') : op.wp P a w K Q := by
  obtain ⟨i, hj, rfl⟩ := hi.place
  exact H.op_store ho hx hy i hj hv (by rw [R.size, hs]) h1 hn h
theorem Own.ost1 (H : Own w0 w L) {t : TypeId} (R : IsOne P t) {x y : Operand} (ho : op.op = .store t x y) {g o : Nat} (hx : a.eval x = .pointer (some ⟨g, o, none⟩))
    {vs : Array Value} (hy : (a.eval y).cells = vs) {T : TypeId} {cs cs' : Array Value} (hi : Upd g T cs cs' L L') (hv : setRow cs o vs.toList = cs') (hs : vs.size = 1) (h1 : vs.all (·.oneCell') = true) (hn : o + vs.size ≤ cs.size)
    (h : ∀ w', Own w0 w' L' → K (a.put op.dst undef) w') : op.wp P a w K Q := by
  obtain ⟨i, hj, rfl⟩ := hi.place
  exact H.op_store ho hx hy i hj hv (by rw [R.size, hs]) h1 hn h
variable {md : Region.Mode} {fuel : Nat} {listed : Array Bool}
theorem Own.tk (H : Own w0 w L) (hL : List.Sublist L' L) (i : Nat) (hi : ops[i]? = some op) (hs : Region.noSelect ops = true) (hf : Region.free md ops listed i = true) (hr : (Region.ready md ops listed).contains i = true)
    (hQ : ∀ v c a w, Q (.panic c) (a.put op.dst v) w → Q (.panic c) a w) (hw : Region.wanted op (yielded ops a.tmps) = true)
    {t : TypeId} {n : Nat} {z : Array Value} (R : IsRow P t n z) {x : Operand} (ho : op.op = .load t x) {g o : Nat} (hx : a.eval x = .pointer (some ⟨g, o, none⟩))
    {T : TypeId} {cs : Array Value} (hj : (g, T, cs) ∈ L') {v : Array Value} (hv : cs.extract o (o + v.size) = v) (hz : v.size = n)
    (h : wpAnyH P md ops Q (fun w' => Own w0 w' L') fuel (listed.setIfInBounds i true) (a.put op.dst (.agg v)) w) : wpAnyH P md ops Q (fun w' => Own w0 w' L') (fuel + 1) listed a w := by
  obtain ⟨j, hj⟩ := place_of_mem hj
  obtain ⟨d, hu, hd⟩ := R.row
  exact H.takeLoad hL i hi hs hf hr hQ hw ho hx j hj hu hd hv (by rw [R.size, hz]) h
theorem Own.tk1 (H : Own w0 w L) (hL : List.Sublist L' L) (i : Nat) (hi : ops[i]? = some op) (hs : Region.noSelect ops = true) (hf : Region.free md ops listed i = true) (hr : (Region.ready md ops listed).contains i = true)
    (hQ : ∀ v c a w, Q (.panic c) (a.put op.dst v) w → Q (.panic c) a w) (hw : Region.wanted op (yielded ops a.tmps) = true)
    {t : TypeId} (R : IsOne P t) {x : Operand} (ho : op.op = .load t x) {g o : Nat} (hx : a.eval x = .pointer (some ⟨g, o, none⟩))
    {T : TypeId} {cs : Array Value} (hj : (g, T, cs) ∈ L') {v : Value} (hv : cs[o]? = some v)
    (h : wpAnyH P md ops Q (fun w' => Own w0 w' L') fuel (listed.setIfInBounds i true) (a.put op.dst v) w) : wpAnyH P md ops Q (fun w' => Own w0 w' L') (fuel + 1) listed a w := by
  obtain ⟨j, hj⟩ := place_of_mem hj
  obtain ⟨d, hu, hd⟩ := R.one
  exact H.takeLoad1 hL i hi hs hf hr hQ hw ho hx j hj hu hd hv h
/-- Results that lie in memory. -/
theorem Own.res (H : Own w0 w L) {t : TypeId} {n : Nat} {z : Array Value} (R : IsRow P t n z) {g o : Nat} {T : TypeId} {cs : Array Value} (hi : (g, T, cs) ∈ L) {v : Array Value} (hv : cs.extract o (o + v.size) = v) (hs : v.size = n) :
    (loadVar t ⟨g, o, none⟩).run P w = .ok (.agg v) w := by
  obtain ⟨i, hi⟩ := place_of_mem hi
  obtain ⟨d, hu, hd⟩ := R.row
  exact H.result i hi hu hd (by rw [R.size, hs]) hv
end
open Go.RowKit
section
variable {P : Program} {w0 w : World} {L L' : List Bk} {op : Oper} {a : Act} {Q : Exit → Act → World → Prop} {ops : Array Oper} {rest : List Oper} {K : Act → World → Prop}
/-- A block that was there. -/
theorem Own.was (H : Own w0 w L) {T : TypeId} {g : Nat} {cs : Array Value} (hb : Blk T w0 g cs) : Blk T w g cs := hb.below H.below hb.lt
theorem Own.ldo (H : Own w0 w L) (hw : Region.wanted op (yielded ops a.tmps) = true) {t : TypeId} {n : Nat} {z : Array Value} (R : IsRow P t n z) {x : Operand} (ho : op.op = .load t x) {g o : Nat} (hx : a.eval x = .pointer (some ⟨g, o, none⟩))
    {T : TypeId} {cs : Array Value} (hb : Blk T w0 g cs) {v : Array Value} (hv : cs.extract o (o + v.size) = v) (hs : v.size = n) (h : wpList P ops Q rest (a.put op.dst (.agg v)) w) : wpList P ops Q (op :: rest) a w := by
  obtain ⟨d, hu, hd⟩ := R.row
  have hr : w.rangeAt g o v.toList := by
    have := World.rangeAt_of_block (H.was hb) o v.size
    rw [hv] at this; exact this
  exact wp_wanted hw fun _ hK => wp_load_mid (P := P) t x ho g o hx v.toList d hr hu hd (by rw [R.size, ← hs]; simp) (hK _ _ (by simpa using h))
/-- A new variable, where the order is drawn. -/
theorem Own.oal (H : Own w0 w L) {t : TypeId} {n : Nat} {z : Array Value} (R : IsRow P t n z) (ho : op.op = .alloc t)
    (h : ∀ g w', Own w0 w' ((g, t, z) :: L) → K (a.put op.dst (.pointer (some ⟨g, 0, none⟩))) w') : op.wp P a w K Q :=
  H.op_alloc ho R.zero rfl h
theorem foldl_set (vs : List Value) : ∀ (k off : Nat) (cs : Array Value), (vs.zipIdx k).foldl (fun cs (c : Value × Nat) => cs.setIfInBounds (off + c.2) c.1) cs = setRow cs (off + k) vs := by
  induction vs with
  | nil => intro k off cs; rfl
  | cons v r ih =>
    intro k off cs
    rw [List.zipIdx_cons, List.foldl_cons, ih, setRow]; rfl
theorem foldl_cells (v : Value) (off : Nat) (cs : Array Value) : v.cells.zipIdx.foldl (fun cs (c, j) => cs.setIfInBounds (off + j) c) cs = setRow cs off v.cells.toList := by
  have := foldl_set v.cells.toList 0 off cs
  rw [Nat.add_zero] at this
  rw [← this, ← Array.foldl_toList, Array.toList_zipIdx]
/-- The parts of a list of arguments, each of n cells, one behind the other. -/
theorem fill_one (n : Nat) (base : Array Value) (i : Nat) (v : Value) (rest : List (Nat × Value)) (h1 : v.cells.size = n) (h2 : i * n + n ≤ base.size) :
    Instr.fill (fun i => some (i * n, n)) base ((i, v) :: rest) = Instr.fill (fun i => some (i * n, n)) (setRow base (i * n) v.cells.toList) rest := by
  rw [Instr.fill]
  simp only []
  rw [if_neg (by simp [h1]; omega), foldl_cells]
theorem run_buildSlice {w : World} {t e : TypeId} {n len : Nat} {z : Array Value} (hu : P.underlying t = some (.slice e)) (R : IsRow P e n z) (hn : len * n ≤ 16777216) (h0 : (len * n == 0) = false) (parts : Array (Nat × Value)) (cs : Array Value)
    (hf : Instr.fill (fun i => some (i * n, n)) ((Array.range (len * n)).map (z[· % z.size]!)) parts.toList = some cs) :
    (Instr.buildSlice t len parts).run P w = .ok (.slice (some ⟨w.heap.size, 0, none⟩) len len) (w.alloc (.cells cs e (0, 0))) := by
  have hz := run_zeroValue R.zero w
  obtain ⟨inf, hi, hs⟩ : ∃ inf, P.info? e = some inf ∧ inf.size = n := by
    have := R.size
    cases hq : P.info? e with
    | none => simp [hq] at this
    | some inf => exact ⟨inf, rfl, by simpa [hq] using this⟩
  have hsz : (sizeOf e).run P w = .ok n w := by simp [sizeOf, typeInfo, Sem.run_bind, hi, hs]
  unfold Instr.buildSlice
  simp only [Sem.run_bind, run_underlying hu, Result.andThen_ok, hsz]
  rw [if_neg (by omega)]
  have h1 : ¬ len * n = 0 := by simpa using h0
  simp only [Sem.run_bind, Sem.run_pure, Result.andThen_ok, if_neg h1, hz, hf, Value.cells]
  rfl
/-- A list of arguments built: a new block, of which the slice is. -/
theorem Own.bs (H : Own w0 w L) (hw : Region.wanted op (yielded ops a.tmps) = true) {t e : TypeId} {n len : Nat} {z : Array Value} {ps : Array (Nat × Operand)} (hu : P.underlying t = some (.slice e)) (R : IsRow P e n z) (ho : op.op = .buildSlice t len ps)
    (hn : len * n ≤ 16777216) (h0 : (len * n == 0) = false) {cs : Array Value} (hf : Instr.fill (fun i => some (i * n, n)) ((Array.range (len * n)).map (z[· % z.size]!)) (ps.map fun (i, x) => (i, a.eval x)).toList = some cs)
    (h : ∀ g w', Own w0 w' ((g, e, cs) :: L) → wpList P ops Q rest (a.put op.dst (.slice (some ⟨g, 0, none⟩) len len)) w') : wpList P ops Q (op :: rest) a w := by
  refine wp_wanted hw fun K hK => ?_
  have hk := hK _ _ (h _ _ (H.alloc e cs))
  unfold Oper.wp execOp
  simp only [ho, Sem.run_bind, run_buildSlice hu R hn h0 _ cs hf, Result.andThen_ok]
  exact hk
theorem size_row (vs : List Value) (cs : Array Value) (o : Nat) : (setRow cs o vs).size = cs.size := setRow_size vs cs o
theorem setRow_at (cs : Array Value) (o : Nat) (v : Array Value) (j : Nat) (h : o + v.size ≤ cs.size) : (setRow cs o v.toList)[j]? = if j < o then cs[j]? else if j < o + v.size then v[j - o]? else cs[j]? := by
  have : ∀ (vs : List Value) (cs : Array Value) (o j : Nat), o + vs.length ≤ cs.size → (setRow cs o vs)[j]? = if j < o then cs[j]? else if j < o + vs.length then vs[j - o]? else cs[j]? := by
    intro vs
    induction vs with
    | nil => intro cs o j _; rw [setRow]; by_cases h : j < o <;> simp [h]
    | cons v r ih =>
      intro cs o j h
      rw [List.length_cons] at h
      rw [setRow, ih _ _ _ (by rw [Array.size_setIfInBounds]; omega), Array.getElem?_setIfInBounds, List.length_cons]
      by_cases h1 : j < o
      · rw [if_pos (by omega), if_neg (by omega), if_pos h1]
      · by_cases h2 : j = o
        · subst h2
          rw [if_pos (by omega), if_pos rfl, if_pos (by omega), if_neg (by omega), if_pos (by omega), Nat.sub_self]; rfl
        · rw [if_neg (by omega), if_neg h1]
          by_cases h3 : j < o + (r.length + 1)
          · rw [if_pos (by omega), if_pos h3, show j - o = (j - (o + 1)) + 1 by omega]; rfl
          · rw [if_neg (by omega), if_neg (by omega), if_neg h3]
  have h2 := this v.toList cs o j (by simpa using h)
  simpa using h2
theorem fill2 (n : Nat) (v1 v2 base : Array Value) (h1 : v1.size = n) (h2 : v2.size = n) (hb : base.size = 2 * n) : Instr.fill (fun i => some (i * n, n)) base [(0, .agg v1), (1, .agg v2)] = some (v1 ++ v2) := by
  rw [fill_one n base 0 (.agg v1) _ h1 (by omega), fill_one n _ 1 (.agg v2) _ h2 (by rw [size_row]; omega), Instr.fill]
  congr 1
  apply Array.ext_getElem?
  intro j
  show (setRow (setRow base (0 * n) v1.toList) (1 * n) v2.toList)[j]? = _
  rw [setRow_at _ _ _ _ (by rw [size_row]; omega), setRow_at _ _ _ _ (by omega), Nat.zero_mul, Nat.one_mul, Array.getElem?_append]
  by_cases hj : j < n
  · rw [if_pos hj, if_neg (by omega), if_pos (by omega), if_pos (by omega)]; rfl
  · rw [if_neg hj, if_neg (by omega : ¬ j < v1.size), h1]
    by_cases hk : j < n + v2.size
    · rw [if_pos hk]
    · rw [if_neg hk, if_neg (by omega), if_neg (by omega), Array.getElem?_eq_none (by omega), Array.getElem?_eq_none (by omega)]
theorem fill3 (n : Nat) (v1 v2 v3 base : Array Value) (h1 : v1.size = n) (h2 : v2.size = n) (h3 : v3.size = n) (hb : base.size = 3 * n) : Instr.fill (fun i => some (i * n, n)) base [(0, .agg v1), (1, .agg v2), (2, .agg v3)] = some (v1 ++ v2 ++ v3) := by
  rw [fill_one n base 0 (.agg v1) _ h1 (by omega), fill_one n _ 1 (.agg v2) _ h2 (by rw [size_row]; omega), fill_one n _ 2 (.agg v3) _ h3 (by rw [size_row, size_row]; omega), Instr.fill]
  congr 1
  apply Array.ext_getElem?
  intro j
  show (setRow (setRow (setRow base (0 * n) v1.toList) (1 * n) v2.toList) (2 * n) v3.toList)[j]? = _
  rw [setRow_at _ _ _ _ (by rw [size_row, size_row]; omega), setRow_at _ _ _ _ (by rw [size_row]; omega), setRow_at _ _ _ _ (by omega), Nat.zero_mul, Nat.one_mul, Array.getElem?_append, Array.getElem?_append, Array.size_append, h1, h2]
  by_cases hj : j < n
  · rw [if_pos (by omega), if_pos hj, if_neg (by omega), if_pos (by omega), if_pos (by omega), if_pos hj]; rfl
  · by_cases hk : j < n + n
    · rw [if_pos (by omega), if_neg hj, if_pos (by omega), if_pos hk, if_neg hj]
    · rw [if_neg (by omega), if_neg hk]
      by_cases hl : j < 2 * n + v3.size
      · rw [if_pos hl, if_neg (by omega), show j - 2 * n = j - (n + n) by omega]
      · have e1 : base[j]? = none := Array.getElem?_eq_none (by omega)
        have e2 : v1[j]? = none := Array.getElem?_eq_none (by omega)
        have e3 : v2[j - n]? = none := Array.getElem?_eq_none (by omega)
        have e4 : v3[j - (n + n)]? = none := Array.getElem?_eq_none (by omega)
        rw [if_neg hl, e1, e2, e3, e4]; simp; try omega
theorem base_size (k : Nat) (z : Array Value) : ((Array.range k).map (z[· % z.size]!)).size = k := by simp
/-- Rows one behind the other, closed to the walk. -/
def cat2 (u v : Array Value) : Array Value := u ++ v
def cat3 (u v x : Array Value) : Array Value := u ++ v ++ x
theorem Own.bs2 (H : Own w0 w L) (hw : Region.wanted op (yielded ops a.tmps) = true) {t e : TypeId} {n : Nat} {z : Array Value} {x y : Operand} (hu : P.underlying t = some (.slice e)) (R : IsRow P e n z) (ho : op.op = .buildSlice t 2 #[(0, x), (1, y)])
    {v1 v2 : Array Value} (h1 : a.eval x = .agg v1) (h2 : a.eval y = .agg v2) (s1 : v1.size = n) (s2 : v2.size = n) (hn : 2 * n ≤ 16777216) (h0 : (2 * n == 0) = false)
    (h : ∀ g w', Own w0 w' ((g, e, cat2 v1 v2) :: L) → wpList P ops Q rest (a.put op.dst (.slice (some ⟨g, 0, none⟩) 2 2)) w') : wpList P ops Q (op :: rest) a w :=
  H.bs hw hu R ho hn h0 (by rw [show (Array.map (fun (p : Nat × Operand) => (p.1, a.eval p.2)) #[(0, x), (1, y)]).toList = [(0, .agg v1), (1, .agg v2)] by simp [h1, h2]]; exact fill2 n v1 v2 _ s1 s2 (base_size _ _)) h
theorem Own.bs3 (H : Own w0 w L) (hw : Region.wanted op (yielded ops a.tmps) = true) {t e : TypeId} {n : Nat} {z : Array Value} {x y u : Operand} (hu : P.underlying t = some (.slice e)) (R : IsRow P e n z) (ho : op.op = .buildSlice t 3 #[(0, x), (1, y), (2, u)])
    {v1 v2 v3 : Array Value} (h1 : a.eval x = .agg v1) (h2 : a.eval y = .agg v2) (h3 : a.eval u = .agg v3) (s1 : v1.size = n) (s2 : v2.size = n) (s3 : v3.size = n) (hn : 3 * n ≤ 16777216) (h0 : (3 * n == 0) = false)
    (h : ∀ g w', Own w0 w' ((g, e, cat3 v1 v2 v3) :: L) → wpList P ops Q rest (a.put op.dst (.slice (some ⟨g, 0, none⟩) 3 3)) w') : wpList P ops Q (op :: rest) a w :=
  H.bs hw hu R ho hn h0 (by rw [show (Array.map (fun (p : Nat × Operand) => (p.1, a.eval p.2)) #[(0, x), (1, y), (2, u)]).toList = [(0, .agg v1), (1, .agg v2), (2, .agg v3)] by simp [h1, h2, h3]]; exact fill3 n v1 v2 v3 _ s1 s2 s3 (base_size _ _)) h
end
theorem app2_0 (u v : Array Value) : (u ++ v).extract 0 (0 + u.size) = u := by simp
theorem app2_1 (u v : Array Value) {n : Nat} (h : u.size = n) : (u ++ v).extract n (n + v.size) = v := by subst h; simp
theorem app3_0 (u v x : Array Value) : (u ++ v ++ x).extract 0 (0 + u.size) = u := by simp
theorem app3_1 (u v x : Array Value) {n : Nat} (h : u.size = n) : (u ++ v ++ x).extract n (n + v.size) = v := by subst h; simp
theorem app3_2 (u v x : Array Value) {n : Nat} (h : u.size + v.size = n) : (u ++ v ++ x).extract n (n + x.size) = x := app2_1 (u ++ v) x (by rw [Array.size_append]; exact h)
theorem cat2_0 (u v : Array Value) : (cat2 u v).extract 0 (0 + u.size) = u := app2_0 u v
theorem cat2_1 (u v : Array Value) {n : Nat} (h : u.size = n) : (cat2 u v).extract n (n + v.size) = v := app2_1 u v h
theorem cat3_0 (u v x : Array Value) : (cat3 u v x).extract 0 (0 + u.size) = u := app3_0 u v x
theorem cat3_1 (u v x : Array Value) {n : Nat} (h : u.size = n) : (cat3 u v x).extract n (n + v.size) = v := app3_1 u v x h
theorem cat3_2 (u v x : Array Value) {n : Nat} (h : u.size + v.size = n) : (cat3 u v x).extract n (n + x.size) = x := app3_2 u v x h
open Go.RowKit
section
variable {P : Program} {w : World} {op : Oper} {a : Act} {Q : Exit → Act → World → Prop} {ops : Array Oper} {S : World → Prop} {md : Region.Mode} {fuel : Nat} {listed : Array Bool}
theorem held_three {i k l : Nat} {op2 op3 : Oper} (hr : Region.ready md ops listed = [i, k, l]) (ho : ops[i]? = some op) (hw : Region.wanted op (yielded ops a.tmps) = true) (ho2 : ops[k]? = some op2) (hw2 : Region.wanted op2 (yielded ops a.tmps) = true) (ho3 : ops[l]? = some op3) (hw3 : Region.wanted op3 (yielded ops a.tmps) = true)
    (h : op.wp P a w (fun a' w' => S w' ∧ wpAnyH P md ops Q S fuel (listed.setIfInBounds i true) a' w') Q)
    (h2 : op2.wp P a w (fun a' w' => S w' ∧ wpAnyH P md ops Q S fuel (listed.setIfInBounds k true) a' w') Q)
    (h3 : op3.wp P a w (fun a' w' => S w' ∧ wpAnyH P md ops Q S fuel (listed.setIfInBounds l true) a' w') Q) : wpAnyH P md ops Q S (fuel + 1) listed a w := by
  refine wpAnyH_all hr (by simp) ?_
  intro j hj
  rcases List.mem_cons.1 hj with rfl | hj
  · unfold wpOp
    simp only [ho, hw, if_true]
    exact Or.inl h
  · rcases List.mem_cons.1 hj with rfl | hj
    · unfold wpOp
      simp only [ho2, hw2, if_true]
      exact Or.inl h2
    · obtain rfl := List.mem_singleton.1 hj
      unfold wpOp
      simp only [ho3, hw3, if_true]
      exact Or.inl h3
theorem Own.perm {w0 w : World} {L L' : List Bk} (H : Own w0 w L) (h : L.Perm L') : Own w0 w L' :=
  ⟨H.below, fun x hx => H.blk x (h.mem_iff.2 hx), fun x hx => H.ge x (h.mem_iff.2 hx), (h.pairwise_iff (fun h e => h e.symm)).1 H.ne⟩
theorem Own.join1 {w0 : World} {L0 : List Bk} (_H : Own w0 w L0) {c : Code} {Q' : Exit → Act → World → Prop} {A : Nat → Act} {L : Nat → List Bk}
    (h1 : c.wp P (fun e a' w' => e = .normal ∧ ∃ x, a' = A x ∧ Own w0 w' (L x)) a w) (h2 : ∀ x w', Own w0 w' (L x) → Q' .normal (A x) w') : c.wp P Q' a w := by
  refine Code.wp_mono ?_ h1
  rintro e a' w' ⟨rfl, x, rfl, h⟩
  exact h2 x w' h
/-- Whatever the order was, one walk goes on. -/
theorem Own.join3 {w0 : World} {L0 : List Bk} (_H : Own w0 w L0) {c : Code} {Q' : Exit → Act → World → Prop} {A : Nat → Nat → Nat → Act} {L : Nat → Nat → Nat → List Bk}
    (h1 : c.wp P (fun e a' w' => e = .normal ∧ ∃ x y z, a' = A x y z ∧ Own w0 w' (L x y z)) a w) (h2 : ∀ x y z w', Own w0 w' (L x y z) → Q' .normal (A x y z) w') : c.wp P Q' a w := by
  refine Code.wp_mono ?_ h1
  rintro e a' w' ⟨rfl, x, y, z, rfl, h⟩
  exact h2 x y z w' h
end
open Go.RowKit
section
variable {P : Program} {w0 w : World} {L L' : List Bk} {op : Oper} {a : Act} {Q : Exit → Act → World → Prop} {ops : Array Oper} {rest : List Oper} {K : Act → World → Prop} {md : Region.Mode} {fuel : Nat} {listed : Array Bool} {S : World → Prop}
  {t : TypeId} {n g o : Nat} {z cs cs' vs : Array Value} {v : Value} {r : Array Value} {x y : Operand} {T : TypeId} {op2 op3 : Oper}
theorem Own.xa (H : Own w0 w L) (h : ∀ g w', Own w0 w' ((g, t, z) :: L) → wpList P ops Q rest (a.put op.dst (.pointer (some ⟨g, 0, none⟩))) w') (hw : Region.wanted op (yielded ops a.tmps) = true := by exact rfl) (ho : op.op = .alloc t := by exact rfl) (R : IsRow P t n z := by first | with_reducible exact rW | with_reducible exact rB | with_reducible exact rP | with_reducible exact rR | with_reducible exact rQ | with_reducible exact rV | with_reducible exact rEx | with_reducible exact rFd | with_reducible exact rD | with_reducible exact rE) : wpList P ops Q (op :: rest) a w := H.mk0 hw R ho h
theorem Own.xb (H : Own w0 w L) (h : ∀ g w', Own w0 w' ((g, T, cs) :: L) → wpList P ops Q rest (a.put op.dst (.pointer (some ⟨g, 0, none⟩))) w') (hw : Region.wanted op (yielded ops a.tmps) = true := by exact rfl) (ho : op.op = .box T x := by exact rfl) (hx : (a.eval x).cells = cs := by first | exact cells_int _ _ | exact cells_bool _ | exact cells_str _ | exact cells_ptr _ | exact cells_agg _) : wpList P ops Q (op :: rest) a w := H.box hw ho hx h
theorem Own.xl (H : Own w0 w L) (h : wpList P ops Q rest (a.put op.dst (.agg r)) w) (hw : Region.wanted op (yielded ops a.tmps) = true := by exact rfl) (ho : op.op = .load t x := by exact rfl) (hx : a.eval x = .pointer (some ⟨g, o, none⟩) := by exact rfl) (R : IsRow P t n z := by first | with_reducible exact rW | with_reducible exact rB | with_reducible exact rP | with_reducible exact rR | with_reducible exact rQ | with_reducible exact rV | with_reducible exact rEx | with_reducible exact rFd | with_reducible exact rD | with_reducible exact rE) (hi : (g, T, cs) ∈ L := by repeat (first | with_reducible exact List.mem_cons_self | apply List.mem_cons_of_mem)) (hv : cs.extract o (o + r.size) = r ∧ r.size = n := by first | exact ⟨by with_reducible exact ext_limbs _, by rfl⟩ | exact ⟨by with_reducible exact ext_2 _ _, by rfl⟩ | exact ⟨by with_reducible exact ext_parts _ _ _ _, by rfl⟩ | exact ⟨by with_reducible exact ext_rough _ _ _ _, by rfl⟩ | exact ⟨by with_reducible exact ext_ex _ _ _ _, by rfl⟩ | exact ⟨by with_reducible exact ext_fd _ _ _ _, by rfl⟩ | exact ⟨by with_reducible exact ext_parts_s _ _ _ _, by rfl⟩ | exact ⟨by with_reducible exact ext_rough_s _ _ _ _, by rfl⟩ | exact ⟨by with_reducible exact ext_parts_f _ _ _ _, by rfl⟩ | exact ⟨by with_reducible exact ext_t0 _ _ _ _ _ _ _ _ _ _ _ _, by rfl⟩ | exact ⟨by with_reducible exact ext_t1 _ _ _ _ _ _ _ _ _ _ _ _, by rfl⟩ | exact ⟨by with_reducible exact ext_t2 _ _ _ _ _ _ _ _ _ _ _ _, by rfl⟩ | exact ⟨by with_reducible exact ext_12 _, by rfl⟩ | exact ⟨by with_reducible exact ext_tri _ _ _ _ _ _ _ _ _ _ _ _, by rfl⟩ | exact ⟨by with_reducible exact ext_v8 _ _ _ _ _ _ _ _, by rfl⟩) : wpList P ops Q (op :: rest) a w := H.ld hw R ho hx hi hv.1 hv.2 h
theorem Own.xm (H : Own w0 w L) (h : wpList P ops Q rest (a.put op.dst v) w) (hw : Region.wanted op (yielded ops a.tmps) = true := by exact rfl) (ho : op.op = .load t x := by exact rfl) (hx : a.eval x = .pointer (some ⟨g, o, none⟩) := by exact rfl) (R : IsOne P t := by first | with_reducible exact oU | with_reducible exact oI | with_reducible exact oT | with_reducible exact oC | with_reducible exact oNat | with_reducible exact oY | with_reducible exact oF | with_reducible exact oS | with_reducible exact oK | with_reducible exact oX) (hi : (g, T, cs) ∈ L := by repeat (first | with_reducible exact List.mem_cons_self | apply List.mem_cons_of_mem)) (hv : cs[o]? = some v := by first | with_reducible exact get_10 _ | with_reducible exact get_20 _ _ | with_reducible exact get_21 _ _ | with_reducible exact limbs_o0 _ | with_reducible exact limbs_o1 _ | with_reducible exact limbs_o2 _ | with_reducible exact limbs_o3 _ | with_reducible exact limbs_o4 _ | with_reducible exact limbs_o5 _ | with_reducible exact get_rough7 _ _ _ _ | with_reducible exact get_parts7 _ _ _ _ | with_reducible exact get_rough0 _ _ _ _ | with_reducible exact get_rough8 _ _ _ _ | with_reducible exact get_parts0 _ _ _ _ | with_reducible exact get_ex0 _ _ _ _ | with_reducible exact get_ex1 _ _ _ _ | with_reducible exact get_ex2 _ _ _ _ | with_reducible exact get_ex3 _ _ _ _ | with_reducible exact get_fd1 _ _ _ _ | with_reducible exact get_fd3 _ _ _ _) : wpList P ops Q (op :: rest) a w := H.ld1 hw R ho hx hi hv h
theorem Own.xs (H : Own w0 w L) (h : ∀ w', Own w0 w' L' → wpList P ops Q rest (a.put op.dst undef) w') (hw : Region.wanted op (yielded ops a.tmps) = true := by exact rfl) (ho : op.op = .store t x y := by exact rfl) (hx : a.eval x = .pointer (some ⟨g, o, none⟩) := by exact rfl) (R : IsRow P t n z := by first | with_reducible exact rW | with_reducible exact rB | with_reducible exact rP | with_reducible exact rR | with_reducible exact rQ | with_reducible exact rV | with_reducible exact rEx | with_reducible exact rFd | with_reducible exact rD | with_reducible exact rE) (hy : (a.eval y).cells = vs := by exact cells_agg _) (hm : (g, T, cs) ∈ L := by repeat (first | with_reducible exact List.mem_cons_self | apply List.mem_cons_of_mem)) (hv : setRow cs o vs.toList = cs' := by first | with_reducible exact set_limbs _ _ | with_reducible exact set_limbsR _ _ | with_reducible exact set_limbsQ _ _ | with_reducible exact set_bits _ _ _ _ | with_reducible exact set_bitsR _ _ _ _ | with_reducible exact set_tri _ _ _ _ _ _ _ _ _ _ _ _ _ _ _ _ _ _ _ _ _ _ _ _ | with_reducible exact set_pw _ _ _ _ _ _ _ _ | with_reducible exact set_pwQ _ _ _ _ _ _ _ _ | with_reducible exact set_pwR _ _ _ _ _ _ _ _ | with_reducible exact set_ex _ _ _ _ _ _ _ _ | with_reducible exact set_fd _ _ _ _ _ _ _ _ | with_reducible exact set_parts_s _ _ _ _ _ | with_reducible exact set_rough_s _ _ _ _ _ | with_reducible exact set_parts_f _ _ _ _ _ | with_reducible exact set_v8 _ _ _ _ _ _ _ _ _ _ _ _ _ _ _ _ | with_reducible exact set_t0 _ _ _ _ _ _ _ _ _ _ _ _ _ _ _ _ | with_reducible exact set_t1 _ _ _ _ _ _ _ _ _ _ _ _ _ _ _ _ | with_reducible exact set_t2 _ _ _ _ _ _ _ _ _ _ _ _ _ _ _ _ | with_reducible exact set_rw _ _ _ _ _ _ _ _ | with_reducible exact set_rw2 _ _ _ _ _ _ _ _ | with_reducible exact set_zero6 _ rfl | with_reducible exact set_all _ _ rfl) (hs : vs.size = n := by rfl) (h1 : vs.all (·.oneCell') = true := by exact one_of rfl) (hn : o + vs.size ≤ cs.size := by first | exact ble_le rfl | (change _ + 1 ≤ 12; omega) | (change _ + 1 ≤ 6; omega) | (rw [fillTo_size]; change _ + 1 ≤ 6; omega) | (rw [rowB_size]; change _ + 1 ≤ _; omega)) (hi : Upd g T cs cs' L L' := by repeat (first | with_reducible exact Upd.head _ | apply Upd.tail)) : wpList P ops Q (op :: rest) a w := H.st hw R ho hx hy hi hv hs h1 hn h
theorem Own.xt (H : Own w0 w L) (h : ∀ w', Own w0 w' L' → wpList P ops Q rest (a.put op.dst undef) w') (hw : Region.wanted op (yielded ops a.tmps) = true := by exact rfl) (ho : op.op = .store t x y := by exact rfl) (hx : a.eval x = .pointer (some ⟨g, o, none⟩) := by exact rfl) (R : IsOne P t := by first | with_reducible exact oU | with_reducible exact oI | with_reducible exact oT | with_reducible exact oC | with_reducible exact oNat | with_reducible exact oY | with_reducible exact oF | with_reducible exact oS | with_reducible exact oK | with_reducible exact oX) (hy : (a.eval y).cells = vs := by first | exact cells_int _ _ | exact cells_bool _ | exact cells_str _ | exact cells_ptr _) (hm : (g, T, cs) ∈ L := by repeat (first | with_reducible exact List.mem_cons_self | apply List.mem_cons_of_mem)) (hv : setRow cs o vs.toList = cs' := by first | with_reducible exact set_10 _ _ | with_reducible exact set_20 _ _ _ | with_reducible exact set_21 _ _ _ | with_reducible exact set_parts_x _ _ _ _ _ | with_reducible exact set_rough_n _ _ _ _ _) (hs : vs.size = 1 := by rfl) (h1 : vs.all (·.oneCell') = true := by exact one_of rfl) (hn : o + vs.size ≤ cs.size := by first | exact ble_le rfl | (change _ + 1 ≤ 12; omega) | (change _ + 1 ≤ 6; omega) | (rw [fillTo_size]; change _ + 1 ≤ 6; omega) | (rw [rowB_size]; change _ + 1 ≤ _; omega)) (hi : Upd g T cs cs' L L' := by repeat (first | with_reducible exact Upd.head _ | apply Upd.tail)) : wpList P ops Q (op :: rest) a w := H.st1 hw R ho hx hy hi hv hs h1 hn h
theorem Own.ya (H : Own w0 w L) (h : ∀ g w', Own w0 w' ((g, t, z) :: L) → K (a.put op.dst (.pointer (some ⟨g, 0, none⟩))) w') (ho : op.op = .alloc t := by exact rfl) (R : IsRow P t n z := by first | with_reducible exact rW | with_reducible exact rB | with_reducible exact rP | with_reducible exact rR | with_reducible exact rQ | with_reducible exact rV | with_reducible exact rEx | with_reducible exact rFd | with_reducible exact rD | with_reducible exact rE) : op.wp P a w K Q := H.oal R ho h
theorem Own.yl (H : Own w0 w L) (h : K (a.put op.dst (.agg r)) w) (ho : op.op = .load t x := by exact rfl) (hx : a.eval x = .pointer (some ⟨g, o, none⟩) := by exact rfl) (R : IsRow P t n z := by first | with_reducible exact rW | with_reducible exact rB | with_reducible exact rP | with_reducible exact rR | with_reducible exact rQ | with_reducible exact rV | with_reducible exact rEx | with_reducible exact rFd | with_reducible exact rD | with_reducible exact rE) (hi : (g, T, cs) ∈ L := by repeat (first | with_reducible exact List.mem_cons_self | apply List.mem_cons_of_mem)) (hv : cs.extract o (o + r.size) = r ∧ r.size = n := by first | exact ⟨by with_reducible exact ext_limbs _, by rfl⟩ | exact ⟨by with_reducible exact ext_2 _ _, by rfl⟩ | exact ⟨by with_reducible exact ext_parts _ _ _ _, by rfl⟩ | exact ⟨by with_reducible exact ext_rough _ _ _ _, by rfl⟩ | exact ⟨by with_reducible exact ext_ex _ _ _ _, by rfl⟩ | exact ⟨by with_reducible exact ext_fd _ _ _ _, by rfl⟩ | exact ⟨by with_reducible exact ext_parts_s _ _ _ _, by rfl⟩ | exact ⟨by with_reducible exact ext_rough_s _ _ _ _, by rfl⟩ | exact ⟨by with_reducible exact ext_parts_f _ _ _ _, by rfl⟩ | exact ⟨by with_reducible exact ext_t0 _ _ _ _ _ _ _ _ _ _ _ _, by rfl⟩ | exact ⟨by with_reducible exact ext_t1 _ _ _ _ _ _ _ _ _ _ _ _, by rfl⟩ | exact ⟨by with_reducible exact ext_t2 _ _ _ _ _ _ _ _ _ _ _ _, by rfl⟩ | exact ⟨by with_reducible exact ext_12 _, by rfl⟩ | exact ⟨by with_reducible exact ext_tri _ _ _ _ _ _ _ _ _ _ _ _, by rfl⟩ | exact ⟨by with_reducible exact ext_v8 _ _ _ _ _ _ _ _, by rfl⟩) : op.wp P a w K Q := H.old R ho hx hi hv.1 hv.2 h
theorem Own.ym (H : Own w0 w L) (h : K (a.put op.dst v) w) (ho : op.op = .load t x := by exact rfl) (hx : a.eval x = .pointer (some ⟨g, o, none⟩) := by exact rfl) (R : IsOne P t := by first | with_reducible exact oU | with_reducible exact oI | with_reducible exact oT | with_reducible exact oC | with_reducible exact oNat | with_reducible exact oY | with_reducible exact oF | with_reducible exact oS | with_reducible exact oK | with_reducible exact oX) (hi : (g, T, cs) ∈ L := by repeat (first | with_reducible exact List.mem_cons_self | apply List.mem_cons_of_mem)) (hv : cs[o]? = some v := by first | with_reducible exact get_10 _ | with_reducible exact get_20 _ _ | with_reducible exact get_21 _ _ | with_reducible exact limbs_o0 _ | with_reducible exact limbs_o1 _ | with_reducible exact limbs_o2 _ | with_reducible exact limbs_o3 _ | with_reducible exact limbs_o4 _ | with_reducible exact limbs_o5 _ | with_reducible exact get_rough7 _ _ _ _ | with_reducible exact get_parts7 _ _ _ _ | with_reducible exact get_rough0 _ _ _ _ | with_reducible exact get_rough8 _ _ _ _ | with_reducible exact get_parts0 _ _ _ _ | with_reducible exact get_ex0 _ _ _ _ | with_reducible exact get_ex1 _ _ _ _ | with_reducible exact get_ex2 _ _ _ _ | with_reducible exact get_ex3 _ _ _ _ | with_reducible exact get_fd1 _ _ _ _ | with_reducible exact get_fd3 _ _ _ _) : op.wp P a w K Q := H.old1 R ho hx hi hv h
theorem Own.ys (H : Own w0 w L) (h : ∀ w', Own w0 w' L' → K (a.put op.dst undef) w') (ho : op.op = .store t x y := by exact rfl) (hx : a.eval x = .pointer (some ⟨g, o, none⟩) := by exact rfl) (R : IsRow P t n z := by first | with_reducible exact rW | with_reducible exact rB | with_reducible exact rP | with_reducible exact rR | with_reducible exact rQ | with_reducible exact rV | with_reducible exact rEx | with_reducible exact rFd | with_reducible exact rD | with_reducible exact rE) (hy : (a.eval y).cells = vs := by exact cells_agg _) (hm : (g, T, cs) ∈ L := by repeat (first | with_reducible exact List.mem_cons_self | apply List.mem_cons_of_mem)) (hv : setRow cs o vs.toList = cs' := by first | with_reducible exact set_limbs _ _ | with_reducible exact set_limbsR _ _ | with_reducible exact set_limbsQ _ _ | with_reducible exact set_bits _ _ _ _ | with_reducible exact set_bitsR _ _ _ _ | with_reducible exact set_tri _ _ _ _ _ _ _ _ _ _ _ _ _ _ _ _ _ _ _ _ _ _ _ _ | with_reducible exact set_pw _ _ _ _ _ _ _ _ | with_reducible exact set_pwQ _ _ _ _ _ _ _ _ | with_reducible exact set_pwR _ _ _ _ _ _ _ _ | with_reducible exact set_ex _ _ _ _ _ _ _ _ | with_reducible exact set_fd _ _ _ _ _ _ _ _ | with_reducible exact set_parts_s _ _ _ _ _ | with_reducible exact set_rough_s _ _ _ _ _ | with_reducible exact set_parts_f _ _ _ _ _ | with_reducible exact set_v8 _ _ _ _ _ _ _ _ _ _ _ _ _ _ _ _ | with_reducible exact set_t0 _ _ _ _ _ _ _ _ _ _ _ _ _ _ _ _ | with_reducible exact set_t1 _ _ _ _ _ _ _ _ _ _ _ _ _ _ _ _ | with_reducible exact set_t2 _ _ _ _ _ _ _ _ _ _ _ _ _ _ _ _ | with_reducible exact set_rw _ _ _ _ _ _ _ _ | with_reducible exact set_rw2 _ _ _ _ _ _ _ _ | with_reducible exact set_zero6 _ rfl | with_reducible exact set_all _ _ rfl) (hs : vs.size = n := by rfl) (h1 : vs.all (·.oneCell') = true := by exact one_of rfl) (hn : o + vs.size ≤ cs.size := by first | exact ble_le rfl | (change _ + 1 ≤ 12; omega) | (change _ + 1 ≤ 6; omega) | (rw [fillTo_size]; change _ + 1 ≤ 6; omega) | (rw [rowB_size]; change _ + 1 ≤ _; omega)) (hi : Upd g T cs cs' L L' := by repeat (first | with_reducible exact Upd.head _ | apply Upd.tail)) : op.wp P a w K Q := H.ost R ho hx hy hi hv hs h1 hn h
theorem Own.yt (H : Own w0 w L) (h : ∀ w', Own w0 w' L' → K (a.put op.dst undef) w') (ho : op.op = .store t x y := by exact rfl) (hx : a.eval x = .pointer (some ⟨g, o, none⟩) := by exact rfl) (R : IsOne P t := by first | with_reducible exact oU | with_reducible exact oI | with_reducible exact oT | with_reducible exact oC | with_reducible exact oNat | with_reducible exact oY | with_reducible exact oF | with_reducible exact oS | with_reducible exact oK | with_reducible exact oX) (hy : (a.eval y).cells = vs := by first | exact cells_int _ _ | exact cells_bool _ | exact cells_str _ | exact cells_ptr _) (hm : (g, T, cs) ∈ L := by repeat (first | with_reducible exact List.mem_cons_self | apply List.mem_cons_of_mem)) (hv : setRow cs o vs.toList = cs' := by first | with_reducible exact set_10 _ _ | with_reducible exact set_20 _ _ _ | with_reducible exact set_21 _ _ _ | with_reducible exact set_parts_x _ _ _ _ _ | with_reducible exact set_rough_n _ _ _ _ _) (hs : vs.size = 1 := by rfl) (h1 : vs.all (·.oneCell') = true := by exact one_of rfl) (hn : o + vs.size ≤ cs.size := by first | exact ble_le rfl | (change _ + 1 ≤ 12; omega) | (change _ + 1 ≤ 6; omega) | (rw [fillTo_size]; change _ + 1 ≤ 6; omega) | (rw [rowB_size]; change _ + 1 ≤ _; omega)) (hi : Upd g T cs cs' L L' := by repeat (first | with_reducible exact Upd.head _ | apply Upd.tail)) : op.wp P a w K Q := H.ost1 R ho hx hy hi hv hs h1 hn h
theorem Own.zr (H : Own w0 w L) (i : Nat) (h : wpAnyH P md ops Q (fun w' => Own w0 w' L') fuel (listed.setIfInBounds i true) (a.put op.dst v) w) (hL : List.Sublist L' L := by repeat (first | with_reducible exact List.Sublist.refl _ | with_reducible apply List.Sublist.cons_cons | with_reducible apply List.Sublist.cons)) (hi' : ops[i]? = some op := by exact rfl) (hs' : Region.noSelect ops = true := by kernel_rfl) (hf : Region.free md ops listed i = true := by kernel_rfl) (hr : (Region.ready md ops listed).contains i = true := by kernel_rfl) (hQ : ∀ v c a w, Q (.panic c) (a.put op.dst v) w → Q (.panic c) a w := by first | exact fun _ _ _ _ h => h | exact fun _ _ _ _ h => by cases h.1) (hw : Region.wanted op (yielded ops a.tmps) = true := by exact rfl) (hv : ∀ w, (execOp a.eval op).run P w = .ok (.value v) w := by intro w; go_simp; (try with_reducible rfl)) : wpAnyH P md ops Q (fun w' => Own w0 w' L') (fuel + 1) listed a w := H.takeRun hL i hi' hs' hf hr hQ hw hv h
theorem Own.zl (H : Own w0 w L) (i : Nat) (h : wpAnyH P md ops Q (fun w' => Own w0 w' L') fuel (listed.setIfInBounds i true) (a.put op.dst (.agg r)) w) (hL : List.Sublist L' L := by repeat (first | with_reducible exact List.Sublist.refl _ | with_reducible apply List.Sublist.cons_cons | with_reducible apply List.Sublist.cons)) (hi' : ops[i]? = some op := by exact rfl) (hs' : Region.noSelect ops = true := by kernel_rfl) (hf : Region.free md ops listed i = true := by kernel_rfl) (hr : (Region.ready md ops listed).contains i = true := by kernel_rfl) (hQ : ∀ v c a w, Q (.panic c) (a.put op.dst v) w → Q (.panic c) a w := by first | exact fun _ _ _ _ h => h | exact fun _ _ _ _ h => by cases h.1) (hw : Region.wanted op (yielded ops a.tmps) = true := by exact rfl) (ho : op.op = .load t x := by exact rfl) (hx : a.eval x = .pointer (some ⟨g, o, none⟩) := by exact rfl) (R : IsRow P t n z := by first | with_reducible exact rW | with_reducible exact rB | with_reducible exact rP | with_reducible exact rR | with_reducible exact rQ | with_reducible exact rV | with_reducible exact rEx | with_reducible exact rFd | with_reducible exact rD | with_reducible exact rE) (hi : (g, T, cs) ∈ L' := by repeat (first | with_reducible exact List.mem_cons_self | apply List.mem_cons_of_mem)) (hv : cs.extract o (o + r.size) = r ∧ r.size = n := by first | exact ⟨by with_reducible exact ext_limbs _, by rfl⟩ | exact ⟨by with_reducible exact ext_2 _ _, by rfl⟩ | exact ⟨by with_reducible exact ext_parts _ _ _ _, by rfl⟩ | exact ⟨by with_reducible exact ext_rough _ _ _ _, by rfl⟩ | exact ⟨by with_reducible exact ext_ex _ _ _ _, by rfl⟩ | exact ⟨by with_reducible exact ext_fd _ _ _ _, by rfl⟩ | exact ⟨by with_reducible exact ext_parts_s _ _ _ _, by rfl⟩ | exact ⟨by with_reducible exact ext_rough_s _ _ _ _, by rfl⟩ | exact ⟨by with_reducible exact ext_parts_f _ _ _ _, by rfl⟩ | exact ⟨by with_reducible exact ext_t0 _ _ _ _ _ _ _ _ _ _ _ _, by rfl⟩ | exact ⟨by with_reducible exact ext_t1 _ _ _ _ _ _ _ _ _ _ _ _, by rfl⟩ | exact ⟨by with_reducible exact ext_t2 _ _ _ _ _ _ _ _ _ _ _ _, by rfl⟩ | exact ⟨by with_reducible exact ext_12 _, by rfl⟩ | exact ⟨by with_reducible exact ext_tri _ _ _ _ _ _ _ _ _ _ _ _, by rfl⟩ | exact ⟨by with_reducible exact ext_v8 _ _ _ _ _ _ _ _, by rfl⟩) : wpAnyH P md ops Q (fun w' => Own w0 w' L') (fuel + 1) listed a w := H.tk hL i hi' hs' hf hr hQ hw R ho hx hi hv.1 hv.2 h
theorem Own.zm (H : Own w0 w L) (i : Nat) (h : wpAnyH P md ops Q (fun w' => Own w0 w' L') fuel (listed.setIfInBounds i true) (a.put op.dst v) w) (hL : List.Sublist L' L := by repeat (first | with_reducible exact List.Sublist.refl _ | with_reducible apply List.Sublist.cons_cons | with_reducible apply List.Sublist.cons)) (hi' : ops[i]? = some op := by exact rfl) (hs' : Region.noSelect ops = true := by kernel_rfl) (hf : Region.free md ops listed i = true := by kernel_rfl) (hr : (Region.ready md ops listed).contains i = true := by kernel_rfl) (hQ : ∀ v c a w, Q (.panic c) (a.put op.dst v) w → Q (.panic c) a w := by first | exact fun _ _ _ _ h => h | exact fun _ _ _ _ h => by cases h.1) (hw : Region.wanted op (yielded ops a.tmps) = true := by exact rfl) (ho : op.op = .load t x := by exact rfl) (hx : a.eval x = .pointer (some ⟨g, o, none⟩) := by exact rfl) (R : IsOne P t := by first | with_reducible exact oU | with_reducible exact oI | with_reducible exact oT | with_reducible exact oC | with_reducible exact oNat | with_reducible exact oY | with_reducible exact oF | with_reducible exact oS | with_reducible exact oK | with_reducible exact oX) (hi : (g, T, cs) ∈ L' := by repeat (first | with_reducible exact List.mem_cons_self | apply List.mem_cons_of_mem)) (hv : cs[o]? = some v := by first | with_reducible exact get_10 _ | with_reducible exact get_20 _ _ | with_reducible exact get_21 _ _ | with_reducible exact limbs_o0 _ | with_reducible exact limbs_o1 _ | with_reducible exact limbs_o2 _ | with_reducible exact limbs_o3 _ | with_reducible exact limbs_o4 _ | with_reducible exact limbs_o5 _ | with_reducible exact get_rough7 _ _ _ _ | with_reducible exact get_parts7 _ _ _ _ | with_reducible exact get_rough0 _ _ _ _ | with_reducible exact get_rough8 _ _ _ _ | with_reducible exact get_parts0 _ _ _ _ | with_reducible exact get_ex0 _ _ _ _ | with_reducible exact get_ex1 _ _ _ _ | with_reducible exact get_ex2 _ _ _ _ | with_reducible exact get_ex3 _ _ _ _ | with_reducible exact get_fd1 _ _ _ _ | with_reducible exact get_fd3 _ _ _ _) : wpAnyH P md ops Q (fun w' => Own w0 w' L') (fuel + 1) listed a w := H.tk1 hL i hi' hs' hf hr hQ hw R ho hx hi hv h
theorem Own.nx {X : Prop} (H : Own w0 w L) (h : X) (hL : List.Sublist L' L := by repeat (first | with_reducible exact List.Sublist.refl _ | with_reducible apply List.Sublist.cons_cons | with_reducible apply List.Sublist.cons)) : Own w0 w L' ∧ X := ⟨H.sub hL, h⟩
theorem held1 (i : Nat) (h : op.wp P a w (fun a' w' => S w' ∧ wpAnyH P md ops Q S fuel (listed.setIfInBounds i true) a' w') Q) (hr : Region.ready md ops listed = [i] := by kernel_rfl) (ho : ops[i]? = some op := by exact rfl) (hw : Region.wanted op (yielded ops a.tmps) = true := by exact rfl) : wpAnyH P md ops Q S (fuel + 1) listed a w := held_one hr ho hw h
theorem held2 (i k : Nat) (h : op.wp P a w (fun a' w' => S w' ∧ wpAnyH P md ops Q S fuel (listed.setIfInBounds i true) a' w') Q) (h2 : op2.wp P a w (fun a' w' => S w' ∧ wpAnyH P md ops Q S fuel (listed.setIfInBounds k true) a' w') Q) (hr : Region.ready md ops listed = [i, k] := by kernel_rfl) (ho : ops[i]? = some op := by exact rfl) (hw : Region.wanted op (yielded ops a.tmps) = true := by exact rfl) (ho2 : ops[k]? = some op2 := by exact rfl) (hw2 : Region.wanted op2 (yielded ops a.tmps) = true := by exact rfl) : wpAnyH P md ops Q S (fuel + 1) listed a w := held_two hr ho hw ho2 hw2 h h2
theorem held3 (i k l : Nat) (h : op.wp P a w (fun a' w' => S w' ∧ wpAnyH P md ops Q S fuel (listed.setIfInBounds i true) a' w') Q) (h2 : op2.wp P a w (fun a' w' => S w' ∧ wpAnyH P md ops Q S fuel (listed.setIfInBounds k true) a' w') Q) (h3 : op3.wp P a w (fun a' w' => S w' ∧ wpAnyH P md ops Q S fuel (listed.setIfInBounds l true) a' w') Q) (hr : Region.ready md ops listed = [i, k, l] := by kernel_rfl) (ho : ops[i]? = some op := by exact rfl) (hw : Region.wanted op (yielded ops a.tmps) = true := by exact rfl) (ho2 : ops[k]? = some op2 := by exact rfl) (hw2 : Region.wanted op2 (yielded ops a.tmps) = true := by exact rfl) (ho3 : ops[l]? = some op3 := by exact rfl) (hw3 : Region.wanted op3 (yielded ops a.tmps) = true := by exact rfl) : wpAnyH P md ops Q S (fuel + 1) listed a w := held_three hr ho hw ho2 hw2 ho3 hw3 h h2 h3
end
open Go.RowKit
theorem rW : IsRow Tryd.prog 46 6 (limbs 0) := ⟨⟨_, Tryd.underlying46, rfl⟩, tW_s, tW_z⟩
theorem rB : IsRow Tryd.prog 26 2 #[.int .u64 0, .int .u64 0] := ⟨⟨_, Tryd.underlying26, rfl⟩, tB_s, tB_z⟩
theorem rP : IsRow Tryd.prog 51 14 (parts 0 0 0 0) := ⟨⟨_, Tryd.underlying51, rfl⟩, tP_s, tP_z⟩
theorem rR : IsRow Tryd.prog 61 9 (rough false 0 0 false) := ⟨⟨_, Tryd.underlying61, rfl⟩, tR_s, tR_z⟩
theorem oU : IsOne Tryd.prog 24 := ⟨⟨_, Tryd.underlying24, rfl⟩, tu_s⟩
theorem oI : IsOne Tryd.prog 3 := ⟨⟨_, Tryd.underlying3, rfl⟩, ti_s⟩
theorem oT : IsOne Tryd.prog 4 := ⟨⟨_, Tryd.underlying4, rfl⟩, tb_s⟩
theorem oC : IsOne Tryd.prog 41 := ⟨⟨_, Tryd.underlying41, rfl⟩, tc_s⟩
def belowN4 (c : Nat) : Bool := decide (c < 4)
theorem lenN_mul (c k : Nat) (h : c ≠ 0) : lenN (c * 2 ^ k) = lenN c + k := by
  have h1 := lenN_ge c h
  have h2 := lenN_lt c
  have h3 := lenN_pos c h
  apply lenN_unique
  · rw [show lenN c + k - 1 = (lenN c - 1) + k by omega, Nat.pow_add]; exact Nat.mul_le_mul_right _ h1
  · rw [Nat.pow_add]; exact (Nat.mul_lt_mul_right (two_pos k)).2 h2
  · omega
theorem below_neg (f b : Nat) (h : ¬ 8 ≤ clsN f b) : belowN4 (clsN f b) = negN f b := by
  unfold belowN4
  rcases cls_cases f b with ⟨_, _, e3⟩ | ⟨_, _, e3⟩ | ⟨_, _, e3⟩ | ⟨_, _, e3⟩ | ⟨_, _, e3⟩
  · rw [e3]; cases negN f b <;> rfl
  · exfalso; rw [e3] at h; revert h; cases (b % 2 ^ (pF f - 1)).testBit (pF f - 2) <;> decide
  · rw [e3]; cases negN f b <;> rfl
  · rw [e3]; cases negN f b <;> rfl
  · rw [e3]; cases negN f b <;> rfl
theorem fin_of (f b : Nat) (h8 : ¬ 8 ≤ clsN f b) (h07 : ¬ (clsN f b = 0 ∨ clsN f b = 7)) (h34 : ¬ (clsN f b = 3 ∨ clsN f b = 4)) : Fin0 f b := by
  have := cls_le f b
  unfold Fin0
  omega
theorem sig_zero (f b : Nat) (h : fitsB f b = true) (h8 : ¬ 8 ≤ clsN f b) (h07 : ¬ (clsN f b = 0 ∨ clsN f b = 7)) : sigN f b = 0 ↔ (clsN f b = 3 ∨ clsN f b = 4) := by
  constructor
  · intro h0
    rcases Nat.lt_or_ge 0 1 with _ | _
    · by_cases h34 : clsN f b = 3 ∨ clsN f b = 4
      · exact h34
      · exact absurd h0 (can_of f b h (fin_of f b h8 h07 h34)).1.pos
    · omega
  · rintro (h | h) <;> (unfold sigN; rw [h]; rfl)
theorem infN_mk (f : Nat) (neg : Bool) (hf : f < 4) : infN f neg = mkN f neg (2 * eF f + 1) 0 := by unfold infN mkN; rw [decide_eq_true hf]; rfl
theorem zeroN_mk (f : Nat) (neg : Bool) (hf : f < 4) : zeroN f neg = mkN f neg 0 0 := by unfold zeroN mkN; rw [decide_eq_true hf, Nat.zero_mul]; simp
theorem zero_parts (f : Nat) (neg : Bool) (hf : f < 4) : fitsB f (zeroN f neg) = true ∧ clsN f (zeroN f neg) = cond neg 3 4 := by
  rw [zeroN_mk f neg hf]
  obtain ⟨m1, m2, m3, m4⟩ := mkN_fields f hf neg 0 0 (two_pos _) (by omega)
  refine ⟨m4, ?_⟩
  rcases cls_cases f (mkN f neg 0 0) with ⟨e1, e2, e3⟩ | ⟨e1, e2, e3⟩ | ⟨e1, e2, e3⟩ | ⟨e1, e2, e3⟩ | ⟨e1, e2, e3⟩
  · omega
  · omega
  · rw [e3]; unfold negN; rw [m3]
  · exact absurd m1 e2
  · exact absurd m2 e1
theorem inf_of (f b : Nat) (h : fitsB f b = true) (hc : clsN f b = 0 ∨ clsN f b = 7) : infN f (negN f b) = b := by
  obtain ⟨hf, hb⟩ := (fits_iff f b).1 h
  rw [infN_mk f _ hf]
  have hm := mkN_of f b h
  rcases cls_cases f b with ⟨e1, e2, e3⟩ | ⟨e1, e2, e3⟩ | ⟨e1, e2, e3⟩ | ⟨e1, e2, e3⟩ | ⟨e1, e2, e3⟩
  · rw [e1, e2] at hm; exact hm
  · exfalso; rw [e3] at hc; revert hc; cases (b % 2 ^ (pF f - 1)).testBit (pF f - 2) <;> decide
  · exfalso; rw [e3] at hc; revert hc; cases negN f b <;> decide
  · exfalso; rw [e3] at hc; revert hc; cases negN f b <;> decide
  · exfalso; rw [e3] at hc; revert hc; cases negN f b <;> decide
theorem zero_of (f b : Nat) (h : fitsB f b = true) (hc : clsN f b = 3 ∨ clsN f b = 4) : zeroN f (negN f b) = b := by
  obtain ⟨hf, hb⟩ := (fits_iff f b).1 h
  rw [zeroN_mk f _ hf]
  have hm := mkN_of f b h
  rcases cls_cases f b with ⟨e1, e2, e3⟩ | ⟨e1, e2, e3⟩ | ⟨e1, e2, e3⟩ | ⟨e1, e2, e3⟩ | ⟨e1, e2, e3⟩
  · exfalso; rw [e3] at hc; revert hc; cases negN f b <;> decide
  · exfalso; rw [e3] at hc; revert hc; cases (b % 2 ^ (pF f - 1)).testBit (pF f - 2) <;> decide
  · rw [e1, e2] at hm; exact hm
  · exfalso; rw [e3] at hc; revert hc; cases negN f b <;> decide
  · exfalso; rw [e3] at hc; revert hc; cases negN f b <;> decide
def nanB (c : Nat) : Bool := decide (8 ≤ c)
def infB (c : Nat) : Bool := decide (c = 0) || decide (c = 7)
def zerB (c : Nat) : Bool := decide (c = 3) || decide (c = 4)
/-- The canonical NaN, loud if one is signaling. -/
def canonR (f c d : Nat) : Nat × Nat := (nanN f, cond (decide (c = 8) || decide (d = 8)) 16 0)
def mulR (f m a b : Nat) : Nat × Nat :=
  if (nanB (clsN f a) || nanB (clsN f b)) = true then canonR f (clsN f a) (clsN f b)
  else if (infB (clsN f a) && zerB (clsN f b) || infB (clsN f b) && zerB (clsN f a)) = true then (nanN f, 16)
  else if (infB (clsN f a) || infB (clsN f b)) = true then (infN f (belowN4 (clsN f a) != belowN4 (clsN f b)), 0)
  else if (zerB (clsN f a) || zerB (clsN f b)) = true then (zeroN f (belowN4 (clsN f a) != belowN4 (clsN f b)), 0)
  else packB f m (belowN4 (clsN f a) != belowN4 (clsN f b)) (sigN f a * sigN f b) (xpN f a + xpN f b) false
def binOk (f m a b : Nat) : Bool := decide (f < 4) && decide (m < 5) && (fitsB f a && fitsB f b)
def mulN (f m a b : Nat) : Nat × Nat × Int := cond (binOk f m a b) ((mulR f m a b).1, (mulR f m a b).2, 0) (0, 0, 2)
/-- With the other sign. -/
def flipN (f a : Nat) : Nat := cond (fitsB f a) (mkN f (!negN f a) (expN f a) (a % 2 ^ (pF f - 1))) 0
theorem bne_swap (a b : Bool) : (a != b) = (b != a) := by cases a <;> cases b <;> rfl
theorem enc_neg (f c : Nat) (q : Int) (neg : Bool) : encN f neg c q = encN f false c q + signN f neg := by unfold encN; cases neg <;> simp [signN]
theorem mk_neg (f : Nat) (neg : Bool) (e t : Nat) : mkN f neg e t = mkN f false e t + signN f neg := by unfold mkN; cases neg <;> simp [signN]
/-- The number by its sign and its other fields. -/
theorem of_sign (f a : Nat) (h : fitsB f a = true) (neg : Bool) : mkN f neg (expN f a) (a % 2 ^ (pF f - 1)) = cond (decide (neg = negN f a)) a (flipN f a) := by
  by_cases hn : neg = negN f a
  · rw [decide_eq_true hn, hn]; exact mkN_of f a h
  · rw [decide_eq_false hn]
    have : neg = !negN f a := by cases neg <;> cases hh : negN f a <;> simp_all
    unfold flipN; rw [h, this]; rfl
theorem fin_sign (f a : Nat) (h : fitsB f a = true) (hc : Fin0 f a) (neg : Bool) : encN f neg (sigN f a) (xpN f a) = mkN f neg (expN f a) (a % 2 ^ (pF f - 1)) := by
  have h1 := (can_of f a h hc).2
  have h2 := mkN_of f a h
  rw [enc_neg, mk_neg]
  rw [enc_neg] at h1
  unfold negN at h1
  rw [mk_neg] at h2
  omega
theorem cls_sort (f b : Nat) : 8 ≤ clsN f b ∨ (clsN f b = 0 ∨ clsN f b = 7) ∨ (clsN f b = 3 ∨ clsN f b = 4) ∨ Fin0 f b := by
  have := cls_le f b
  unfold Fin0; omega
theorem one_mk (f : Nat) (neg : Bool) (hf : f < 4) : oneN f neg = mkN f neg (eF f) 0 := by unfold oneN mkN; rw [decide_eq_true hf]; rfl
theorem one_parts (f : Nat) (neg : Bool) (hf : f < 4) : fitsB f (oneN f neg) = true ∧ clsN f (oneN f neg) = cond neg 1 6 ∧ sigN f (oneN f neg) = 2 ^ (pF f - 1) ∧ xpN f (oneN f neg) = 1 - (pF f : Int) := by
  rw [one_mk f neg hf]
  obtain ⟨h1, h2, h3, h4, h5, h6, h7, h8⟩ := formK f hf
  obtain ⟨m1, m2, m3, m4⟩ := mkN_fields f hf neg (eF f) 0 (two_pos _) (by omega)
  rcases cls_cases f (mkN f neg (eF f) 0) with ⟨e1, e2, e3⟩ | ⟨e1, e2, e3⟩ | ⟨e1, e2, e3⟩ | ⟨e1, e2, e3⟩ | ⟨e1, e2, e3⟩
  · omega
  · omega
  · omega
  · omega
  · have hn : negN f (mkN f neg (eF f) 0) = neg := m3
    rw [hn] at e3
    have c1 : clsN f (mkN f neg (eF f) 0) = 1 ∨ clsN f (mkN f neg (eF f) 0) = 6 := by rw [e3]; cases neg <;> decide
    refine ⟨m4, e3, ?_, ?_⟩
    · unfold sigN; rw [if_pos c1, m1, Nat.zero_add]
    · unfold xpN; rw [if_pos c1, m2]; omega
theorem bne_false (b : Bool) : (b != false) = b := by cases b <;> rfl
/-- Times 1, times -1. -/
theorem mul_one (f m a : Nat) (neg : Bool) (hf : f < 4) (h : fitsB f a = true) (h8 : ¬ 8 ≤ clsN f a) : mulR f m a (oneN f neg) = (cond neg (flipN f a) a, 0) := by
  obtain ⟨o1, o2, o3, o4⟩ := one_parts f neg hf
  have ho : belowN4 (clsN f (oneN f neg)) = neg := by rw [o2]; cases neg <;> rfl
  have hon : nanB (clsN f (oneN f neg)) = false ∧ infB (clsN f (oneN f neg)) = false ∧ zerB (clsN f (oneN f neg)) = false := by rw [o2]; cases neg <;> exact ⟨rfl, rfl, rfl⟩
  have hbn := below_neg f a h8
  have hbody : ∀ s : Bool, mkN f s (expN f a) (a % 2 ^ (pF f - 1)) = cond (decide (s = negN f a)) a (flipN f a) := of_sign f a h
  have hpick : mkN f (negN f a != neg) (expN f a) (a % 2 ^ (pF f - 1)) = cond neg (flipN f a) a := by
    rw [hbody]; cases neg <;> cases negN f a <;> rfl
  unfold mulR
  rw [hon.1, hon.2.1, hon.2.2, ho, hbn]
  rcases cls_sort f a with c | c | c | c
  · exact absurd c h8
  · have e1 : nanB (clsN f a) = false := by rcases c with c | c <;> rw [c] <;> rfl
    have e2 : infB (clsN f a) = true := by rcases c with c | c <;> rw [c] <;> rfl
    have e3 : zerB (clsN f a) = false := by rcases c with c | c <;> rw [c] <;> rfl
    rw [e1, e2, e3]
    simp only [Bool.or_self, Bool.false_eq_true, if_false, Bool.and_false, Bool.or_false, if_true]
    rw [infN_mk f _ hf]
    have hx : expN f a = 2 * eF f + 1 ∧ a % 2 ^ (pF f - 1) = 0 := by
      rcases cls_cases f a with ⟨e1, e2, e3⟩ | ⟨e1, e2, e3⟩ | ⟨e1, e2, e3⟩ | ⟨e1, e2, e3⟩ | ⟨e1, e2, e3⟩
      · exact ⟨e1, e2⟩
      · exfalso; rw [e3] at c; revert c; cases (a % 2 ^ (pF f - 1)).testBit (pF f - 2) <;> decide
      · exfalso; rw [e3] at c; revert c; cases negN f a <;> decide
      · exfalso; rw [e3] at c; revert c; cases negN f a <;> decide
      · exfalso; rw [e3] at c; revert c; cases negN f a <;> decide
    rw [← hpick, hx.1, hx.2]
  · have e1 : nanB (clsN f a) = false := by rcases c with c | c <;> rw [c] <;> rfl
    have e2 : infB (clsN f a) = false := by rcases c with c | c <;> rw [c] <;> rfl
    have e3 : zerB (clsN f a) = true := by rcases c with c | c <;> rw [c] <;> rfl
    rw [e1, e2, e3]
    simp only [Bool.or_self, Bool.false_eq_true, if_false, Bool.and_true, Bool.or_false, Bool.and_self, if_true]
    rw [zeroN_mk f _ hf]
    have hx : expN f a = 0 ∧ a % 2 ^ (pF f - 1) = 0 := by
      rcases cls_cases f a with ⟨e1, e2, e3⟩ | ⟨e1, e2, e3⟩ | ⟨e1, e2, e3⟩ | ⟨e1, e2, e3⟩ | ⟨e1, e2, e3⟩
      · exfalso; rw [e3] at c; revert c; cases negN f a <;> decide
      · exfalso; rw [e3] at c; revert c; cases (a % 2 ^ (pF f - 1)).testBit (pF f - 2) <;> decide
      · exact ⟨e1, e2⟩
      · exfalso; rw [e3] at c; revert c; cases negN f a <;> decide
      · exfalso; rw [e3] at c; revert c; cases negN f a <;> decide
    rw [← hpick, hx.1, hx.2]
  · have e1 : nanB (clsN f a) = false := by rcases c with c | c | c | c <;> rw [c] <;> rfl
    have e2 : infB (clsN f a) = false := by rcases c with c | c | c | c <;> rw [c] <;> rfl
    have e3 : zerB (clsN f a) = false := by rcases c with c | c | c | c <;> rw [c] <;> rfl
    rw [e1, e2, e3]
    simp only [Bool.or_self, Bool.false_eq_true, if_false, Bool.and_self]
    obtain ⟨hc, -⟩ := can_of f a h c
    rw [o3, o4]
    have h7 := (formK f hf).2.2.2.2.2.2.1
    rw [pack_exact f m (sigN f a) _ (xpN f a) _ _ hf hc (Or.inl ⟨by omega, by rw [show (xpN f a - (xpN f a + (1 - (pF f : Int)))).toNat = pF f - 1 by omega]⟩)]
    rw [fin_sign f a h c, hpick]
open Go.RowKit
theorem int_eq_false (c k : Nat) (h : c ≠ k) : (((c : Nat) : Int) == ((k : Nat) : Int)) = false := by rw [beq_eq_false_iff_ne]; omega
theorem int_eq_dec (c k : Nat) : (((c : Nat) : Int) == ((k : Nat) : Int)) = decide (c = k) := by rw [Bool.eq_iff_iff, beq_iff_eq, decide_eq_true_iff]; omega
theorem int_eq_true (c k : Nat) (h : c = k) : (((c : Nat) : Int) == ((k : Nat) : Int)) = true := by rw [h, beq_self_eq_true]
theorem mul_nan (c s f : Nat) (x : Int) (w : World) :
    Calls Tryd.prog 56 #[PV c s x f] w fun e w' => e = .returned (.bool (nanB c)) ∧ Below w.heap.size w w' := by
  have H := Own.start w
  go_enter Tryd.func56, Tryd.ntmps56
  exact walk7
theorem mul_below (c s f : Nat) (x : Int) (w : World) :
    Calls Tryd.prog 55 #[PV c s x f] w fun e w' => e = .returned (.bool (belowN4 c)) ∧ Below w.heap.size w w' := by
  have H := Own.start w
  go_enter Tryd.func55, Tryd.ntmps55
  exact walk7
theorem mul_inf_t (c s f : Nat) (x : Int) (w : World) (hc : c = 0) :
    Calls Tryd.prog 58 #[PV c s x f] w fun e w' => e = .returned (.bool (infB c)) ∧ Below w.heap.size w w' := by
  have H := Own.start w
  have e1 : ((c : Int) == 0) = true := int_eq_true c 0 hc
  have HR := Lib.hid (show true = infB c by rw [hc]; rfl)
  clear hc
  go_enter Tryd.func58, Tryd.ntmps58
  exact walk7
theorem mul_inf_f (c s f : Nat) (x : Int) (w : World) (hc : c ≠ 0) :
    Calls Tryd.prog 58 #[PV c s x f] w fun e w' => e = .returned (.bool (infB c)) ∧ Below w.heap.size w w' := by
  have H := Own.start w
  have e1 : ((c : Int) == 0) = false := int_eq_false c 0 hc
  have HR := Lib.hid (show ∀ b : Bool, b = decide (c = 7) → b = infB c by intro b hb; unfold infB; rw [decide_eq_false hc]; exact hb)
  clear hc
  go_enter Tryd.func58, Tryd.ntmps58
  exact walk7
theorem mul_inf (c s f : Nat) (x : Int) (w : World) :
    Calls Tryd.prog 58 #[PV c s x f] w fun e w' => e = .returned (.bool (infB c)) ∧ Below w.heap.size w w' := by
  by_cases hc : c = 0
  · exact mul_inf_t c s f x w hc
  · exact mul_inf_f c s f x w hc
theorem mul_nought_t (c s f : Nat) (x : Int) (w : World) (hc : c = 3) :
    Calls Tryd.prog 59 #[PV c s x f] w fun e w' => e = .returned (.bool (zerB c)) ∧ Below w.heap.size w w' := by
  have H := Own.start w
  have e1 : ((c : Int) == 3) = true := int_eq_true c 3 hc
  have HR := Lib.hid (show true = zerB c by rw [hc]; rfl)
  clear hc
  go_enter Tryd.func59, Tryd.ntmps59
  exact walk7
theorem mul_nought_f (c s f : Nat) (x : Int) (w : World) (hc : c ≠ 3) :
    Calls Tryd.prog 59 #[PV c s x f] w fun e w' => e = .returned (.bool (zerB c)) ∧ Below w.heap.size w w' := by
  have H := Own.start w
  have e1 : ((c : Int) == 3) = false := int_eq_false c 3 hc
  have HR := Lib.hid (show ∀ b : Bool, b = decide (c = 4) → b = zerB c by intro b hb; unfold zerB; rw [decide_eq_false hc]; exact hb)
  clear hc
  go_enter Tryd.func59, Tryd.ntmps59
  exact walk7
theorem mul_nought (c s f : Nat) (x : Int) (w : World) :
    Calls Tryd.prog 59 #[PV c s x f] w fun e w' => e = .returned (.bool (zerB c)) ∧ Below w.heap.size w w' := by
  by_cases hc : c = 3
  · exact mul_nought_t c s f x w hc
  · exact mul_nought_f c s f x w hc
theorem add_nan (c s f : Nat) (x : Int) (w : World) :
    Calls Tryd.prog 29 #[PV c s x f] w fun e w' => e = .returned (.bool (nanB c)) ∧ Below w.heap.size w w' := by
  have H := Own.start w
  go_enter Tryd.func29, Tryd.ntmps29
  exact walk7
theorem add_below (c s f : Nat) (x : Int) (w : World) :
    Calls Tryd.prog 35 #[PV c s x f] w fun e w' => e = .returned (.bool (belowN4 c)) ∧ Below w.heap.size w w' := by
  have H := Own.start w
  go_enter Tryd.func35, Tryd.ntmps35
  exact walk7
theorem add_inf_t (c s f : Nat) (x : Int) (w : World) (hc : c = 0) :
    Calls Tryd.prog 31 #[PV c s x f] w fun e w' => e = .returned (.bool (infB c)) ∧ Below w.heap.size w w' := by
  have H := Own.start w
  have e1 : ((c : Int) == 0) = true := int_eq_true c 0 hc
  have HR := Lib.hid (show true = infB c by rw [hc]; rfl)
  clear hc
  go_enter Tryd.func31, Tryd.ntmps31
  exact walk7
theorem add_inf_f (c s f : Nat) (x : Int) (w : World) (hc : c ≠ 0) :
    Calls Tryd.prog 31 #[PV c s x f] w fun e w' => e = .returned (.bool (infB c)) ∧ Below w.heap.size w w' := by
  have H := Own.start w
  have e1 : ((c : Int) == 0) = false := int_eq_false c 0 hc
  have HR := Lib.hid (show ∀ b : Bool, b = decide (c = 7) → b = infB c by intro b hb; unfold infB; rw [decide_eq_false hc]; exact hb)
  clear hc
  go_enter Tryd.func31, Tryd.ntmps31
  exact walk7
theorem add_inf (c s f : Nat) (x : Int) (w : World) :
    Calls Tryd.prog 31 #[PV c s x f] w fun e w' => e = .returned (.bool (infB c)) ∧ Below w.heap.size w w' := by
  by_cases hc : c = 0
  · exact add_inf_t c s f x w hc
  · exact add_inf_f c s f x w hc
theorem add_nought_t (c s f : Nat) (x : Int) (w : World) (hc : c = 3) :
    Calls Tryd.prog 32 #[PV c s x f] w fun e w' => e = .returned (.bool (zerB c)) ∧ Below w.heap.size w w' := by
  have H := Own.start w
  have e1 : ((c : Int) == 3) = true := int_eq_true c 3 hc
  have HR := Lib.hid (show true = zerB c by rw [hc]; rfl)
  clear hc
  go_enter Tryd.func32, Tryd.ntmps32
  exact walk7
theorem add_nought_f (c s f : Nat) (x : Int) (w : World) (hc : c ≠ 3) :
    Calls Tryd.prog 32 #[PV c s x f] w fun e w' => e = .returned (.bool (zerB c)) ∧ Below w.heap.size w w' := by
  have H := Own.start w
  have e1 : ((c : Int) == 3) = false := int_eq_false c 3 hc
  have HR := Lib.hid (show ∀ b : Bool, b = decide (c = 4) → b = zerB c by intro b hb; unfold zerB; rw [decide_eq_false hc]; exact hb)
  clear hc
  go_enter Tryd.func32, Tryd.ntmps32
  exact walk7
theorem add_nought (c s f : Nat) (x : Int) (w : World) :
    Calls Tryd.prog 32 #[PV c s x f] w fun e w' => e = .returned (.bool (zerB c)) ∧ Below w.heap.size w w' := by
  by_cases hc : c = 3
  · exact add_nought_t c s f x w hc
  · exact add_nought_f c s f x w hc
theorem fma_nan (c s f : Nat) (x : Int) (w : World) :
    Calls Tryd.prog 48 #[PV c s x f] w fun e w' => e = .returned (.bool (nanB c)) ∧ Below w.heap.size w w' := by
  have H := Own.start w
  go_enter Tryd.func48, Tryd.ntmps48
  exact walk7
theorem fma_below (c s f : Nat) (x : Int) (w : World) :
    Calls Tryd.prog 45 #[PV c s x f] w fun e w' => e = .returned (.bool (belowN4 c)) ∧ Below w.heap.size w w' := by
  have H := Own.start w
  go_enter Tryd.func45, Tryd.ntmps45
  exact walk7
theorem fma_inf_t (c s f : Nat) (x : Int) (w : World) (hc : c = 0) :
    Calls Tryd.prog 47 #[PV c s x f] w fun e w' => e = .returned (.bool (infB c)) ∧ Below w.heap.size w w' := by
  have H := Own.start w
  have e1 : ((c : Int) == 0) = true := int_eq_true c 0 hc
  have HR := Lib.hid (show true = infB c by rw [hc]; rfl)
  clear hc
  go_enter Tryd.func47, Tryd.ntmps47
  exact walk7
theorem fma_inf_f (c s f : Nat) (x : Int) (w : World) (hc : c ≠ 0) :
    Calls Tryd.prog 47 #[PV c s x f] w fun e w' => e = .returned (.bool (infB c)) ∧ Below w.heap.size w w' := by
  have H := Own.start w
  have e1 : ((c : Int) == 0) = false := int_eq_false c 0 hc
  have HR := Lib.hid (show ∀ b : Bool, b = decide (c = 7) → b = infB c by intro b hb; unfold infB; rw [decide_eq_false hc]; exact hb)
  clear hc
  go_enter Tryd.func47, Tryd.ntmps47
  exact walk7
theorem fma_inf (c s f : Nat) (x : Int) (w : World) :
    Calls Tryd.prog 47 #[PV c s x f] w fun e w' => e = .returned (.bool (infB c)) ∧ Below w.heap.size w w' := by
  by_cases hc : c = 0
  · exact fma_inf_t c s f x w hc
  · exact fma_inf_f c s f x w hc
theorem fma_nought_t (c s f : Nat) (x : Int) (w : World) (hc : c = 3) :
    Calls Tryd.prog 46 #[PV c s x f] w fun e w' => e = .returned (.bool (zerB c)) ∧ Below w.heap.size w w' := by
  have H := Own.start w
  have e1 : ((c : Int) == 3) = true := int_eq_true c 3 hc
  have HR := Lib.hid (show true = zerB c by rw [hc]; rfl)
  clear hc
  go_enter Tryd.func46, Tryd.ntmps46
  exact walk7
theorem fma_nought_f (c s f : Nat) (x : Int) (w : World) (hc : c ≠ 3) :
    Calls Tryd.prog 46 #[PV c s x f] w fun e w' => e = .returned (.bool (zerB c)) ∧ Below w.heap.size w w' := by
  have H := Own.start w
  have e1 : ((c : Int) == 3) = false := int_eq_false c 3 hc
  have HR := Lib.hid (show ∀ b : Bool, b = decide (c = 4) → b = zerB c by intro b hb; unfold zerB; rw [decide_eq_false hc]; exact hb)
  clear hc
  go_enter Tryd.func46, Tryd.ntmps46
  exact walk7
theorem fma_nought (c s f : Nat) (x : Int) (w : World) :
    Calls Tryd.prog 46 #[PV c s x f] w fun e w' => e = .returned (.bool (zerB c)) ∧ Below w.heap.size w w' := by
  by_cases hc : c = 3
  · exact fma_nought_t c s f x w hc
  · exact fma_nought_f c s f x w hc
end Go.Proofs.YtbngedcblngnhaaDoor
