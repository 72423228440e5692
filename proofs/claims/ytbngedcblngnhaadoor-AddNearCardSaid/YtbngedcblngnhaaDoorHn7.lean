/- AddNear: for every input the law returns true, and each argument reads behind the call as it read before; the listed table is tied to the program's text. -/
import Derived.Test.YtbngedcblngnhaaDoorRows
import Derived.Test.YtbngedcblngnhaaDoorTie
import Derived.Test.YtbngedcblngnhaaDoorCards
import Derived.WalkKit
import Derived.ProofKit
import Derived.LaidMore
import Derived.OpenShut
import Derived.Stop.Joined
import Derived.SevenTiedAt
import Derived.Lib.SmallJoins
import Derived.ChangeOld
import Derived.Below
import Derived.Carry
import Derived.Test.YtbngedcblngnhaaDoorHn0
import Derived.Test.YtbngedcblngnhaaDoorHn1
import Derived.Test.YtbngedcblngnhaaDoorHn2
import Derived.Test.YtbngedcblngnhaaDoorHn3
import Derived.Test.YtbngedcblngnhaaDoorHn5
import Derived.Test.YtbngedcblngnhaaDoorHn6
set_option linter.unusedSimpArgs false
set_option linter.unusedVariables false
set_option linter.unnecessarySimpa false
set_option maxRecDepth 100000
set_option maxHeartbeats 1600000
namespace Go.Proofs.YtbngedcblngnhaaDoor
open Go.RowKit
theorem r7Width_0 (w : World) :
    Calls Tryd.prog 83 #[.int .u8 0] w fun e w' => e = .returned (.int .i64 32) ∧ Below w.heap.size w w' := by
  have H := Own.start w
  go_enter Tryd.func83, Tryd.ntmps83
  exact walk5
theorem r7Width_1 (w : World) :
    Calls Tryd.prog 83 #[.int .u8 1] w fun e w' => e = .returned (.int .i64 64) ∧ Below w.heap.size w w' := by
  have H := Own.start w
  go_enter Tryd.func83, Tryd.ntmps83
  exact walk5
theorem r7Width_2 (w : World) :
    Calls Tryd.prog 83 #[.int .u8 2] w fun e w' => e = .returned (.int .i64 16) ∧ Below w.heap.size w w' := by
  have H := Own.start w
  go_enter Tryd.func83, Tryd.ntmps83
  exact walk5
theorem r7Width_3 (w : World) :
    Calls Tryd.prog 83 #[.int .u8 3] w fun e w' => e = .returned (.int .i64 128) ∧ Below w.heap.size w w' := by
  have H := Own.start w
  go_enter Tryd.func83, Tryd.ntmps83
  exact walk5
theorem r7Width_o (f : Nat) (w : World) (h2 : ((f : Int) == 2) = false) (h0 : ((f : Int) == 0) = false) (h1 : ((f : Int) == 1) = false) (h3 : ((f : Int) == 3) = false) :
    Calls Tryd.prog 83 #[.int .u8 f] w fun e w' => e = .returned (.int .i64 0) ∧ Below w.heap.size w w' := by
  have H := Own.start w
  go_enter Tryd.func83, Tryd.ntmps83
  exact walk5
theorem r7Width_any (f : Nat) (w : World) : Calls Tryd.prog 83 #[.int .u8 f] w fun e w' => e = .returned (.int .i64 (wF f : Nat)) ∧ Below w.heap.size w w' := by
  rcases forms f with rfl | rfl | rfl | rfl | h
  · exact r7Width_0 w
  · exact r7Width_1 w
  · exact r7Width_2 w
  · exact r7Width_3 w
  · have := r7Width_o f w (int_eq_false f 2 (by omega)) (int_eq_false f 0 (by omega)) (int_eq_false f 1 (by omega)) (int_eq_false f 3 (by omega))
    rw [show wF f = 0 by have := wF_big f h; simp [this]]
    exact this
theorem r7Precision_0 (w : World) :
    Calls Tryd.prog 65 #[.int .u8 0] w fun e w' => e = .returned (.int .i64 24) ∧ Below w.heap.size w w' := by
  have H := Own.start w
  go_enter Tryd.func65, Tryd.ntmps65
  exact walk5
theorem r7Precision_1 (w : World) :
    Calls Tryd.prog 65 #[.int .u8 1] w fun e w' => e = .returned (.int .i64 53) ∧ Below w.heap.size w w' := by
  have H := Own.start w
  go_enter Tryd.func65, Tryd.ntmps65
  exact walk5
theorem r7Precision_2 (w : World) :
    Calls Tryd.prog 65 #[.int .u8 2] w fun e w' => e = .returned (.int .i64 11) ∧ Below w.heap.size w w' := by
  have H := Own.start w
  go_enter Tryd.func65, Tryd.ntmps65
  exact walk5
theorem r7Precision_3 (w : World) :
    Calls Tryd.prog 65 #[.int .u8 3] w fun e w' => e = .returned (.int .i64 113) ∧ Below w.heap.size w w' := by
  have H := Own.start w
  go_enter Tryd.func65, Tryd.ntmps65
  exact walk5
theorem r7Precision_o (f : Nat) (w : World) (h2 : ((f : Int) == 2) = false) (h0 : ((f : Int) == 0) = false) (h1 : ((f : Int) == 1) = false) (h3 : ((f : Int) == 3) = false) :
    Calls Tryd.prog 65 #[.int .u8 f] w fun e w' => e = .returned (.int .i64 0) ∧ Below w.heap.size w w' := by
  have H := Own.start w
  go_enter Tryd.func65, Tryd.ntmps65
  exact walk5
theorem r7Precision_any (f : Nat) (w : World) : Calls Tryd.prog 65 #[.int .u8 f] w fun e w' => e = .returned (.int .i64 (pF f : Nat)) ∧ Below w.heap.size w w' := by
  rcases forms f with rfl | rfl | rfl | rfl | h
  · exact r7Precision_0 w
  · exact r7Precision_1 w
  · exact r7Precision_2 w
  · exact r7Precision_3 w
  · have := r7Precision_o f w (int_eq_false f 2 (by omega)) (int_eq_false f 0 (by omega)) (int_eq_false f 1 (by omega)) (int_eq_false f 3 (by omega))
    rw [show pF f = 0 by have := wF_big f h; simp [this]]
    exact this
theorem r7Emax_0 (w : World) :
    Calls Tryd.prog 87 #[.int .u8 0] w fun e w' => e = .returned (.int .i64 127) ∧ Below w.heap.size w w' := by
  have H := Own.start w
  go_enter Tryd.func87, Tryd.ntmps87
  exact walk5
theorem r7Emax_1 (w : World) :
    Calls Tryd.prog 87 #[.int .u8 1] w fun e w' => e = .returned (.int .i64 1023) ∧ Below w.heap.size w w' := by
  have H := Own.start w
  go_enter Tryd.func87, Tryd.ntmps87
  exact walk5
theorem r7Emax_2 (w : World) :
    Calls Tryd.prog 87 #[.int .u8 2] w fun e w' => e = .returned (.int .i64 15) ∧ Below w.heap.size w w' := by
  have H := Own.start w
  go_enter Tryd.func87, Tryd.ntmps87
  exact walk5
theorem r7Emax_3 (w : World) :
    Calls Tryd.prog 87 #[.int .u8 3] w fun e w' => e = .returned (.int .i64 16383) ∧ Below w.heap.size w w' := by
  have H := Own.start w
  go_enter Tryd.func87, Tryd.ntmps87
  exact walk5
theorem r7Emax_o (f : Nat) (w : World) (h2 : ((f : Int) == 2) = false) (h0 : ((f : Int) == 0) = false) (h1 : ((f : Int) == 1) = false) (h3 : ((f : Int) == 3) = false) :
    Calls Tryd.prog 87 #[.int .u8 f] w fun e w' => e = .returned (.int .i64 0) ∧ Below w.heap.size w w' := by
  have H := Own.start w
  go_enter Tryd.func87, Tryd.ntmps87
  exact walk5
theorem r7Emax_any (f : Nat) (w : World) : Calls Tryd.prog 87 #[.int .u8 f] w fun e w' => e = .returned (.int .i64 (eF f : Nat)) ∧ Below w.heap.size w w' := by
  rcases forms f with rfl | rfl | rfl | rfl | h
  · exact r7Emax_0 w
  · exact r7Emax_1 w
  · exact r7Emax_2 w
  · exact r7Emax_3 w
  · have := r7Emax_o f w (int_eq_false f 2 (by omega)) (int_eq_false f 0 (by omega)) (int_eq_false f 1 (by omega)) (int_eq_false f 3 (by omega))
    rw [show eF f = 0 by have := wF_big f h; simp [this]]
    exact this
theorem r7Ones_any (f : Nat) (w : World) :
    Calls Tryd.prog 63 #[.int .u8 f] w fun e w' => e = .returned (.int .i64 (2 * eF f + 1 : Nat)) ∧ Below w.heap.size w w' := by
  have H := Own.start w
  have he := eF_le f
  have HR := Lib.hid (show (2 * (eF f : Int) + 1) = ((2 * eF f + 1 : Nat) : Int) by omega)
  go_enter Tryd.func63, Tryd.ntmps63
  exact walk5
open Go.RowKit
theorem results_ttc {P : Program} {w : World} {fn : Func} {tmps : Array Value} {s t u : Tmp} {T : TypeId} (h : fn.results = #[.tmp s, .tmp u, .cell t T]) {A : Addr} (ha : tmps.getD t undef = .pointer (some A)) {v : Value} (hr : (loadVar T A).run P w = .ok v w) :
    (results fn tmps).run P w = .ok (.tuple #[tmps.getD s undef, tmps.getD u undef, v]) w := by
  rw [Array.getD_eq_getD_getElem?] at ha
  simp [results, h, ha, asAddr, hr]
theorem exp_ones (y d : Nat) (hd : d ≤ 15) : Go.bits .and .i64 (IntKind.i64.wrap (limb y 0)) ((2 ^ d - 1 : Nat) : Int) = ((y % 2 ^ d : Nat) : Int) := by
  have h := field_exp y d hd
  have y1 : 2 ^ d ≤ 2 ^ 15 := Nat.pow_le_pow_right (by decide) hd
  have e : IntKind.i64.wrap (IntKind.i64.wrap ((2 : Int) ^ d) - 1) = ((2 ^ d - 1 : Nat) : Int) := by
    have y0 := Nat.two_pow_pos d
    rw [show (2 : Int) ^ d = ((2 ^ d : Nat) : Int) by simp, IntKind.wrap_i64, IntKind.wrap_i64]
    generalize 2 ^ d = y at *
    omega
  rw [e] at h; exact h
set_option maxHeartbeats 6400000 in
theorem r7Fields_w (f b q r p n o y m t : Nat) (tb lo : Bool) (w : World) (hq : IntKind.i64.wrap ((p : Int) - 1) = (q : Int)) (hr : IntKind.i64.wrap ((n : Int) - 1) = (r : Int)) (cF : ∀ w, Calls Tryd.prog 82 #[BV b] w fun e w' => e = .returned (W b) ∧ Below w.heap.size w w') (cW : ∀ w, Calls Tryd.prog 83 #[.int .u8 f] w fun e w' => e = .returned (.int .i64 (n : Nat)) ∧ Below w.heap.size w w') (cP : ∀ w, Calls Tryd.prog 65 #[.int .u8 f] w fun e w' => e = .returned (.int .i64 (p : Nat)) ∧ Below w.heap.size w w') (cB : ∀ w, Calls Tryd.prog 64 #[W b, .int .i64 (r : Nat)] w fun e w' => e = .returned (.bool tb) ∧ Below w.heap.size w w') (cM : ∀ w, Calls Tryd.prog 85 #[.int .i64 (q : Nat)] w fun e w' => e = .returned (W m) ∧ Below w.heap.size w w') (cA : ∀ w, Calls Tryd.prog 84 #[W b, W m] w fun e w' => e = .returned (W t) ∧ Below w.heap.size w w') (cR : ∀ w, Calls Tryd.prog 86 #[W b, .int .i64 (q : Nat)] w fun e w' => e = .returned (.tuple #[W y, .bool lo]) ∧ Below w.heap.size w w') (cO : ∀ w, Calls Tryd.prog 63 #[.int .u8 f] w fun e w' => e = .returned (.int .i64 (o : Nat)) ∧ Below w.heap.size w w') :
    Calls Tryd.prog 62 #[.int .u8 f, BV b] w fun e w' => e = .returned (.tuple #[.bool tb, .int .i64 (Go.bits .and .i64 (IntKind.i64.wrap (limb y 0)) (o : Nat)), W t]) ∧ Below w.heap.size w w' := by
  have H := Own.start w
  go_enter Tryd.func62, Tryd.ntmps62
  go_wp2_with (first
    | ((with_reducible show wpList _ _ _ (⟨_, .box _ _, _, _, _, _⟩ :: _) _ _); refine H.xb ?_; (intro g w H; simp only [Act.put, q1_, q2_, q3_]))
    | ((with_reducible show wpList _ _ _ (⟨_, .alloc _, _, _, _, _⟩ :: _) _ _); refine H.xa ?_; (intro g w H; simp only [Act.put, q1_, q2_, q3_]))
    | ((with_reducible show wpList _ _ _ (⟨_, .load _ _, _, _, _, _⟩ :: _) _ _); (first | refine H.xl ?_ | refine H.xm ?_); simp only [Act.put, q1_, q2_, q3_])
    | ((with_reducible show wpList _ _ _ (⟨_, .store _ _ _, _, _, _, _⟩ :: _) _ _); (first | refine H.xs ?_ | refine H.xt ?_); (intro w H; simp only [Act.put]))
    | ((with_reducible show Code.wp _ (.region 2 _ true) _ _ _); refine H.heldSub rfl (List.Sublist.refl _) ?_; intro H; (first | refine H.zl 0 ?_ | refine H.zm 0 ?_); (try simp only [Act.put, q1_, q2_, q3_]); (try simp only [q4_, q5_, q6_]); refine H.zr 1 ?_; (try simp only [Act.put, q1_, q2_, q3_]); (try simp only [q4_, q5_, q6_]); refine held1 2 ?_; unfold Oper.wp; go_simp; (first | (go_at_call 82; ((with_reducible refine (cF _).mono ?_); rintro e w ⟨rfl, hb⟩; replace H := H.call hb; clear hb)) | (go_at_call 83; ((with_reducible refine (cW _).mono ?_); rintro e w ⟨rfl, hb⟩; replace H := H.call hb; clear hb)) | (go_at_call 65; ((with_reducible refine (cP _).mono ?_); rintro e w ⟨rfl, hb⟩; replace H := H.call hb; clear hb)) | (go_at_call 64; ((with_reducible refine (cB _).mono ?_); rintro e w ⟨rfl, hb⟩; replace H := H.call hb; clear hb)) | (go_at_call 85; ((with_reducible refine (cM _).mono ?_); rintro e w ⟨rfl, hb⟩; replace H := H.call hb; clear hb)) | (go_at_call 84; ((with_reducible refine (cA _).mono ?_); rintro e w ⟨rfl, hb⟩; replace H := H.call hb; clear hb)) | (go_at_call 86; ((with_reducible refine (cR _).mono ?_); rintro e w ⟨rfl, hb⟩; replace H := H.call hb; clear hb)) | (go_at_call 63; ((with_reducible refine (cO _).mono ?_); rintro e w ⟨rfl, hb⟩; replace H := H.call hb; clear hb))); refine H.nx ?_; (try simp only [Act.put, q1_, q2_, q3_]); (try simp only [q4_, q5_, q6_]); refine H.zr 3 ?_; (try simp only [Act.put, q1_, q2_, q3_]); (try simp only [q4_, q5_, q6_]); refine held1 4 ?_; unfold Oper.wp; go_simp; (first | (go_at_call 82; ((with_reducible refine (cF _).mono ?_); rintro e w ⟨rfl, hb⟩; replace H := H.call hb; clear hb)) | (go_at_call 83; ((with_reducible refine (cW _).mono ?_); rintro e w ⟨rfl, hb⟩; replace H := H.call hb; clear hb)) | (go_at_call 65; ((with_reducible refine (cP _).mono ?_); rintro e w ⟨rfl, hb⟩; replace H := H.call hb; clear hb)) | (go_at_call 64; ((with_reducible refine (cB _).mono ?_); rintro e w ⟨rfl, hb⟩; replace H := H.call hb; clear hb)) | (go_at_call 85; ((with_reducible refine (cM _).mono ?_); rintro e w ⟨rfl, hb⟩; replace H := H.call hb; clear hb)) | (go_at_call 84; ((with_reducible refine (cA _).mono ?_); rintro e w ⟨rfl, hb⟩; replace H := H.call hb; clear hb)) | (go_at_call 86; ((with_reducible refine (cR _).mono ?_); rintro e w ⟨rfl, hb⟩; replace H := H.call hb; clear hb)) | (go_at_call 63; ((with_reducible refine (cO _).mono ?_); rintro e w ⟨rfl, hb⟩; replace H := H.call hb; clear hb))); refine H.nx ?_; (try simp only [Act.put, q1_, q2_, q3_]); (try simp only [q4_, q5_, q6_]); refine H.zr 5 ?_; (try simp only [Act.put, q1_, q2_, q3_]); (try simp only [q4_, q5_, q6_]); refine wpAnyH_done (by kernel_rfl) ?_ _)
    | ((with_reducible show Code.wp _ (.region 3 _ true) _ _ _); apply H.join1; refine H.heldSub rfl (List.Sublist.refl _) ?_; intro H; (first | refine H.zl 0 ?_ | refine H.zm 0 ?_); (try simp only [Act.put, q1_, q2_, q3_]); (try simp only [q4_, q5_, q6_]); refine H.zr 1 ?_; (try simp only [Act.put, q1_, q2_, q3_]); (try simp only [q4_, q5_, q6_]); refine held2 2 6 ?_ ?_; (unfold Oper.wp; go_simp; (first | (go_at_call 82; ((with_reducible refine (cF _).mono ?_); rintro e w ⟨rfl, hb⟩; replace H := H.call hb; clear hb)) | (go_at_call 83; ((with_reducible refine (cW _).mono ?_); rintro e w ⟨rfl, hb⟩; replace H := H.call hb; clear hb)) | (go_at_call 65; ((with_reducible refine (cP _).mono ?_); rintro e w ⟨rfl, hb⟩; replace H := H.call hb; clear hb)) | (go_at_call 64; ((with_reducible refine (cB _).mono ?_); rintro e w ⟨rfl, hb⟩; replace H := H.call hb; clear hb)) | (go_at_call 85; ((with_reducible refine (cM _).mono ?_); rintro e w ⟨rfl, hb⟩; replace H := H.call hb; clear hb)) | (go_at_call 84; ((with_reducible refine (cA _).mono ?_); rintro e w ⟨rfl, hb⟩; replace H := H.call hb; clear hb)) | (go_at_call 86; ((with_reducible refine (cR _).mono ?_); rintro e w ⟨rfl, hb⟩; replace H := H.call hb; clear hb)) | (go_at_call 63; ((with_reducible refine (cO _).mono ?_); rintro e w ⟨rfl, hb⟩; replace H := H.call hb; clear hb))); refine H.nx ?_; (try simp only [Act.put, q1_, q2_, q3_]); (try simp only [q4_, q5_, q6_]); refine H.zr 3 ?_; (try simp only [Act.put, q1_, q2_, q3_]); (try simp only [q4_, q5_, q6_]); refine held2 4 6 ?_ ?_; (unfold Oper.wp; go_simp; (first | (go_at_call 82; ((with_reducible refine (cF _).mono ?_); rintro e w ⟨rfl, hb⟩; replace H := H.call hb; clear hb)) | (go_at_call 83; ((with_reducible refine (cW _).mono ?_); rintro e w ⟨rfl, hb⟩; replace H := H.call hb; clear hb)) | (go_at_call 65; ((with_reducible refine (cP _).mono ?_); rintro e w ⟨rfl, hb⟩; replace H := H.call hb; clear hb)) | (go_at_call 64; ((with_reducible refine (cB _).mono ?_); rintro e w ⟨rfl, hb⟩; replace H := H.call hb; clear hb)) | (go_at_call 85; ((with_reducible refine (cM _).mono ?_); rintro e w ⟨rfl, hb⟩; replace H := H.call hb; clear hb)) | (go_at_call 84; ((with_reducible refine (cA _).mono ?_); rintro e w ⟨rfl, hb⟩; replace H := H.call hb; clear hb)) | (go_at_call 86; ((with_reducible refine (cR _).mono ?_); rintro e w ⟨rfl, hb⟩; replace H := H.call hb; clear hb)) | (go_at_call 63; ((with_reducible refine (cO _).mono ?_); rintro e w ⟨rfl, hb⟩; replace H := H.call hb; clear hb))); refine H.nx ?_; (try simp only [Act.put, q1_, q2_, q3_]); (try simp only [q4_, q5_, q6_]); refine held2 5 6 ?_ ?_; (unfold Oper.wp; go_simp; (first | (go_at_call 82; ((with_reducible refine (cF _).mono ?_); rintro e w ⟨rfl, hb⟩; replace H := H.call hb; clear hb)) | (go_at_call 83; ((with_reducible refine (cW _).mono ?_); rintro e w ⟨rfl, hb⟩; replace H := H.call hb; clear hb)) | (go_at_call 65; ((with_reducible refine (cP _).mono ?_); rintro e w ⟨rfl, hb⟩; replace H := H.call hb; clear hb)) | (go_at_call 64; ((with_reducible refine (cB _).mono ?_); rintro e w ⟨rfl, hb⟩; replace H := H.call hb; clear hb)) | (go_at_call 85; ((with_reducible refine (cM _).mono ?_); rintro e w ⟨rfl, hb⟩; replace H := H.call hb; clear hb)) | (go_at_call 84; ((with_reducible refine (cA _).mono ?_); rintro e w ⟨rfl, hb⟩; replace H := H.call hb; clear hb)) | (go_at_call 86; ((with_reducible refine (cR _).mono ?_); rintro e w ⟨rfl, hb⟩; replace H := H.call hb; clear hb)) | (go_at_call 63; ((with_reducible refine (cO _).mono ?_); rintro e w ⟨rfl, hb⟩; replace H := H.call hb; clear hb))); refine H.nx ?_; (try simp only [Act.put, q1_, q2_, q3_]); (try simp only [q4_, q5_, q6_]); refine held1 6 ?_; refine H.ya ?_; intro g6 w H; refine H.nx ?_; (try simp only [Act.put, q1_, q2_, q3_]); (try simp only [q4_, q5_, q6_]); refine held1 7 ?_; (first | refine H.ys ?_ | refine H.yt ?_); intro w H; refine H.nx ?_; (try simp only [Act.put]); refine wpAnyH_done (by kernel_rfl) ?_ _; (first | exact ⟨rfl, g6, rfl, H⟩ | exact ⟨rfl, g6, rfl, (H.perm (List.Perm.swap _ _ _))⟩ | exact ⟨rfl, g6, rfl, (H.perm (List.Perm.cons _ (List.Perm.swap _ _ _)))⟩ | exact ⟨rfl, g6, rfl, (H.perm ((List.Perm.swap _ _ _).trans (List.Perm.cons _ (List.Perm.swap _ _ _))))⟩ | exact ⟨rfl, g6, rfl, (H.perm ((List.Perm.cons _ (List.Perm.swap _ _ _)).trans (List.Perm.swap _ _ _)))⟩ | exact ⟨rfl, g6, rfl, (H.perm (((List.Perm.swap _ _ _).trans (List.Perm.cons _ (List.Perm.swap _ _ _))).trans (List.Perm.swap _ _ _)))⟩)); (refine H.ya ?_; intro g6 w H; refine H.nx ?_; (try simp only [Act.put, q1_, q2_, q3_]); (try simp only [q4_, q5_, q6_]); refine held1 5 ?_; unfold Oper.wp; go_simp; (first | (go_at_call 82; ((with_reducible refine (cF _).mono ?_); rintro e w ⟨rfl, hb⟩; replace H := H.call hb; clear hb)) | (go_at_call 83; ((with_reducible refine (cW _).mono ?_); rintro e w ⟨rfl, hb⟩; replace H := H.call hb; clear hb)) | (go_at_call 65; ((with_reducible refine (cP _).mono ?_); rintro e w ⟨rfl, hb⟩; replace H := H.call hb; clear hb)) | (go_at_call 64; ((with_reducible refine (cB _).mono ?_); rintro e w ⟨rfl, hb⟩; replace H := H.call hb; clear hb)) | (go_at_call 85; ((with_reducible refine (cM _).mono ?_); rintro e w ⟨rfl, hb⟩; replace H := H.call hb; clear hb)) | (go_at_call 84; ((with_reducible refine (cA _).mono ?_); rintro e w ⟨rfl, hb⟩; replace H := H.call hb; clear hb)) | (go_at_call 86; ((with_reducible refine (cR _).mono ?_); rintro e w ⟨rfl, hb⟩; replace H := H.call hb; clear hb)) | (go_at_call 63; ((with_reducible refine (cO _).mono ?_); rintro e w ⟨rfl, hb⟩; replace H := H.call hb; clear hb))); refine H.nx ?_; (try simp only [Act.put, q1_, q2_, q3_]); (try simp only [q4_, q5_, q6_]); refine held1 7 ?_; (first | refine H.ys ?_ | refine H.yt ?_); intro w H; refine H.nx ?_; (try simp only [Act.put]); refine wpAnyH_done (by kernel_rfl) ?_ _; (first | exact ⟨rfl, g6, rfl, H⟩ | exact ⟨rfl, g6, rfl, (H.perm (List.Perm.swap _ _ _))⟩ | exact ⟨rfl, g6, rfl, (H.perm (List.Perm.cons _ (List.Perm.swap _ _ _)))⟩ | exact ⟨rfl, g6, rfl, (H.perm ((List.Perm.swap _ _ _).trans (List.Perm.cons _ (List.Perm.swap _ _ _))))⟩ | exact ⟨rfl, g6, rfl, (H.perm ((List.Perm.cons _ (List.Perm.swap _ _ _)).trans (List.Perm.swap _ _ _)))⟩ | exact ⟨rfl, g6, rfl, (H.perm (((List.Perm.swap _ _ _).trans (List.Perm.cons _ (List.Perm.swap _ _ _))).trans (List.Perm.swap _ _ _)))⟩))); (refine H.ya ?_; intro g6 w H; refine H.nx ?_; (try simp only [Act.put, q1_, q2_, q3_]); (try simp only [q4_, q5_, q6_]); refine held1 4 ?_; unfold Oper.wp; go_simp; (first | (go_at_call 82; ((with_reducible refine (cF _).mono ?_); rintro e w ⟨rfl, hb⟩; replace H := H.call hb; clear hb)) | (go_at_call 83; ((with_reducible refine (cW _).mono ?_); rintro e w ⟨rfl, hb⟩; replace H := H.call hb; clear hb)) | (go_at_call 65; ((with_reducible refine (cP _).mono ?_); rintro e w ⟨rfl, hb⟩; replace H := H.call hb; clear hb)) | (go_at_call 64; ((with_reducible refine (cB _).mono ?_); rintro e w ⟨rfl, hb⟩; replace H := H.call hb; clear hb)) | (go_at_call 85; ((with_reducible refine (cM _).mono ?_); rintro e w ⟨rfl, hb⟩; replace H := H.call hb; clear hb)) | (go_at_call 84; ((with_reducible refine (cA _).mono ?_); rintro e w ⟨rfl, hb⟩; replace H := H.call hb; clear hb)) | (go_at_call 86; ((with_reducible refine (cR _).mono ?_); rintro e w ⟨rfl, hb⟩; replace H := H.call hb; clear hb)) | (go_at_call 63; ((with_reducible refine (cO _).mono ?_); rintro e w ⟨rfl, hb⟩; replace H := H.call hb; clear hb))); refine H.nx ?_; (try simp only [Act.put, q1_, q2_, q3_]); (try simp only [q4_, q5_, q6_]); refine held1 5 ?_; unfold Oper.wp; go_simp; (first | (go_at_call 82; ((with_reducible refine (cF _).mono ?_); rintro e w ⟨rfl, hb⟩; replace H := H.call hb; clear hb)) | (go_at_call 83; ((with_reducible refine (cW _).mono ?_); rintro e w ⟨rfl, hb⟩; replace H := H.call hb; clear hb)) | (go_at_call 65; ((with_reducible refine (cP _).mono ?_); rintro e w ⟨rfl, hb⟩; replace H := H.call hb; clear hb)) | (go_at_call 64; ((with_reducible refine (cB _).mono ?_); rintro e w ⟨rfl, hb⟩; replace H := H.call hb; clear hb)) | (go_at_call 85; ((with_reducible refine (cM _).mono ?_); rintro e w ⟨rfl, hb⟩; replace H := H.call hb; clear hb)) | (go_at_call 84; ((with_reducible refine (cA _).mono ?_); rintro e w ⟨rfl, hb⟩; replace H := H.call hb; clear hb)) | (go_at_call 86; ((with_reducible refine (cR _).mono ?_); rintro e w ⟨rfl, hb⟩; replace H := H.call hb; clear hb)) | (go_at_call 63; ((with_reducible refine (cO _).mono ?_); rintro e w ⟨rfl, hb⟩; replace H := H.call hb; clear hb))); refine H.nx ?_; (try simp only [Act.put, q1_, q2_, q3_]); (try simp only [q4_, q5_, q6_]); refine held1 7 ?_; (first | refine H.ys ?_ | refine H.yt ?_); intro w H; refine H.nx ?_; (try simp only [Act.put]); refine wpAnyH_done (by kernel_rfl) ?_ _; (first | exact ⟨rfl, g6, rfl, H⟩ | exact ⟨rfl, g6, rfl, (H.perm (List.Perm.swap _ _ _))⟩ | exact ⟨rfl, g6, rfl, (H.perm (List.Perm.cons _ (List.Perm.swap _ _ _)))⟩ | exact ⟨rfl, g6, rfl, (H.perm ((List.Perm.swap _ _ _).trans (List.Perm.cons _ (List.Perm.swap _ _ _))))⟩ | exact ⟨rfl, g6, rfl, (H.perm ((List.Perm.cons _ (List.Perm.swap _ _ _)).trans (List.Perm.swap _ _ _)))⟩ | exact ⟨rfl, g6, rfl, (H.perm (((List.Perm.swap _ _ _).trans (List.Perm.cons _ (List.Perm.swap _ _ _))).trans (List.Perm.swap _ _ _)))⟩))); (refine H.ya ?_; intro g6 w H; refine H.nx ?_; (try simp only [Act.put, q1_, q2_, q3_]); (try simp only [q4_, q5_, q6_]); refine held1 2 ?_; unfold Oper.wp; go_simp; (first | (go_at_call 82; ((with_reducible refine (cF _).mono ?_); rintro e w ⟨rfl, hb⟩; replace H := H.call hb; clear hb)) | (go_at_call 83; ((with_reducible refine (cW _).mono ?_); rintro e w ⟨rfl, hb⟩; replace H := H.call hb; clear hb)) | (go_at_call 65; ((with_reducible refine (cP _).mono ?_); rintro e w ⟨rfl, hb⟩; replace H := H.call hb; clear hb)) | (go_at_call 64; ((with_reducible refine (cB _).mono ?_); rintro e w ⟨rfl, hb⟩; replace H := H.call hb; clear hb)) | (go_at_call 85; ((with_reducible refine (cM _).mono ?_); rintro e w ⟨rfl, hb⟩; replace H := H.call hb; clear hb)) | (go_at_call 84; ((with_reducible refine (cA _).mono ?_); rintro e w ⟨rfl, hb⟩; replace H := H.call hb; clear hb)) | (go_at_call 86; ((with_reducible refine (cR _).mono ?_); rintro e w ⟨rfl, hb⟩; replace H := H.call hb; clear hb)) | (go_at_call 63; ((with_reducible refine (cO _).mono ?_); rintro e w ⟨rfl, hb⟩; replace H := H.call hb; clear hb))); refine H.nx ?_; (try simp only [Act.put, q1_, q2_, q3_]); (try simp only [q4_, q5_, q6_]); refine H.zr 3 ?_; (try simp only [Act.put, q1_, q2_, q3_]); (try simp only [q4_, q5_, q6_]); refine held1 4 ?_; unfold Oper.wp; go_simp; (first | (go_at_call 82; ((with_reducible refine (cF _).mono ?_); rintro e w ⟨rfl, hb⟩; replace H := H.call hb; clear hb)) | (go_at_call 83; ((with_reducible refine (cW _).mono ?_); rintro e w ⟨rfl, hb⟩; replace H := H.call hb; clear hb)) | (go_at_call 65; ((with_reducible refine (cP _).mono ?_); rintro e w ⟨rfl, hb⟩; replace H := H.call hb; clear hb)) | (go_at_call 64; ((with_reducible refine (cB _).mono ?_); rintro e w ⟨rfl, hb⟩; replace H := H.call hb; clear hb)) | (go_at_call 85; ((with_reducible refine (cM _).mono ?_); rintro e w ⟨rfl, hb⟩; replace H := H.call hb; clear hb)) | (go_at_call 84; ((with_reducible refine (cA _).mono ?_); rintro e w ⟨rfl, hb⟩; replace H := H.call hb; clear hb)) | (go_at_call 86; ((with_reducible refine (cR _).mono ?_); rintro e w ⟨rfl, hb⟩; replace H := H.call hb; clear hb)) | (go_at_call 63; ((with_reducible refine (cO _).mono ?_); rintro e w ⟨rfl, hb⟩; replace H := H.call hb; clear hb))); refine H.nx ?_; (try simp only [Act.put, q1_, q2_, q3_]); (try simp only [q4_, q5_, q6_]); refine held1 5 ?_; unfold Oper.wp; go_simp; (first | (go_at_call 82; ((with_reducible refine (cF _).mono ?_); rintro e w ⟨rfl, hb⟩; replace H := H.call hb; clear hb)) | (go_at_call 83; ((with_reducible refine (cW _).mono ?_); rintro e w ⟨rfl, hb⟩; replace H := H.call hb; clear hb)) | (go_at_call 65; ((with_reducible refine (cP _).mono ?_); rintro e w ⟨rfl, hb⟩; replace H := H.call hb; clear hb)) | (go_at_call 64; ((with_reducible refine (cB _).mono ?_); rintro e w ⟨rfl, hb⟩; replace H := H.call hb; clear hb)) | (go_at_call 85; ((with_reducible refine (cM _).mono ?_); rintro e w ⟨rfl, hb⟩; replace H := H.call hb; clear hb)) | (go_at_call 84; ((with_reducible refine (cA _).mono ?_); rintro e w ⟨rfl, hb⟩; replace H := H.call hb; clear hb)) | (go_at_call 86; ((with_reducible refine (cR _).mono ?_); rintro e w ⟨rfl, hb⟩; replace H := H.call hb; clear hb)) | (go_at_call 63; ((with_reducible refine (cO _).mono ?_); rintro e w ⟨rfl, hb⟩; replace H := H.call hb; clear hb))); refine H.nx ?_; (try simp only [Act.put, q1_, q2_, q3_]); (try simp only [q4_, q5_, q6_]); refine held1 7 ?_; (first | refine H.ys ?_ | refine H.yt ?_); intro w H; refine H.nx ?_; (try simp only [Act.put]); refine wpAnyH_done (by kernel_rfl) ?_ _; (first | exact ⟨rfl, g6, rfl, H⟩ | exact ⟨rfl, g6, rfl, (H.perm (List.Perm.swap _ _ _))⟩ | exact ⟨rfl, g6, rfl, (H.perm (List.Perm.cons _ (List.Perm.swap _ _ _)))⟩ | exact ⟨rfl, g6, rfl, (H.perm ((List.Perm.swap _ _ _).trans (List.Perm.cons _ (List.Perm.swap _ _ _))))⟩ | exact ⟨rfl, g6, rfl, (H.perm ((List.Perm.cons _ (List.Perm.swap _ _ _)).trans (List.Perm.swap _ _ _)))⟩ | exact ⟨rfl, g6, rfl, (H.perm (((List.Perm.swap _ _ _).trans (List.Perm.cons _ (List.Perm.swap _ _ _))).trans (List.Perm.swap _ _ _)))⟩)); clear H; intro ga w H)
    | ((with_reducible show Code.wp _ (.region 4 _ true) _ _ _); apply H.join1; refine H.heldSub rfl (List.Sublist.refl _) ?_; intro H; (first | refine H.zl 0 ?_ | refine H.zm 0 ?_); (try simp only [Act.put, q1_, q2_, q3_]); (try simp only [q4_, q5_, q6_]); refine H.zr 1 ?_; (try simp only [Act.put, q1_, q2_, q3_]); (try simp only [q4_, q5_, q6_]); refine held2 2 8 ?_ ?_; (unfold Oper.wp; go_simp; (first | (go_at_call 82; ((with_reducible refine (cF _).mono ?_); rintro e w ⟨rfl, hb⟩; replace H := H.call hb; clear hb)) | (go_at_call 83; ((with_reducible refine (cW _).mono ?_); rintro e w ⟨rfl, hb⟩; replace H := H.call hb; clear hb)) | (go_at_call 65; ((with_reducible refine (cP _).mono ?_); rintro e w ⟨rfl, hb⟩; replace H := H.call hb; clear hb)) | (go_at_call 64; ((with_reducible refine (cB _).mono ?_); rintro e w ⟨rfl, hb⟩; replace H := H.call hb; clear hb)) | (go_at_call 85; ((with_reducible refine (cM _).mono ?_); rintro e w ⟨rfl, hb⟩; replace H := H.call hb; clear hb)) | (go_at_call 84; ((with_reducible refine (cA _).mono ?_); rintro e w ⟨rfl, hb⟩; replace H := H.call hb; clear hb)) | (go_at_call 86; ((with_reducible refine (cR _).mono ?_); rintro e w ⟨rfl, hb⟩; replace H := H.call hb; clear hb)) | (go_at_call 63; ((with_reducible refine (cO _).mono ?_); rintro e w ⟨rfl, hb⟩; replace H := H.call hb; clear hb))); refine H.nx ?_; (try simp only [Act.put, q1_, q2_, q3_]); (try simp only [q4_, q5_, q6_]); refine H.zr 3 ?_; (try simp only [Act.put, q1_, q2_, q3_]); (try simp only [q4_, q5_, q6_]); refine held2 4 8 ?_ ?_; (unfold Oper.wp; go_simp; (first | (go_at_call 82; ((with_reducible refine (cF _).mono ?_); rintro e w ⟨rfl, hb⟩; replace H := H.call hb; clear hb)) | (go_at_call 83; ((with_reducible refine (cW _).mono ?_); rintro e w ⟨rfl, hb⟩; replace H := H.call hb; clear hb)) | (go_at_call 65; ((with_reducible refine (cP _).mono ?_); rintro e w ⟨rfl, hb⟩; replace H := H.call hb; clear hb)) | (go_at_call 64; ((with_reducible refine (cB _).mono ?_); rintro e w ⟨rfl, hb⟩; replace H := H.call hb; clear hb)) | (go_at_call 85; ((with_reducible refine (cM _).mono ?_); rintro e w ⟨rfl, hb⟩; replace H := H.call hb; clear hb)) | (go_at_call 84; ((with_reducible refine (cA _).mono ?_); rintro e w ⟨rfl, hb⟩; replace H := H.call hb; clear hb)) | (go_at_call 86; ((with_reducible refine (cR _).mono ?_); rintro e w ⟨rfl, hb⟩; replace H := H.call hb; clear hb)) | (go_at_call 63; ((with_reducible refine (cO _).mono ?_); rintro e w ⟨rfl, hb⟩; replace H := H.call hb; clear hb))); refine H.nx ?_; (try simp only [Act.put, q1_, q2_, q3_]); (try simp only [q4_, q5_, q6_]); refine H.zr 5 ?_; (try simp only [Act.put, q1_, q2_, q3_]); (try simp only [q4_, q5_, q6_]); refine H.zr 6 ?_; (try simp only [Act.put, q1_, q2_, q3_]); (try simp only [q4_, q5_, q6_]); refine H.zr 7 ?_; (try simp only [Act.put, q1_, q2_, q3_]); (try simp only [q4_, q5_, q6_]); refine held1 8 ?_; refine H.ya ?_; intro g8 w H; refine H.nx ?_; (try simp only [Act.put, q1_, q2_, q3_]); (try simp only [q4_, q5_, q6_]); refine held1 9 ?_; (first | refine H.ys ?_ | refine H.yt ?_); intro w H; refine H.nx ?_; (try simp only [Act.put]); refine H.zr 10 ?_; (try simp only [Act.put, q1_, q2_, q3_]); (try simp only [q4_, q5_, q6_]); refine wpAnyH_done (by kernel_rfl) ?_ _; (first | exact ⟨rfl, g8, rfl, H⟩ | exact ⟨rfl, g8, rfl, (H.perm (List.Perm.swap _ _ _))⟩ | exact ⟨rfl, g8, rfl, (H.perm (List.Perm.cons _ (List.Perm.swap _ _ _)))⟩ | exact ⟨rfl, g8, rfl, (H.perm ((List.Perm.swap _ _ _).trans (List.Perm.cons _ (List.Perm.swap _ _ _))))⟩ | exact ⟨rfl, g8, rfl, (H.perm ((List.Perm.cons _ (List.Perm.swap _ _ _)).trans (List.Perm.swap _ _ _)))⟩ | exact ⟨rfl, g8, rfl, (H.perm (((List.Perm.swap _ _ _).trans (List.Perm.cons _ (List.Perm.swap _ _ _))).trans (List.Perm.swap _ _ _)))⟩)); (refine H.ya ?_; intro g8 w H; refine H.nx ?_; (try simp only [Act.put, q1_, q2_, q3_]); (try simp only [q4_, q5_, q6_]); refine held1 4 ?_; unfold Oper.wp; go_simp; (first | (go_at_call 82; ((with_reducible refine (cF _).mono ?_); rintro e w ⟨rfl, hb⟩; replace H := H.call hb; clear hb)) | (go_at_call 83; ((with_reducible refine (cW _).mono ?_); rintro e w ⟨rfl, hb⟩; replace H := H.call hb; clear hb)) | (go_at_call 65; ((with_reducible refine (cP _).mono ?_); rintro e w ⟨rfl, hb⟩; replace H := H.call hb; clear hb)) | (go_at_call 64; ((with_reducible refine (cB _).mono ?_); rintro e w ⟨rfl, hb⟩; replace H := H.call hb; clear hb)) | (go_at_call 85; ((with_reducible refine (cM _).mono ?_); rintro e w ⟨rfl, hb⟩; replace H := H.call hb; clear hb)) | (go_at_call 84; ((with_reducible refine (cA _).mono ?_); rintro e w ⟨rfl, hb⟩; replace H := H.call hb; clear hb)) | (go_at_call 86; ((with_reducible refine (cR _).mono ?_); rintro e w ⟨rfl, hb⟩; replace H := H.call hb; clear hb)) | (go_at_call 63; ((with_reducible refine (cO _).mono ?_); rintro e w ⟨rfl, hb⟩; replace H := H.call hb; clear hb))); refine H.nx ?_; (try simp only [Act.put, q1_, q2_, q3_]); (try simp only [q4_, q5_, q6_]); refine H.zr 5 ?_; (try simp only [Act.put, q1_, q2_, q3_]); (try simp only [q4_, q5_, q6_]); refine H.zr 6 ?_; (try simp only [Act.put, q1_, q2_, q3_]); (try simp only [q4_, q5_, q6_]); refine H.zr 7 ?_; (try simp only [Act.put, q1_, q2_, q3_]); (try simp only [q4_, q5_, q6_]); refine held1 9 ?_; (first | refine H.ys ?_ | refine H.yt ?_); intro w H; refine H.nx ?_; (try simp only [Act.put]); refine H.zr 10 ?_; (try simp only [Act.put, q1_, q2_, q3_]); (try simp only [q4_, q5_, q6_]); refine wpAnyH_done (by kernel_rfl) ?_ _; (first | exact ⟨rfl, g8, rfl, H⟩ | exact ⟨rfl, g8, rfl, (H.perm (List.Perm.swap _ _ _))⟩ | exact ⟨rfl, g8, rfl, (H.perm (List.Perm.cons _ (List.Perm.swap _ _ _)))⟩ | exact ⟨rfl, g8, rfl, (H.perm ((List.Perm.swap _ _ _).trans (List.Perm.cons _ (List.Perm.swap _ _ _))))⟩ | exact ⟨rfl, g8, rfl, (H.perm ((List.Perm.cons _ (List.Perm.swap _ _ _)).trans (List.Perm.swap _ _ _)))⟩ | exact ⟨rfl, g8, rfl, (H.perm (((List.Perm.swap _ _ _).trans (List.Perm.cons _ (List.Perm.swap _ _ _))).trans (List.Perm.swap _ _ _)))⟩))); (refine H.ya ?_; intro g8 w H; refine H.nx ?_; (try simp only [Act.put, q1_, q2_, q3_]); (try simp only [q4_, q5_, q6_]); refine held1 2 ?_; unfold Oper.wp; go_simp; (first | (go_at_call 82; ((with_reducible refine (cF _).mono ?_); rintro e w ⟨rfl, hb⟩; replace H := H.call hb; clear hb)) | (go_at_call 83; ((with_reducible refine (cW _).mono ?_); rintro e w ⟨rfl, hb⟩; replace H := H.call hb; clear hb)) | (go_at_call 65; ((with_reducible refine (cP _).mono ?_); rintro e w ⟨rfl, hb⟩; replace H := H.call hb; clear hb)) | (go_at_call 64; ((with_reducible refine (cB _).mono ?_); rintro e w ⟨rfl, hb⟩; replace H := H.call hb; clear hb)) | (go_at_call 85; ((with_reducible refine (cM _).mono ?_); rintro e w ⟨rfl, hb⟩; replace H := H.call hb; clear hb)) | (go_at_call 84; ((with_reducible refine (cA _).mono ?_); rintro e w ⟨rfl, hb⟩; replace H := H.call hb; clear hb)) | (go_at_call 86; ((with_reducible refine (cR _).mono ?_); rintro e w ⟨rfl, hb⟩; replace H := H.call hb; clear hb)) | (go_at_call 63; ((with_reducible refine (cO _).mono ?_); rintro e w ⟨rfl, hb⟩; replace H := H.call hb; clear hb))); refine H.nx ?_; (try simp only [Act.put, q1_, q2_, q3_]); (try simp only [q4_, q5_, q6_]); refine H.zr 3 ?_; (try simp only [Act.put, q1_, q2_, q3_]); (try simp only [q4_, q5_, q6_]); refine held1 4 ?_; unfold Oper.wp; go_simp; (first | (go_at_call 82; ((with_reducible refine (cF _).mono ?_); rintro e w ⟨rfl, hb⟩; replace H := H.call hb; clear hb)) | (go_at_call 83; ((with_reducible refine (cW _).mono ?_); rintro e w ⟨rfl, hb⟩; replace H := H.call hb; clear hb)) | (go_at_call 65; ((with_reducible refine (cP _).mono ?_); rintro e w ⟨rfl, hb⟩; replace H := H.call hb; clear hb)) | (go_at_call 64; ((with_reducible refine (cB _).mono ?_); rintro e w ⟨rfl, hb⟩; replace H := H.call hb; clear hb)) | (go_at_call 85; ((with_reducible refine (cM _).mono ?_); rintro e w ⟨rfl, hb⟩; replace H := H.call hb; clear hb)) | (go_at_call 84; ((with_reducible refine (cA _).mono ?_); rintro e w ⟨rfl, hb⟩; replace H := H.call hb; clear hb)) | (go_at_call 86; ((with_reducible refine (cR _).mono ?_); rintro e w ⟨rfl, hb⟩; replace H := H.call hb; clear hb)) | (go_at_call 63; ((with_reducible refine (cO _).mono ?_); rintro e w ⟨rfl, hb⟩; replace H := H.call hb; clear hb))); refine H.nx ?_; (try simp only [Act.put, q1_, q2_, q3_]); (try simp only [q4_, q5_, q6_]); refine H.zr 5 ?_; (try simp only [Act.put, q1_, q2_, q3_]); (try simp only [q4_, q5_, q6_]); refine H.zr 6 ?_; (try simp only [Act.put, q1_, q2_, q3_]); (try simp only [q4_, q5_, q6_]); refine H.zr 7 ?_; (try simp only [Act.put, q1_, q2_, q3_]); (try simp only [q4_, q5_, q6_]); refine held1 9 ?_; (first | refine H.ys ?_ | refine H.yt ?_); intro w H; refine H.nx ?_; (try simp only [Act.put]); refine H.zr 10 ?_; (try simp only [Act.put, q1_, q2_, q3_]); (try simp only [q4_, q5_, q6_]); refine wpAnyH_done (by kernel_rfl) ?_ _; (first | exact ⟨rfl, g8, rfl, H⟩ | exact ⟨rfl, g8, rfl, (H.perm (List.Perm.swap _ _ _))⟩ | exact ⟨rfl, g8, rfl, (H.perm (List.Perm.cons _ (List.Perm.swap _ _ _)))⟩ | exact ⟨rfl, g8, rfl, (H.perm ((List.Perm.swap _ _ _).trans (List.Perm.cons _ (List.Perm.swap _ _ _))))⟩ | exact ⟨rfl, g8, rfl, (H.perm ((List.Perm.cons _ (List.Perm.swap _ _ _)).trans (List.Perm.swap _ _ _)))⟩ | exact ⟨rfl, g8, rfl, (H.perm (((List.Perm.swap _ _ _).trans (List.Perm.cons _ (List.Perm.swap _ _ _))).trans (List.Perm.swap _ _ _)))⟩)); clear H; intro ga w H)
    | ((with_reducible show Code.wp _ (.region 5 _ true) _ _ _); refine H.heldSub rfl (List.Sublist.cons_cons _ (List.Sublist.cons_cons _ (List.Sublist.cons_cons _ (List.Sublist.cons _ (List.Sublist.refl _))))) ?_; intro H; refine H.zr 0 ?_; (try simp only [Act.put, q1_, q2_, q3_]); (try simp only [q4_, q5_, q6_]); refine H.zr 1 ?_; (try simp only [Act.put, q1_, q2_, q3_]); (try simp only [q4_, q5_, q6_]); (first | refine H.zl 2 ?_ | refine H.zm 2 ?_); (try simp only [Act.put, q1_, q2_, q3_]); (try simp only [q4_, q5_, q6_]); refine H.zr 3 ?_; (try simp only [Act.put, q1_, q2_, q3_]); (try simp only [q4_, q5_, q6_]); refine H.zr 4 ?_; (try simp only [Act.put, q1_, q2_, q3_]); (try simp only [q4_, q5_, q6_]); (first | refine H.zl 7 ?_ | refine H.zm 7 ?_); (try simp only [Act.put, q1_, q2_, q3_]); (try simp only [q4_, q5_, q6_]); refine held1 5 ?_; unfold Oper.wp; go_simp; (first | (go_at_call 82; ((with_reducible refine (cF _).mono ?_); rintro e w ⟨rfl, hb⟩; replace H := H.call hb; clear hb)) | (go_at_call 83; ((with_reducible refine (cW _).mono ?_); rintro e w ⟨rfl, hb⟩; replace H := H.call hb; clear hb)) | (go_at_call 65; ((with_reducible refine (cP _).mono ?_); rintro e w ⟨rfl, hb⟩; replace H := H.call hb; clear hb)) | (go_at_call 64; ((with_reducible refine (cB _).mono ?_); rintro e w ⟨rfl, hb⟩; replace H := H.call hb; clear hb)) | (go_at_call 85; ((with_reducible refine (cM _).mono ?_); rintro e w ⟨rfl, hb⟩; replace H := H.call hb; clear hb)) | (go_at_call 84; ((with_reducible refine (cA _).mono ?_); rintro e w ⟨rfl, hb⟩; replace H := H.call hb; clear hb)) | (go_at_call 86; ((with_reducible refine (cR _).mono ?_); rintro e w ⟨rfl, hb⟩; replace H := H.call hb; clear hb)) | (go_at_call 63; ((with_reducible refine (cO _).mono ?_); rintro e w ⟨rfl, hb⟩; replace H := H.call hb; clear hb))); refine H.nx ?_; (try simp only [Act.put, q1_, q2_, q3_]); (try simp only [q4_, q5_, q6_]); refine H.zr 6 ?_; (try simp only [Act.put, q1_, q2_, q3_]); (try simp only [q4_, q5_, q6_]); refine H.zr 8 ?_; (try simp only [Act.put, q1_, q2_, q3_]); (try simp only [q4_, q5_, q6_]); refine H.zr 9 ?_; (try simp only [Act.put, q1_, q2_, q3_]); (try simp only [q4_, q5_, q6_]); refine held1 10 ?_; (first | refine H.ys ?_ | refine H.yt ?_); intro w H; refine H.nx ?_; (try simp only [Act.put]); refine wpAnyH_done (by kernel_rfl) ?_ _)
    | (go_at_call 82; ((with_reducible refine (cF _).mono ?_); rintro e w ⟨rfl, hb⟩; replace H := H.call hb; clear hb))
    | (go_at_call 83; ((with_reducible refine (cW _).mono ?_); rintro e w ⟨rfl, hb⟩; replace H := H.call hb; clear hb))
    | (go_at_call 65; ((with_reducible refine (cP _).mono ?_); rintro e w ⟨rfl, hb⟩; replace H := H.call hb; clear hb))
    | (go_at_call 64; ((with_reducible refine (cB _).mono ?_); rintro e w ⟨rfl, hb⟩; replace H := H.call hb; clear hb))
    | (go_at_call 85; ((with_reducible refine (cM _).mono ?_); rintro e w ⟨rfl, hb⟩; replace H := H.call hb; clear hb))
    | (go_at_call 84; ((with_reducible refine (cA _).mono ?_); rintro e w ⟨rfl, hb⟩; replace H := H.call hb; clear hb))
    | (go_at_call 86; ((with_reducible refine (cR _).mono ?_); rintro e w ⟨rfl, hb⟩; replace H := H.call hb; clear hb))
    | (go_at_call 63; ((with_reducible refine (cO _).mono ?_); rintro e w ⟨rfl, hb⟩; replace H := H.call hb; clear hb))
    )
  all_goals
    refine bodyPost_ret (results_ttc rfl rfl (H.res rW v3_ v4_ (by rfl))) rfl ⟨?_, H.below⟩
    exact rfl
theorem r7Fields_any (f b : Nat) (w : World) (hf : f < 4) (hb : b < 2 ^ (64 * 2)) :
    Calls Tryd.prog 62 #[.int .u8 f, BV b] w fun e w' => e = .returned (.tuple #[.bool (negN f b), .int .i64 (expN f b : Nat), W (b % 2 ^ (pF f - 1))]) ∧ Below w.heap.size w w' := by
  obtain ⟨p1, p2, n1, n2, np1, np2⟩ := formB f hf
  obtain ⟨-, -, k3, k4, k5, -, -⟩ := formK f hf
  have cW := fun w => r7Width_any f w
  have cP := fun w => r7Precision_any f w
  have cO := fun w => r7Ones_any f w
  have hbt := lt_top_bits b hb
  have e1 := exp_ones (b / 2 ^ (pF f - 1)) (wF f - pF f) (by omega)
  rw [k3, show 2 * eF f + 2 - 1 = 2 * eF f + 1 by omega] at e1
  have cM := fun w => r2Mask_any ((pF f - 1 : Nat) : Int) w
  have cA := fun w => r2And_any b (2 ^ (pF f - 1) - 1) w
  have cR := fun w => r2Right_any b ((pF f - 1 : Nat) : Int) w hbt
  rw [clip_of _ (by omega)] at cM cR
  rw [Nat.and_two_pow_sub_one_eq_mod] at cA
  have h := r7Fields_w f b (pF f - 1) (wF f - 1) (pF f) (wF f) (2 * eF f + 1) _ _ _ _ _ w
    (by rw [show (pF f : Int) - 1 = ((pF f - 1 : Nat) : Int) by omega]; exact IntWalk.i64_in _ (by omega))
    (by rw [show (wF f : Int) - 1 = ((wF f - 1 : Nat) : Int) by omega]; exact IntWalk.i64_in _ (by omega))
    (fun w => r2OfBits_any b w hb) cW cP (fun w => r2Bit_any b (wF f - 1) w (by omega)) cM cA cR cO
  rw [e1, ← k3] at h
  exact h
open Go.RowKit
theorem walk3 {P : Prop} (h : P := by
  go_wp2_with (first
    | ((with_reducible show wpList _ _ _ (⟨_, .box _ _, _, _, _, _⟩ :: _) _ _); refine H.xb ?_; (intro g w H; simp only [Act.put, q1_, q2_, q3_]))
    | ((with_reducible show wpList _ _ _ (⟨_, .alloc _, _, _, _, _⟩ :: _) _ _); refine H.xa ?_; (intro g w H; simp only [Act.put, q1_, q2_, q3_]))
    | ((with_reducible show wpList _ _ _ (⟨_, .load _ _, _, _, _, _⟩ :: _) _ _); (first | refine H.xl ?_ | refine H.xm ?_); simp only [Act.put, q1_, q2_, q3_])
    | ((with_reducible show wpList _ _ _ (⟨_, .store _ _ _, _, _, _, _⟩ :: _) _ _); (first | refine H.xs ?_ | refine H.xt ?_); (intro w H; simp only [Act.put]))
    | ((with_reducible show Code.wp _ (.region 4 _ true) _ _ _); refine H.heldSub rfl (List.Sublist.refl _) ?_; intro H; (first | refine H.zl 0 ?_ | refine H.zm 0 ?_); (try simp only [Act.put, q1_, q2_, q3_]); (try simp only [q4_, q5_, q6_]); refine H.zr 1 ?_; (try simp only [Act.put, q1_, q2_, q3_]); (try simp only [q4_, q5_, q6_]); refine held1 2 ?_; unfold Oper.wp; go_simp; (first | (go_at_call 62; ((with_reducible refine (cF _).mono ?_); rintro e w ⟨rfl, hb⟩; replace H := H.call hb; clear hb)) | (go_at_call 63; ((with_reducible refine (cO _).mono ?_); rintro e w ⟨rfl, hb⟩; replace H := H.call hb; clear hb)) | (go_at_call 65; ((with_reducible refine (cP _).mono ?_); rintro e w ⟨rfl, hb⟩; replace H := H.call hb; clear hb)) | (go_at_call 64; ((with_reducible refine (cB _).mono ?_); rintro e w ⟨rfl, hb⟩; replace H := H.call hb; clear hb))); refine H.nx ?_; (try simp only [Act.put, q1_, q2_, q3_]); (try simp only [q4_, q5_, q6_]); refine H.zr 3 ?_; (try simp only [Act.put, q1_, q2_, q3_]); (try simp only [q4_, q5_, q6_]); refine held1 4 ?_; unfold Oper.wp; go_simp; (first | (go_at_call 62; ((with_reducible refine (cF _).mono ?_); rintro e w ⟨rfl, hb⟩; replace H := H.call hb; clear hb)) | (go_at_call 63; ((with_reducible refine (cO _).mono ?_); rintro e w ⟨rfl, hb⟩; replace H := H.call hb; clear hb)) | (go_at_call 65; ((with_reducible refine (cP _).mono ?_); rintro e w ⟨rfl, hb⟩; replace H := H.call hb; clear hb)) | (go_at_call 64; ((with_reducible refine (cB _).mono ?_); rintro e w ⟨rfl, hb⟩; replace H := H.call hb; clear hb))); refine H.nx ?_; (try simp only [Act.put, q1_, q2_, q3_]); (try simp only [q4_, q5_, q6_]); refine wpAnyH_done (by kernel_rfl) ?_ _)
    | (go_at_call 62; ((with_reducible refine (cF _).mono ?_); rintro e w ⟨rfl, hb⟩; replace H := H.call hb; clear hb))
    | (go_at_call 63; ((with_reducible refine (cO _).mono ?_); rintro e w ⟨rfl, hb⟩; replace H := H.call hb; clear hb))
    | (go_at_call 65; ((with_reducible refine (cP _).mono ?_); rintro e w ⟨rfl, hb⟩; replace H := H.call hb; clear hb))
    | (go_at_call 64; ((with_reducible refine (cB _).mono ?_); rintro e w ⟨rfl, hb⟩; replace H := H.call hb; clear hb))
    )
  all_goals (go_ret; exact ⟨rfl, H.below⟩)) : P := h
theorem r8Class_nan_true (f b e0 o t p2 p : Nat) (neg qb : Bool) (w : World) (cF : ∀ w, Calls Tryd.prog 62 #[.int .u8 f, BV b] w fun e w' => e = .returned (.tuple #[.bool neg, .int .i64 (e0 : Nat), W t]) ∧ Below w.heap.size w w') (cO : ∀ w, Calls Tryd.prog 63 #[.int .u8 f] w fun e w' => e = .returned (.int .i64 (o : Nat)) ∧ Below w.heap.size w w') (eq1 : ∀ w, (Op.equalIn 10000 46 (.agg (limbs t)) (.agg #[.int .u64 0, .int .u64 0, .int .u64 0, .int .u64 0, .int .u64 0, .int .u64 0])).run Tryd.prog w = .ok false w) (hx : ((e0 : Int) == (o : Int)) = true) (hp : IntKind.i64.wrap ((p : Int) - 2) = (p2 : Int)) (cP : ∀ w, Calls Tryd.prog 65 #[.int .u8 f] w fun e w' => e = .returned (.int .i64 (p : Nat)) ∧ Below w.heap.size w w') (cB : ∀ w, Calls Tryd.prog 64 #[W t, .int .i64 (p2 : Nat)] w fun e w' => e = .returned (.bool true) ∧ Below w.heap.size w w')  :
    Calls Tryd.prog 27 #[.int .u8 f, BV b] w fun e w' => e = .returned (.int .u8 9) ∧ Below w.heap.size w w' := by
  have H := Own.start w
  go_enter Tryd.func27, Tryd.ntmps27
  exact walk3
theorem r8Class_nan_false (f b e0 o t p2 p : Nat) (neg qb : Bool) (w : World) (cF : ∀ w, Calls Tryd.prog 62 #[.int .u8 f, BV b] w fun e w' => e = .returned (.tuple #[.bool neg, .int .i64 (e0 : Nat), W t]) ∧ Below w.heap.size w w') (cO : ∀ w, Calls Tryd.prog 63 #[.int .u8 f] w fun e w' => e = .returned (.int .i64 (o : Nat)) ∧ Below w.heap.size w w') (eq1 : ∀ w, (Op.equalIn 10000 46 (.agg (limbs t)) (.agg #[.int .u64 0, .int .u64 0, .int .u64 0, .int .u64 0, .int .u64 0, .int .u64 0])).run Tryd.prog w = .ok false w) (hx : ((e0 : Int) == (o : Int)) = true) (hp : IntKind.i64.wrap ((p : Int) - 2) = (p2 : Int)) (cP : ∀ w, Calls Tryd.prog 65 #[.int .u8 f] w fun e w' => e = .returned (.int .i64 (p : Nat)) ∧ Below w.heap.size w w') (cB : ∀ w, Calls Tryd.prog 64 #[W t, .int .i64 (p2 : Nat)] w fun e w' => e = .returned (.bool false) ∧ Below w.heap.size w w')  :
    Calls Tryd.prog 27 #[.int .u8 f, BV b] w fun e w' => e = .returned (.int .u8 8) ∧ Below w.heap.size w w' := by
  have H := Own.start w
  go_enter Tryd.func27, Tryd.ntmps27
  exact walk3
theorem r8Class_inf_true (f b e0 o t p2 p : Nat) (neg qb : Bool) (w : World) (cF : ∀ w, Calls Tryd.prog 62 #[.int .u8 f, BV b] w fun e w' => e = .returned (.tuple #[.bool true, .int .i64 (e0 : Nat), W t]) ∧ Below w.heap.size w w') (cO : ∀ w, Calls Tryd.prog 63 #[.int .u8 f] w fun e w' => e = .returned (.int .i64 (o : Nat)) ∧ Below w.heap.size w w') (eq1 : ∀ w, (Op.equalIn 10000 46 (.agg (limbs t)) (.agg #[.int .u64 0, .int .u64 0, .int .u64 0, .int .u64 0, .int .u64 0, .int .u64 0])).run Tryd.prog w = .ok true w) (hx : ((e0 : Int) == (o : Int)) = true)  :
    Calls Tryd.prog 27 #[.int .u8 f, BV b] w fun e w' => e = .returned (.int .u8 0) ∧ Below w.heap.size w w' := by
  have H := Own.start w
  go_enter Tryd.func27, Tryd.ntmps27
  exact walk5
theorem r8Class_nor_true (f b e0 o t p2 p : Nat) (neg qb : Bool) (w : World) (cF : ∀ w, Calls Tryd.prog 62 #[.int .u8 f, BV b] w fun e w' => e = .returned (.tuple #[.bool true, .int .i64 (e0 : Nat), W t]) ∧ Below w.heap.size w w') (cO : ∀ w, Calls Tryd.prog 63 #[.int .u8 f] w fun e w' => e = .returned (.int .i64 (o : Nat)) ∧ Below w.heap.size w w') (hx : ((e0 : Int) == (o : Int)) = false) (hy : ((e0 : Int) != 0) = true)  :
    Calls Tryd.prog 27 #[.int .u8 f, BV b] w fun e w' => e = .returned (.int .u8 1) ∧ Below w.heap.size w w' := by
  have H := Own.start w
  go_enter Tryd.func27, Tryd.ntmps27
  exact walk5
theorem r8Class_sub_true (f b e0 o t p2 p : Nat) (neg qb : Bool) (w : World) (cF : ∀ w, Calls Tryd.prog 62 #[.int .u8 f, BV b] w fun e w' => e = .returned (.tuple #[.bool true, .int .i64 (e0 : Nat), W t]) ∧ Below w.heap.size w w') (cO : ∀ w, Calls Tryd.prog 63 #[.int .u8 f] w fun e w' => e = .returned (.int .i64 (o : Nat)) ∧ Below w.heap.size w w') (hx : ((e0 : Int) == (o : Int)) = false) (hy : ((e0 : Int) != 0) = false) (eq1 : ∀ w, (Op.equalIn 10000 46 (.agg (limbs t)) (.agg #[.int .u64 0, .int .u64 0, .int .u64 0, .int .u64 0, .int .u64 0, .int .u64 0])).run Tryd.prog w = .ok false w)  :
    Calls Tryd.prog 27 #[.int .u8 f, BV b] w fun e w' => e = .returned (.int .u8 2) ∧ Below w.heap.size w w' := by
  have H := Own.start w
  go_enter Tryd.func27, Tryd.ntmps27
  exact walk5
theorem r8Class_zer_true (f b e0 o t p2 p : Nat) (neg qb : Bool) (w : World) (cF : ∀ w, Calls Tryd.prog 62 #[.int .u8 f, BV b] w fun e w' => e = .returned (.tuple #[.bool true, .int .i64 (e0 : Nat), W t]) ∧ Below w.heap.size w w') (cO : ∀ w, Calls Tryd.prog 63 #[.int .u8 f] w fun e w' => e = .returned (.int .i64 (o : Nat)) ∧ Below w.heap.size w w') (hx : ((e0 : Int) == (o : Int)) = false) (hy : ((e0 : Int) != 0) = false) (eq1 : ∀ w, (Op.equalIn 10000 46 (.agg (limbs t)) (.agg #[.int .u64 0, .int .u64 0, .int .u64 0, .int .u64 0, .int .u64 0, .int .u64 0])).run Tryd.prog w = .ok true w)  :
    Calls Tryd.prog 27 #[.int .u8 f, BV b] w fun e w' => e = .returned (.int .u8 3) ∧ Below w.heap.size w w' := by
  have H := Own.start w
  go_enter Tryd.func27, Tryd.ntmps27
  exact walk5
theorem r8Class_inf_false (f b e0 o t p2 p : Nat) (neg qb : Bool) (w : World) (cF : ∀ w, Calls Tryd.prog 62 #[.int .u8 f, BV b] w fun e w' => e = .returned (.tuple #[.bool false, .int .i64 (e0 : Nat), W t]) ∧ Below w.heap.size w w') (cO : ∀ w, Calls Tryd.prog 63 #[.int .u8 f] w fun e w' => e = .returned (.int .i64 (o : Nat)) ∧ Below w.heap.size w w') (eq1 : ∀ w, (Op.equalIn 10000 46 (.agg (limbs t)) (.agg #[.int .u64 0, .int .u64 0, .int .u64 0, .int .u64 0, .int .u64 0, .int .u64 0])).run Tryd.prog w = .ok true w) (hx : ((e0 : Int) == (o : Int)) = true)  :
    Calls Tryd.prog 27 #[.int .u8 f, BV b] w fun e w' => e = .returned (.int .u8 7) ∧ Below w.heap.size w w' := by
  have H := Own.start w
  go_enter Tryd.func27, Tryd.ntmps27
  exact walk5
theorem r8Class_nor_false (f b e0 o t p2 p : Nat) (neg qb : Bool) (w : World) (cF : ∀ w, Calls Tryd.prog 62 #[.int .u8 f, BV b] w fun e w' => e = .returned (.tuple #[.bool false, .int .i64 (e0 : Nat), W t]) ∧ Below w.heap.size w w') (cO : ∀ w, Calls Tryd.prog 63 #[.int .u8 f] w fun e w' => e = .returned (.int .i64 (o : Nat)) ∧ Below w.heap.size w w') (hx : ((e0 : Int) == (o : Int)) = false) (hy : ((e0 : Int) != 0) = true)  :
    Calls Tryd.prog 27 #[.int .u8 f, BV b] w fun e w' => e = .returned (.int .u8 6) ∧ Below w.heap.size w w' := by
  have H := Own.start w
  go_enter Tryd.func27, Tryd.ntmps27
  exact walk5
theorem r8Class_sub_false (f b e0 o t p2 p : Nat) (neg qb : Bool) (w : World) (cF : ∀ w, Calls Tryd.prog 62 #[.int .u8 f, BV b] w fun e w' => e = .returned (.tuple #[.bool false, .int .i64 (e0 : Nat), W t]) ∧ Below w.heap.size w w') (cO : ∀ w, Calls Tryd.prog 63 #[.int .u8 f] w fun e w' => e = .returned (.int .i64 (o : Nat)) ∧ Below w.heap.size w w') (hx : ((e0 : Int) == (o : Int)) = false) (hy : ((e0 : Int) != 0) = false) (eq1 : ∀ w, (Op.equalIn 10000 46 (.agg (limbs t)) (.agg #[.int .u64 0, .int .u64 0, .int .u64 0, .int .u64 0, .int .u64 0, .int .u64 0])).run Tryd.prog w = .ok false w)  :
    Calls Tryd.prog 27 #[.int .u8 f, BV b] w fun e w' => e = .returned (.int .u8 5) ∧ Below w.heap.size w w' := by
  have H := Own.start w
  go_enter Tryd.func27, Tryd.ntmps27
  exact walk5
theorem r8Class_zer_false (f b e0 o t p2 p : Nat) (neg qb : Bool) (w : World) (cF : ∀ w, Calls Tryd.prog 62 #[.int .u8 f, BV b] w fun e w' => e = .returned (.tuple #[.bool false, .int .i64 (e0 : Nat), W t]) ∧ Below w.heap.size w w') (cO : ∀ w, Calls Tryd.prog 63 #[.int .u8 f] w fun e w' => e = .returned (.int .i64 (o : Nat)) ∧ Below w.heap.size w w') (hx : ((e0 : Int) == (o : Int)) = false) (hy : ((e0 : Int) != 0) = false) (eq1 : ∀ w, (Op.equalIn 10000 46 (.agg (limbs t)) (.agg #[.int .u64 0, .int .u64 0, .int .u64 0, .int .u64 0, .int .u64 0, .int .u64 0])).run Tryd.prog w = .ok true w)  :
    Calls Tryd.prog 27 #[.int .u8 f, BV b] w fun e w' => e = .returned (.int .u8 4) ∧ Below w.heap.size w w' := by
  have H := Own.start w
  go_enter Tryd.func27, Tryd.ntmps27
  exact walk5
theorem r8Class_any (f b : Nat) (w : World) (hf : f < 4) (hb : b < 2 ^ (64 * 2)) :
    Calls Tryd.prog 27 #[.int .u8 f, BV b] w fun e w' => e = .returned (.int .u8 (clsN f b : Nat)) ∧ Below w.heap.size w w' := by
  have cF := fun w => r7Fields_any f b w hf hb
  have cO := fun w => r7Ones_any f w
  have cP := fun w => r7Precision_any f w
  obtain ⟨p1, p2, -, -, -, -⟩ := formB f hf
  have ht : b % 2 ^ (pF f - 1) < top6 := Nat.lt_of_le_of_lt (Nat.mod_le _ _) (lt_top_bits b hb)
  have eq1 : ∀ w, (Op.equalIn 10000 46 (.agg (limbs (b % 2 ^ (pF f - 1)))) (.agg #[.int .u64 0, .int .u64 0, .int .u64 0, .int .u64 0, .int .u64 0, .int .u64 0])).run Tryd.prog w = .ok (decide (b % 2 ^ (pF f - 1) = 0)) w := fun w => run_equal_zero w _ ht
  unfold clsN
  unfold negN at cF
  generalize b % 2 ^ (pF f - 1) = t at *
  generalize expN f b = e at *
  generalize b.testBit (wF f - 1) = neg at *
  generalize eF f = m at *
  have cB := fun w => r2Bit_any t (pF f - 2) w (by omega)
  have hp : IntKind.i64.wrap ((pF f : Int) - 2) = ((pF f - 2 : Nat) : Int) := by rw [show (pF f : Int) - 2 = ((pF f - 2 : Nat) : Int) by omega]; exact IntWalk.i64_in _ (by omega)
  generalize pF f = p at *
  by_cases hx : e = 2 * m + 1
  · have hxb : ((e : Int) == ((2 * m + 1 : Nat) : Int)) = true := int_eq_true _ _ hx
    rw [if_pos hx]
    by_cases hz : t = 0
    · rw [decide_eq_true hz] at eq1
      rw [if_pos hz]
      cases neg
      · exact r8Class_inf_false f b e _ t 0 0 false false w cF cO eq1 hxb
      · exact r8Class_inf_true f b e _ t 0 0 false false w cF cO eq1 hxb
    · rw [decide_eq_false hz] at eq1
      rw [if_neg hz]
      cases hq : t.testBit (p - 2) <;> rw [hq] at cB
      · exact r8Class_nan_false f b e _ t (p - 2) p neg false w cF cO eq1 hxb hp cP cB
      · exact r8Class_nan_true f b e _ t (p - 2) p neg false w cF cO eq1 hxb hp cP cB
  · have hxb : ((e : Int) == ((2 * m + 1 : Nat) : Int)) = false := int_eq_false _ _ hx
    rw [if_neg hx]
    by_cases hy : e = 0
    · have hyb : ((e : Int) != 0) = false := by rw [hy]; rfl
      rw [if_pos hy]
      by_cases hz : t = 0
      · rw [decide_eq_true hz] at eq1
        rw [if_pos hz]
        cases neg
        · exact r8Class_zer_false f b e _ t 0 0 false false w cF cO hxb hyb eq1
        · exact r8Class_zer_true f b e _ t 0 0 false false w cF cO hxb hyb eq1
      · rw [decide_eq_false hz] at eq1
        rw [if_neg hz]
        cases neg
        · exact r8Class_sub_false f b e _ t 0 0 false false w cF cO hxb hyb eq1
        · exact r8Class_sub_true f b e _ t 0 0 false false w cF cO hxb hyb eq1
    · have hyb : ((e : Int) != 0) = true := by have := int_eq_false e 0 hy; rw [bne]; rw [show (0 : Int) = ((0 : Nat) : Int) from rfl, this]; rfl
      rw [if_neg hy]
      cases neg
      · exact r8Class_nor_false f b e _ t 0 0 false false w cF cO hxb hyb
      · exact r8Class_nor_true f b e _ t 0 0 false false w cF cO hxb hyb
theorem r8IsZero_t (f b c : Nat) (w : World) (hc : c = 3) (cC : ∀ w, Calls Tryd.prog 27 #[.int .u8 f, BV b] w fun e w' => e = .returned (.int .u8 (c : Nat)) ∧ Below w.heap.size w w')  :
    Calls Tryd.prog 8 #[.int .u8 f, BV b] w fun e w' => e = .returned (.bool (zerB c)) ∧ Below w.heap.size w w' := by
  have H := Own.start w
  have e1 : ((c : Int) == 3) = true := int_eq_true c 3 hc
  have HR := Lib.hid (show true = zerB c by rw [hc]; rfl)
  clear hc
  go_enter Tryd.func8, Tryd.ntmps8
  exact walk5
theorem r8IsZero_f (f b c : Nat) (w : World) (hc : c ≠ 3) (cC : ∀ w, Calls Tryd.prog 27 #[.int .u8 f, BV b] w fun e w' => e = .returned (.int .u8 (c : Nat)) ∧ Below w.heap.size w w')  :
    Calls Tryd.prog 8 #[.int .u8 f, BV b] w fun e w' => e = .returned (.bool (zerB c)) ∧ Below w.heap.size w w' := by
  have H := Own.start w
  have e1 : ((c : Int) == 3) = false := int_eq_false c 3 hc
  have HR := Lib.hid (show ∀ b : Bool, b = decide (c = 4) → b = zerB c by intro b hb; unfold zerB; rw [decide_eq_false hc]; exact hb)
  clear hc
  go_enter Tryd.func8, Tryd.ntmps8
  exact walk5
theorem r8IsZero_any (f b : Nat) (w : World) (hf : f < 4) (hb : b < 2 ^ (64 * 2)) (_ : Tab w) :
    Calls Tryd.prog 8 #[.int .u8 f, BV b] w fun e w' => e = .returned (.bool (zerB (clsN f b))) ∧ Below w.heap.size w w' := by
  by_cases hc : clsN f b = 3
  · exact r8IsZero_t f b _ w hc (fun w => r8Class_any f b w hf hb)
  · exact r8IsZero_f f b _ w hc (fun w => r8Class_any f b w hf hb)
open Go.RowKit
theorem addSub_no (f m a b : Nat) (w : World) (hT : Tab w) (cT : ∀ w, Calls Tryd.prog 17 #[.int .u8 f, BV b] w fun e w' => e = .returned (.bool false) ∧ Below w.heap.size w w') :
    Calls Tryd.prog 12 #[.int .u8 f, .int .u8 m, BV a, BV b] w fun e w' => e = .returned (.tuple #[BV 0, .int .u8 0, .int .i64 2]) ∧ Below w.heap.size w w' := by
  have H := Own.start w
  have HT := Lib.hid hT
  clear hT
  go_enter Tryd.func12, Tryd.ntmps12
  exact walk5
theorem addSub_yes (f m a b : Nat) (w : World) (hT : Tab w) (c x : Nat) (fl e0 : Int) (cT : ∀ w, Calls Tryd.prog 17 #[.int .u8 f, BV b] w fun e w' => e = .returned (.bool true) ∧ Below w.heap.size w w') (cF : ∀ w, Calls Tryd.prog 40 #[.int .u8 f, BV b] w fun e w' => e = .returned (BV c) ∧ Below w.heap.size w w') (cA : ∀ w, Tab w → Calls Tryd.prog 11 #[.int .u8 f, .int .u8 m, BV a, BV c] w fun e w' => e = .returned (.tuple #[BV x, .int .u8 fl, .int .i64 e0]) ∧ Below w.heap.size w w') :
    Calls Tryd.prog 12 #[.int .u8 f, .int .u8 m, BV a, BV b] w fun e w' => e = .returned (.tuple #[BV x, .int .u8 fl, .int .i64 e0]) ∧ Below w.heap.size w w' := by
  have H := Own.start w
  have HT := Lib.hid hT
  clear hT
  go_enter Tryd.func12, Tryd.ntmps12
  go_wp2_with (first
    | ((with_reducible show wpList _ _ _ (⟨_, .box _ _, _, _, _, _⟩ :: _) _ _); refine H.xb ?_; (intro g w H; simp only [Act.put, q1_, q2_, q3_]))
    | ((with_reducible show wpList _ _ _ (⟨_, .alloc _, _, _, _, _⟩ :: _) _ _); refine H.xa ?_; (intro g w H; simp only [Act.put, q1_, q2_, q3_]))
    | ((with_reducible show wpList _ _ _ (⟨_, .load _ _, _, _, _, _⟩ :: _) _ _); (first | refine H.xl ?_ | refine H.xm ?_); simp only [Act.put, q1_, q2_, q3_])
    | ((with_reducible show wpList _ _ _ (⟨_, .store _ _ _, _, _, _, _⟩ :: _) _ _); (first | refine H.xs ?_ | refine H.xt ?_); (intro w H; simp only [Act.put]))
    | ((with_reducible show Code.wp _ (.region 3 _ true) _ _ _); refine H.heldSub rfl (List.Sublist.cons _ (List.Sublist.refl _)) ?_; intro H; refine H.zr 0 ?_; (try simp only [Act.put, q1_, q2_, q3_]); (try simp only [q4_, q5_, q6_]); refine H.zr 1 ?_; (try simp only [Act.put, q1_, q2_, q3_]); (try simp only [q4_, q5_, q6_]); (first | refine H.zl 2 ?_ | refine H.zm 2 ?_); (try simp only [Act.put, q1_, q2_, q3_]); (try simp only [q4_, q5_, q6_]); refine H.zr 3 ?_; (try simp only [Act.put, q1_, q2_, q3_]); (try simp only [q4_, q5_, q6_]); (first | refine H.zl 4 ?_ | refine H.zm 4 ?_); (try simp only [Act.put, q1_, q2_, q3_]); (try simp only [q4_, q5_, q6_]); refine held1 5 ?_; unfold Oper.wp; go_simp; (first | (go_at_call 40; ((with_reducible refine (cF _).mono ?_); rintro e w ⟨rfl, hb⟩; replace H := H.call hb; clear hb)) | (go_at_call 11; ((with_reducible refine (cA _ (HT.out.below H.below)).mono ?_); rintro e w ⟨rfl, hb⟩; replace H := H.call hb; clear hb))); refine H.nx ?_; (try simp only [Act.put, q1_, q2_, q3_]); (try simp only [q4_, q5_, q6_]); refine held1 6 ?_; unfold Oper.wp; go_simp; (first | (go_at_call 40; ((with_reducible refine (cF _).mono ?_); rintro e w ⟨rfl, hb⟩; replace H := H.call hb; clear hb)) | (go_at_call 11; ((with_reducible refine (cA _ (HT.out.below H.below)).mono ?_); rintro e w ⟨rfl, hb⟩; replace H := H.call hb; clear hb))); refine H.nx ?_; (try simp only [Act.put, q1_, q2_, q3_]); (try simp only [q4_, q5_, q6_]); refine H.zr 7 ?_; (try simp only [Act.put, q1_, q2_, q3_]); (try simp only [q4_, q5_, q6_]); refine H.zr 8 ?_; (try simp only [Act.put, q1_, q2_, q3_]); (try simp only [q4_, q5_, q6_]); refine H.zr 9 ?_; (try simp only [Act.put, q1_, q2_, q3_]); (try simp only [q4_, q5_, q6_]); refine held1 10 ?_; (first | refine H.ys ?_ | refine H.yt ?_); intro w H; refine H.nx ?_; (try simp only [Act.put]); refine H.zr 11 ?_; (try simp only [Act.put, q1_, q2_, q3_]); (try simp only [q4_, q5_, q6_]); refine H.zr 12 ?_; (try simp only [Act.put, q1_, q2_, q3_]); (try simp only [q4_, q5_, q6_]); refine wpAnyH_done (by kernel_rfl) ?_ _)
    | (go_at_call 17; ((with_reducible refine (cT _).mono ?_); rintro e w ⟨rfl, hb⟩; replace H := H.call hb; clear hb))
    | (go_at_call 40; ((with_reducible refine (cF _).mono ?_); rintro e w ⟨rfl, hb⟩; replace H := H.call hb; clear hb))
    | (go_at_call 11; ((with_reducible refine (cA _ (HT.out.below H.below)).mono ?_); rintro e w ⟨rfl, hb⟩; replace H := H.call hb; clear hb))
    )
  all_goals
    refine bodyPost_ret (results_ctt rfl rfl (H.res rB v3_ (by first | with_reducible exact ext_2 _ _) (by rfl))) rfl ⟨?_, H.below⟩
    exact rfl
theorem flip_lt (f b : Nat) : flipN f b < 2 ^ (64 * 2) := by
  unfold flipN
  cases h : fitsB f b
  · exact (by decide : (0 : Nat) < 2 ^ (64 * 2))
  · obtain ⟨hf, -⟩ := (fits_iff f b).1 h
    exact below_fits f _ (mkN_fields f hf (!negN f b) (expN f b) (b % 2 ^ (pF f - 1)) (Nat.mod_lt _ (two_pos _)) (expN_lt f b hf)).2.2.2
theorem addSub_any (f m a b : Nat) (w : World) (hf : f < 256) (hm : m < 256) (ha : a < 2 ^ (64 * 2)) (hb : b < 2 ^ (64 * 2)) (hT : Tab w) :
    Calls Tryd.prog 12 #[.int .u8 f, .int .u8 m, BV a, BV b] w fun e w' => e = .returned (.tuple #[BV (subA f m a b).1, .int .u8 ((subA f m a b).2.1 : Nat), .int .i64 (subA f m a b).2.2]) ∧ Below w.heap.size w w' := by
  have cT := fun w => shapeFits_any f b w hb
  unfold subA
  cases h : fitsB f b
  · rw [h] at cT; exact addSub_no f m a b w hT cT
  · rw [h] at cT
    exact addSub_yes f m a b w hT _ _ _ _ cT (fun w => kindFlip_any f b w hf hb) (fun w hT => addAdd_any f m a (flipN f b) w hf hm ha (flip_lt f b) hT)
theorem addNear_out0 (f m a b : Nat) (w : World) (hT : Tab w) (cKa : ∀ w, Tab w → Calls Tryd.prog 6 #[.int .u8 f, BV a] w fun e w' => e = .returned (.bool true) ∧ Below w.heap.size w w') :
    Calls Tryd.prog 3 #[.int .u8 f, .int .u8 m, BV a, BV b] w fun e w' => e = .returned (.bool true) ∧ Below w.heap.size w w' := by
  have H := Own.start w
  have HT := Lib.hid hT
  clear hT
  go_enter Tryd.func3, Tryd.ntmps3
  exact walk5
theorem addNear_out1 (f m a b : Nat) (w : World) (hT : Tab w) (cKa : ∀ w, Tab w → Calls Tryd.prog 6 #[.int .u8 f, BV a] w fun e w' => e = .returned (.bool false) ∧ Below w.heap.size w w') (cKb : ∀ w, Tab w → Calls Tryd.prog 6 #[.int .u8 f, BV b] w fun e w' => e = .returned (.bool true) ∧ Below w.heap.size w w') :
    Calls Tryd.prog 3 #[.int .u8 f, .int .u8 m, BV a, BV b] w fun e w' => e = .returned (.bool true) ∧ Below w.heap.size w w' := by
  have H := Own.start w
  have HT := Lib.hid hT
  clear hT
  go_enter Tryd.func3, Tryd.ntmps3
  exact walk5
theorem addNear_out2 (f m a b : Nat) (w : World) (hT : Tab w) (cKa : ∀ w, Tab w → Calls Tryd.prog 6 #[.int .u8 f, BV a] w fun e w' => e = .returned (.bool false) ∧ Below w.heap.size w w') (cKb : ∀ w, Tab w → Calls Tryd.prog 6 #[.int .u8 f, BV b] w fun e w' => e = .returned (.bool false) ∧ Below w.heap.size w w') (cSa : ∀ w, Calls Tryd.prog 7 #[.int .u8 f, BV a] w fun e w' => e = .returned (.bool true) ∧ Below w.heap.size w w') :
    Calls Tryd.prog 3 #[.int .u8 f, .int .u8 m, BV a, BV b] w fun e w' => e = .returned (.bool true) ∧ Below w.heap.size w w' := by
  have H := Own.start w
  have HT := Lib.hid hT
  clear hT
  go_enter Tryd.func3, Tryd.ntmps3
  exact walk5
theorem addNear_out3 (f m a b : Nat) (w : World) (hT : Tab w) (cKa : ∀ w, Tab w → Calls Tryd.prog 6 #[.int .u8 f, BV a] w fun e w' => e = .returned (.bool false) ∧ Below w.heap.size w w') (cKb : ∀ w, Tab w → Calls Tryd.prog 6 #[.int .u8 f, BV b] w fun e w' => e = .returned (.bool false) ∧ Below w.heap.size w w') (cSa : ∀ w, Calls Tryd.prog 7 #[.int .u8 f, BV a] w fun e w' => e = .returned (.bool false) ∧ Below w.heap.size w w') (cSb : ∀ w, Calls Tryd.prog 7 #[.int .u8 f, BV b] w fun e w' => e = .returned (.bool true) ∧ Below w.heap.size w w') :
    Calls Tryd.prog 3 #[.int .u8 f, .int .u8 m, BV a, BV b] w fun e w' => e = .returned (.bool true) ∧ Below w.heap.size w w' := by
  have H := Own.start w
  have HT := Lib.hid hT
  clear hT
  go_enter Tryd.func3, Tryd.ntmps3
  exact walk5
theorem addNear_out4 (f m a b : Nat) (w : World) (hT : Tab w) (cKa : ∀ w, Tab w → Calls Tryd.prog 6 #[.int .u8 f, BV a] w fun e w' => e = .returned (.bool false) ∧ Below w.heap.size w w') (cKb : ∀ w, Tab w → Calls Tryd.prog 6 #[.int .u8 f, BV b] w fun e w' => e = .returned (.bool false) ∧ Below w.heap.size w w') (cSa : ∀ w, Calls Tryd.prog 7 #[.int .u8 f, BV a] w fun e w' => e = .returned (.bool false) ∧ Below w.heap.size w w') (cSb : ∀ w, Calls Tryd.prog 7 #[.int .u8 f, BV b] w fun e w' => e = .returned (.bool false) ∧ Below w.heap.size w w') (cZa : ∀ w, Tab w → Calls Tryd.prog 8 #[.int .u8 f, BV a] w fun e w' => e = .returned (.bool true) ∧ Below w.heap.size w w') :
    Calls Tryd.prog 3 #[.int .u8 f, .int .u8 m, BV a, BV b] w fun e w' => e = .returned (.bool true) ∧ Below w.heap.size w w' := by
  have H := Own.start w
  have HT := Lib.hid hT
  clear hT
  go_enter Tryd.func3, Tryd.ntmps3
  exact walk5
theorem addNear_out5 (f m a b : Nat) (w : World) (hT : Tab w) (cKa : ∀ w, Tab w → Calls Tryd.prog 6 #[.int .u8 f, BV a] w fun e w' => e = .returned (.bool false) ∧ Below w.heap.size w w') (cKb : ∀ w, Tab w → Calls Tryd.prog 6 #[.int .u8 f, BV b] w fun e w' => e = .returned (.bool false) ∧ Below w.heap.size w w') (cSa : ∀ w, Calls Tryd.prog 7 #[.int .u8 f, BV a] w fun e w' => e = .returned (.bool false) ∧ Below w.heap.size w w') (cSb : ∀ w, Calls Tryd.prog 7 #[.int .u8 f, BV b] w fun e w' => e = .returned (.bool false) ∧ Below w.heap.size w w') (cZa : ∀ w, Tab w → Calls Tryd.prog 8 #[.int .u8 f, BV a] w fun e w' => e = .returned (.bool false) ∧ Below w.heap.size w w') (cZb : ∀ w, Tab w → Calls Tryd.prog 8 #[.int .u8 f, BV b] w fun e w' => e = .returned (.bool true) ∧ Below w.heap.size w w') :
    Calls Tryd.prog 3 #[.int .u8 f, .int .u8 m, BV a, BV b] w fun e w' => e = .returned (.bool true) ∧ Below w.heap.size w w' := by
  have H := Own.start w
  have HT := Lib.hid hT
  clear hT
  go_enter Tryd.func3, Tryd.ntmps3
  exact walk5
theorem addNear_out6 (f m a b : Nat) (w : World) (hT : Tab w) (cKa : ∀ w, Tab w → Calls Tryd.prog 6 #[.int .u8 f, BV a] w fun e w' => e = .returned (.bool false) ∧ Below w.heap.size w w') (cKb : ∀ w, Tab w → Calls Tryd.prog 6 #[.int .u8 f, BV b] w fun e w' => e = .returned (.bool false) ∧ Below w.heap.size w w') (cSa : ∀ w, Calls Tryd.prog 7 #[.int .u8 f, BV a] w fun e w' => e = .returned (.bool false) ∧ Below w.heap.size w w') (cSb : ∀ w, Calls Tryd.prog 7 #[.int .u8 f, BV b] w fun e w' => e = .returned (.bool false) ∧ Below w.heap.size w w') (cZa : ∀ w, Tab w → Calls Tryd.prog 8 #[.int .u8 f, BV a] w fun e w' => e = .returned (.bool false) ∧ Below w.heap.size w w') (cZb : ∀ w, Tab w → Calls Tryd.prog 8 #[.int .u8 f, BV b] w fun e w' => e = .returned (.bool false) ∧ Below w.heap.size w w') (cM : ∀ w, Calls Tryd.prog 9 #[.int .u8 m] w fun e w' => e = .returned (.int .i64 2) ∧ w = w') :
    Calls Tryd.prog 3 #[.int .u8 f, .int .u8 m, BV a, BV b] w fun e w' => e = .returned (.bool true) ∧ Below w.heap.size w w' := by
  have H := Own.start w
  have HT := Lib.hid hT
  clear hT
  go_enter Tryd.func3, Tryd.ntmps3
  exact walk5
set_option maxHeartbeats 3200000 in
theorem addNear_s (f m a b t u s v x : Nat) (w : World) (hT : Tab w) (f1 f2 f3 f4 e3 e4 : Int) (cKa : ∀ w, Tab w → Calls Tryd.prog 6 #[.int .u8 f, BV a] w fun e w' => e = .returned (.bool false) ∧ Below w.heap.size w w') (cKb : ∀ w, Tab w → Calls Tryd.prog 6 #[.int .u8 f, BV b] w fun e w' => e = .returned (.bool false) ∧ Below w.heap.size w w') (cSa : ∀ w, Calls Tryd.prog 7 #[.int .u8 f, BV a] w fun e w' => e = .returned (.bool false) ∧ Below w.heap.size w w') (cSb : ∀ w, Calls Tryd.prog 7 #[.int .u8 f, BV b] w fun e w' => e = .returned (.bool false) ∧ Below w.heap.size w w') (cZa : ∀ w, Tab w → Calls Tryd.prog 8 #[.int .u8 f, BV a] w fun e w' => e = .returned (.bool false) ∧ Below w.heap.size w w') (cZb : ∀ w, Tab w → Calls Tryd.prog 8 #[.int .u8 f, BV b] w fun e w' => e = .returned (.bool false) ∧ Below w.heap.size w w') (cM : ∀ w, Calls Tryd.prog 9 #[.int .u8 m] w fun e w' => e = .returned (.int .i64 0) ∧ w = w') (cA : ∀ w, Tab w → Calls Tryd.prog 11 #[.int .u8 f, .int .u8 1, BV a, BV a] w fun e w' => e = .returned (.tuple #[BV t, .int .u8 f1, .int .i64 0]) ∧ Below w.heap.size w w') (cB : ∀ w, Tab w → Calls Tryd.prog 11 #[.int .u8 f, .int .u8 1, BV b, BV b] w fun e w' => e = .returned (.tuple #[BV u, .int .u8 f2, .int .i64 0]) ∧ Below w.heap.size w w') (cC : ∀ w, Tab w → Calls Tryd.prog 12 #[.int .u8 f, .int .u8 m, BV t, BV b] w fun e w' => e = .returned (.tuple #[BV s, .int .u8 f3, .int .i64 e3]) ∧ Below w.heap.size w w') (cD : ∀ w, Tab w → Calls Tryd.prog 12 #[.int .u8 f, .int .u8 m, BV u, BV a] w fun e w' => e = .returned (.tuple #[BV v, .int .u8 f4, .int .i64 e4]) ∧ Below w.heap.size w w') (cS1 : ∀ w, Calls Tryd.prog 7 #[.int .u8 f, BV s] w fun e w' => e = .returned (.bool true) ∧ Below w.heap.size w w')  :
    Calls Tryd.prog 3 #[.int .u8 f, .int .u8 m, BV a, BV b] w fun e w' => e = .returned (.bool true) ∧ Below w.heap.size w w' := by
  have H := Own.start w
  have HT := Lib.hid hT
  clear hT
  go_enter Tryd.func3, Tryd.ntmps3
  exact walk5
set_option maxHeartbeats 3200000 in
theorem addNear_t (f m a b t u s v x : Nat) (w : World) (hT : Tab w) (f1 f2 f3 f4 e3 e4 : Int) (cKa : ∀ w, Tab w → Calls Tryd.prog 6 #[.int .u8 f, BV a] w fun e w' => e = .returned (.bool false) ∧ Below w.heap.size w w') (cKb : ∀ w, Tab w → Calls Tryd.prog 6 #[.int .u8 f, BV b] w fun e w' => e = .returned (.bool false) ∧ Below w.heap.size w w') (cSa : ∀ w, Calls Tryd.prog 7 #[.int .u8 f, BV a] w fun e w' => e = .returned (.bool false) ∧ Below w.heap.size w w') (cSb : ∀ w, Calls Tryd.prog 7 #[.int .u8 f, BV b] w fun e w' => e = .returned (.bool false) ∧ Below w.heap.size w w') (cZa : ∀ w, Tab w → Calls Tryd.prog 8 #[.int .u8 f, BV a] w fun e w' => e = .returned (.bool false) ∧ Below w.heap.size w w') (cZb : ∀ w, Tab w → Calls Tryd.prog 8 #[.int .u8 f, BV b] w fun e w' => e = .returned (.bool false) ∧ Below w.heap.size w w') (cM : ∀ w, Calls Tryd.prog 9 #[.int .u8 m] w fun e w' => e = .returned (.int .i64 0) ∧ w = w') (cA : ∀ w, Tab w → Calls Tryd.prog 11 #[.int .u8 f, .int .u8 1, BV a, BV a] w fun e w' => e = .returned (.tuple #[BV t, .int .u8 f1, .int .i64 0]) ∧ Below w.heap.size w w') (cB : ∀ w, Tab w → Calls Tryd.prog 11 #[.int .u8 f, .int .u8 1, BV b, BV b] w fun e w' => e = .returned (.tuple #[BV u, .int .u8 f2, .int .i64 0]) ∧ Below w.heap.size w w') (cC : ∀ w, Tab w → Calls Tryd.prog 12 #[.int .u8 f, .int .u8 m, BV t, BV b] w fun e w' => e = .returned (.tuple #[BV s, .int .u8 f3, .int .i64 e3]) ∧ Below w.heap.size w w') (cD : ∀ w, Tab w → Calls Tryd.prog 12 #[.int .u8 f, .int .u8 m, BV u, BV a] w fun e w' => e = .returned (.tuple #[BV v, .int .u8 f4, .int .i64 e4]) ∧ Below w.heap.size w w') (cS1 : ∀ w, Calls Tryd.prog 7 #[.int .u8 f, BV s] w fun e w' => e = .returned (.bool false) ∧ Below w.heap.size w w') (cS2 : ∀ w, Calls Tryd.prog 7 #[.int .u8 f, BV v] w fun e w' => e = .returned (.bool true) ∧ Below w.heap.size w w')  :
    Calls Tryd.prog 3 #[.int .u8 f, .int .u8 m, BV a, BV b] w fun e w' => e = .returned (.bool true) ∧ Below w.heap.size w w' := by
  have H := Own.start w
  have HT := Lib.hid hT
  clear hT
  go_enter Tryd.func3, Tryd.ntmps3
  exact walk5
set_option maxHeartbeats 3200000 in
theorem addNear_go (f m a b t u s v x : Nat) (w : World) (hT : Tab w) (f1 f2 f3 f4 e3 e4 : Int) (cKa : ∀ w, Tab w → Calls Tryd.prog 6 #[.int .u8 f, BV a] w fun e w' => e = .returned (.bool false) ∧ Below w.heap.size w w') (cKb : ∀ w, Tab w → Calls Tryd.prog 6 #[.int .u8 f, BV b] w fun e w' => e = .returned (.bool false) ∧ Below w.heap.size w w') (cSa : ∀ w, Calls Tryd.prog 7 #[.int .u8 f, BV a] w fun e w' => e = .returned (.bool false) ∧ Below w.heap.size w w') (cSb : ∀ w, Calls Tryd.prog 7 #[.int .u8 f, BV b] w fun e w' => e = .returned (.bool false) ∧ Below w.heap.size w w') (cZa : ∀ w, Tab w → Calls Tryd.prog 8 #[.int .u8 f, BV a] w fun e w' => e = .returned (.bool false) ∧ Below w.heap.size w w') (cZb : ∀ w, Tab w → Calls Tryd.prog 8 #[.int .u8 f, BV b] w fun e w' => e = .returned (.bool false) ∧ Below w.heap.size w w') (cM : ∀ w, Calls Tryd.prog 9 #[.int .u8 m] w fun e w' => e = .returned (.int .i64 0) ∧ w = w') (cA : ∀ w, Tab w → Calls Tryd.prog 11 #[.int .u8 f, .int .u8 1, BV a, BV a] w fun e w' => e = .returned (.tuple #[BV t, .int .u8 f1, .int .i64 0]) ∧ Below w.heap.size w w') (cB : ∀ w, Tab w → Calls Tryd.prog 11 #[.int .u8 f, .int .u8 1, BV b, BV b] w fun e w' => e = .returned (.tuple #[BV u, .int .u8 f2, .int .i64 0]) ∧ Below w.heap.size w w') (cC : ∀ w, Tab w → Calls Tryd.prog 12 #[.int .u8 f, .int .u8 m, BV t, BV b] w fun e w' => e = .returned (.tuple #[BV s, .int .u8 f3, .int .i64 e3]) ∧ Below w.heap.size w w') (cD : ∀ w, Tab w → Calls Tryd.prog 12 #[.int .u8 f, .int .u8 m, BV u, BV a] w fun e w' => e = .returned (.tuple #[BV v, .int .u8 f4, .int .i64 e4]) ∧ Below w.heap.size w w') (cS1 : ∀ w, Calls Tryd.prog 7 #[.int .u8 f, BV s] w fun e w' => e = .returned (.bool false) ∧ Below w.heap.size w w') (cS2 : ∀ w, Calls Tryd.prog 7 #[.int .u8 f, BV v] w fun e w' => e = .returned (.bool false) ∧ Below w.heap.size w w') (cE : ∀ w, Tab w → Calls Tryd.prog 12 #[.int .u8 f, .int .u8 m, BV a, BV b] w fun e w' => e = .returned (.tuple #[BV x, .int .u8 0, .int .i64 0]) ∧ Below w.heap.size w w')  :
    Calls Tryd.prog 3 #[.int .u8 f, .int .u8 m, BV a, BV b] w fun e w' => e = .returned (.bool true) ∧ Below w.heap.size w w' := by
  have H := Own.start w
  have HT := Lib.hid hT
  clear hT
  go_enter Tryd.func3, Tryd.ntmps3
  exact walk5
theorem sumX_fits (f m : Nat) (nx : Bool) (sx : Nat) (ex : Int) (ny : Bool) (sy : Nat) (ey : Int) (hf : f < 4) (hx : sx ≠ 0) : fitsB f (sumX f m nx sx ex ny sy ey).1 = true := by
  unfold sumX
  have h1 : sx * 2 ^ (ex - min ex ey).toNat ≠ 0 := Nat.mul_ne_zero hx (Nat.ne_of_gt (two_pos _))
  generalize sx * 2 ^ (ex - min ex ey).toNat = X at *
  generalize sy * 2 ^ (ey - min ex ey).toNat = Y at *
  split
  · exact (pack_sign f m nx _ _ false hf (by omega)).1
  · split
    · exact (zero_parts f _ hf).1
    · split
      · exact (pack_sign f m nx _ _ false hf (by omega)).1
      · exact (pack_sign f m ny _ _ false hf (by omega)).1
theorem near_fin (f a : Nat) (h : kindlessB f a = false) (hz : zerB (clsN f a) = false) : fitsB f a = true ∧ Fin0 f a := by
  obtain ⟨h1, h2⟩ := kindless_not f a h
  refine ⟨h1, ?_⟩
  rcases h2 with h2 | h2 | h2
  · exact h2
  · rw [h2] at hz; cases hz
  · rw [h2] at hz; cases hz
theorem addNear_any (f m a b : Nat) (w : World) (hf : f < 256) (hm : m < 256) (ha : a < 2 ^ (64 * 2)) (hb : b < 2 ^ (64 * 2)) (hT : Tab w) :
    Calls Tryd.prog 3 #[.int .u8 f, .int .u8 m, BV a, BV b] w fun e w' => e = .returned (.bool true) ∧ Below w.heap.size w w' := by
  have cKa := fun w hT => addKindless_any f a w hf ha hT
  have cKb := fun w hT => addKindless_any f b w hf hb hT
  have cSa := fun w => kindSign_any f a w hf ha
  have cSb := fun w => kindSign_any f b w hf hb
  have cM := fun w => shapeCheckMode_any m w hm
  cases ka : kindlessB f a
  case true => rw [ka] at cKa; exact addNear_out0 f m a b w hT cKa
  cases kb : kindlessB f b
  case true => rw [ka] at cKa; rw [kb] at cKb; exact addNear_out1 f m a b w hT cKa cKb
  rw [ka] at cKa
  rw [kb] at cKb
  have fa := (kindless_not f a ka).1
  have fb := (kindless_not f b kb).1
  obtain ⟨hf4, -⟩ := (fits_iff f a).1 fa
  rw [fa, Bool.true_and] at cSa
  rw [fb, Bool.true_and] at cSb
  cases na : negN f a
  case true => rw [na] at cSa; exact addNear_out2 f m a b w hT cKa cKb cSa
  rw [na] at cSa
  cases nb : negN f b
  case true => rw [nb] at cSb; exact addNear_out3 f m a b w hT cKa cKb cSa cSb
  rw [nb] at cSb
  have cZa := fun w hT => r8IsZero_any f a w hf4 ha hT
  have cZb := fun w hT => r8IsZero_any f b w hf4 hb hT
  cases za : zerB (clsN f a)
  case true => rw [za] at cZa; exact addNear_out4 f m a b w hT cKa cKb cSa cSb cZa
  rw [za] at cZa
  cases zb : zerB (clsN f b)
  case true => rw [zb] at cZb; exact addNear_out5 f m a b w hT cKa cKb cSa cSb cZa cZb
  rw [zb] at cZb
  by_cases hm5 : m < 5
  case neg => rw [decide_eq_false hm5] at cM; exact addNear_out6 f m a b w hT cKa cKb cSa cSb cZa cZb cM
  rw [decide_eq_true hm5] at cM
  have ca := (near_fin f a ka za).2
  have cb := (near_fin f b kb zb).2
  obtain ⟨n1, n2, n3⟩ := add_near f m a b hf4 fa fb ca cb na nb
  have cA := fun w hT => addAdd_any f 1 a a w hf (by decide) ha ha hT
  have cB := fun w hT => addAdd_any f 1 b b w hf (by decide) hb hb hT
  have eA : ∀ q x y, q < 5 → fitsB f x = true → fitsB f y = true → addN f q x y = ((addR f q x y).1, (addR f q x y).2, 0) := fun q x y hq hx hy => by
    unfold addN binOk; rw [decide_eq_true hf4, decide_eq_true hq, hx, hy]; rfl
  rw [eA 1 a a (by decide) fa fa] at cA
  rw [eA 1 b b (by decide) fb fb] at cB
  have eS : ∀ x y, fitsB f x = true → fitsB f y = true → Fin0 f y → subA f m x y = ((subR f m x y).1, (subR f m x y).2, 0) := fun x y hx hy hc => by
    unfold subA subR; rw [hy]; exact eA m x _ hm5 hx (flip_parts f y hy hc).1
  have cC := fun w hT => addSub_any f m (addR f 1 a a).1 b w hf hm (below_fits f _ n1) hb hT
  have cD := fun w hT => addSub_any f m (addR f 1 b b).1 a w hf hm (below_fits f _ n2) ha hT
  have cE := fun w hT => addSub_any f m a b w hf hm ha hb hT
  rw [eS _ b n1 fb cb] at cC
  rw [eS _ a n2 fa ca] at cD
  rw [eS a b fa fb cb] at cE
  have fit : ∀ x y, fitsB f x = true → fitsB f y = true → Fin0 f x → negN f x = false → Fin0 f y → negN f y = false → fitsB f (subR f m (addR f 1 x x).1 y).1 = true := by
    intro x y hx hy cx nx cy ny
    obtain ⟨hcx, -⟩ := can_of f x hx cx
    obtain ⟨c, q, k1, k2, k3⟩ := two_of f _ _ hf4 hcx
    rw [two_R f x hx cx nx]
    obtain ⟨e1, e2, e3, e4, e5⟩ := enc_can f c q false hf4 k1
    rw [← k2] at e1 e2 e3 e4 e5
    rw [sub_fin f m _ y e1 hy e5 cy e2 ny]
    refine sumX_fits f m _ _ _ _ _ _ hf4 ?_
    rw [e3]; exact k1.pos
  have cS1 := fun w => kindSign_any f (subR f m (addR f 1 a a).1 b).1 w hf (below_fits f _ (fit a b fa fb ca na cb nb))
  have cS2 := fun w => kindSign_any f (subR f m (addR f 1 b b).1 a).1 w hf (below_fits f _ (fit b a fb fa cb nb ca na))
  rw [fit a b fa fb ca na cb nb, Bool.true_and] at cS1
  rw [fit b a fb fa cb nb ca na, Bool.true_and] at cS2
  cases s1 : negN f (subR f m (addR f 1 a a).1 b).1
  case true => rw [s1] at cS1; exact addNear_s f m a b _ _ _ _ 0 w hT _ _ _ _ _ _ cKa cKb cSa cSb cZa cZb cM cA cB cC cD cS1
  rw [s1] at cS1
  cases s2 : negN f (subR f m (addR f 1 b b).1 a).1
  case true => rw [s2] at cS2; exact addNear_t f m a b _ _ _ _ 0 w hT _ _ _ _ _ _ cKa cKb cSa cSb cZa cZb cM cA cB cC cD cS1 cS2
  rw [s2] at cS2
  rw [n3 s1 s2] at cE
  exact addNear_go f m a b _ _ _ _ _ w hT _ _ _ _ _ _ cKa cKb cSa cSb cZa cZb cM cA cB cC cD cS1 cS2 cE
open Go.ChangeShapes Go.WideShapes Go.ChangeAt Go.RowKit
theorem own : ownKnob Tryd.prog.godebug = none := by kernel_rfl
theorem laidOut : laidOutB Tryd.prog = true := by kernel_rfl
/-- What every row of this seat lists. -/
def laidL : List (String × DataW Unit) := [("math/bits.deBruijn64tab", Rows.laid_math_bits_deBruijn64tab)]
theorem gTab : Tryd.prog.globalNamed "math/bits.deBruijn64tab" = some 0 := by kernel_rfl
theorem tTab : (Tryd.prog.globals[0]?).map (·.type) = some 107 := by kernel_rfl
theorem ren1 : Tryd.lays29_ren.g 1 = 0 := rfl
theorem door_met (os : Os) (args : Array Value) : laidMetH Tryd.prog laidL ((World.doorLaid Tryd.prog 400 os).forCall (fun _ _ => 0) ⟨#[], args, []⟩).memory :=
  laidMetH_of_parts3 (fuel := 8) (laidMet_of_run' 8 (by kernel_rfl) (by kernel_rfl)) (by kernel_rfl) (by kernel_rfl)
theorem datum_map {H : Type} : (Rows.laid_math_bits_deBruijn64tab : DataW H) = .agg (Lib.deBruijn64tab.map fun x => .lit (.int .u8 (x : Nat))) := rfl
theorem tab_len : Lib.deBruijn64tab.length = 64 := by decide
theorem tab_of_laid {W : World} (h : laidMetH Tryd.prog laidL W) : Tab W := by
  rw [MakeChecks.laidMetH_plain _ _ _ (by kernel_rfl)] at h
  obtain ⟨ps, ⟨g0, t0, cs0, f0, p0, q0, hg0, ht0, hv0, hd0, _, _⟩, _, _⟩ := h
  obtain rfl := Option.some.inj (gTab.symm.trans hg0)
  obtain rfl := Option.some.inj (tTab.symm.trans ht0)
  obtain ⟨xs, m1, rfl, hx1, hlen, hn, hel⟩ := DataW.trod_array Tryd.underlying107 hd0
  have c1 : Tryd.prog.cellsOf 5 = 1 := by kernel_rfl
  rw [c1] at hel
  simp only [Prod.mk.injEq, datum_map, DataW.agg.injEq] at hx1
  intro j hj
  rw [ren1]
  have hj64 : j < 64 := by rw [tab_len] at hj; exact hj
  have hcell := World.var?_cell hg0 hv0 j
  rw [hcell]
  have h1 := hel j hj64
  have hxj : xs[j]? = some xs[j] := List.getElem?_eq_getElem (by omega)
  rw [hxj, Nat.mul_one] at h1
  obtain ⟨n, e1, e2, _⟩ := DataW.trod_int Tryd.underlying5 h1
  have hm : (xs.map (·.1))[j]? = some (.lit (.int .u8 n)) := by rw [List.getElem?_map, hxj, e2]; rfl
  rw [← hx1.1, List.getElem?_map, List.getElem?_eq_getElem hj] at hm
  simp only [Option.map_some, Option.some.injEq, DataW.lit.injEq, Lit.int.injEq, true_and] at hm
  have hget : cs0[j]? = some (.int .u8 n) := by
    have h2 : ((cs0.toList.drop j).take 1)[0]? = some (.int .u8 n) := by rw [e1]; rfl
    rw [List.getElem?_take_of_lt (by decide), List.getElem?_drop, Nat.add_zero, Array.getElem?_toList] at h2
    exact h2
  rw [hget, ← hm, List.getD_eq_getElem?_getD, List.getElem?_eq_getElem hj]; rfl
theorem two_words (x y : Nat) (hx : x < 18446744073709551616) (hy : y < 18446744073709551616) : ∃ b : Nat, Value.agg #[.int .u64 (x : Nat), .int .u64 (y : Nat)] = BV b ∧ b < 2 ^ (64 * 2) := by
  refine ⟨x * 18446744073709551616 + y, ?_, by omega⟩
  have h1 : limb (x * 18446744073709551616 + y) 1 = (x : Nat) := by
    show ((limbN (x * 18446744073709551616 + y) 1 : Nat) : Int) = x
    unfold limbN; rw [show 2 ^ (64 * 1) = 18446744073709551616 from rfl]; omega
  have h0 : limb (x * 18446744073709551616 + y) 0 = (y : Nat) := by
    show ((limbN (x * 18446744073709551616 + y) 0 : Nat) : Int) = y
    unfold limbN; rw [show 2 ^ (64 * 0) = 1 from rfl]; omega
  show Value.agg #[_, _] = .agg #[.int .u64 (limb _ 1), .int .u64 (limb _ 0)]
  rw [h1, h0]
theorem bits_cells : Tryd.prog.cellsOf 26 = 2 := by kernel_rfl
/-- An argument of 128 bits is the encoding of a number. -/
theorem open_bits {H : Type} {enc : TypeId × Value → H} {W : World} {r : Reach} {base b0 : Nat} {spare : Nat → Bool} {held : Bool} {v : Value} {d : DataW H} {p : List MemPlace}
    (hv : Value.okWide Tryd.prog W r b0 26 v) (h : DataW.Trod enc Tryd.prog W base spare held 26 v d p) : ∃ b : Nat, v = BV b ∧ b < 2 ^ (64 * 2) := by
  obtain ⟨c0, c1, y0, y1, m, rfl, rfl, rfl, hy0, hy1⟩ := Go.Joins.open_agg2 Tryd.underlying26 (by kernel_rfl) bits_cells hv h
  obtain ⟨x, e0, rfl, wx⟩ := DataW.trod_int Tryd.underlying24 hy0
  obtain ⟨y, e1, rfl, wy⟩ := DataW.trod_int Tryd.underlying24 hy1
  simp at e0 e1
  subst e0 e1
  have bx := bounds_u64 wx
  have bY := bounds_u64 wy
  obtain ⟨x, rfl⟩ := Int.eq_ofNat_of_zero_le bx.1
  obtain ⟨y, rfl⟩ := Int.eq_ofNat_of_zero_le bY.1
  exact two_words x y (by omega) (by omega)
theorem nat_u8 {x : Int} (h : (Lit.int .u8 x).wf = true) : ∃ n : Nat, x = n ∧ n < 256 := by
  have b := bounds_u8 h
  obtain ⟨n, rfl⟩ := Int.eq_ofNat_of_zero_le b.1
  exact ⟨n, rfl, by omega⟩
open Go.ChangeShapes Go.WideShapes Go.ChangeAt Go.RowKit
namespace RowAddNear
theorem lifted (os : Os) (started : os.Started) (H : Type) (enc : TypeId × Value → H) :
    ReturnsInHanded {} Tryd.checked os 3 .any (fun w args => (Rows.addNearSpec.pre enc Tryd.prog Tryd.f3 [] false w args ∧ laidMetH Tryd.prog laidL w) ∧ sizedMet enc Tryd.prog Tryd.f3 (OpenSpec.ofChange Rows.addNearSpec) false w args)
      (Rows.addNearSpec.post enc Tryd.prog Tryd.f3 false true false false) := by
  refine returnsInHanded_of_change_and (C := Tryd.checked) (X := fun w _ => laidMetH Tryd.prog laidL w) (fun _ _ _ hh h => h.of_heap hh) own started (by kernel_rfl) Tryd.func3
    (ChangeSpec.witness_shaped (enc := enc) (C := Tryd.checked) (os := os) (X := fun w _ => laidMetH Tryd.prog laidL w) false (World.doorLaid Tryd.prog 400 os) #[.int .u8 0, .int .u8 0, .agg #[.int .u64 0, .int .u64 0], .agg #[.int .u64 0, .int .u64 0]] 8 rfl (World.shaped_of_RefB (by kernel_rfl) (by kernel_rfl)) (by kernel_rfl) (by kernel_rfl) (by kernel_rfl) (door_met os _)) ?_
  intro W base args ds gs before hval0 hW _ _ hL _
  have hval : ∀ (j : Nat) t v, Tryd.f3.params[j]? = some t → args[j]? = some v → Value.okWide Tryd.prog W .any base t v := hval0
  have hW' := hW
  obtain ⟨p, q, hA0, hV, rfl, hfz, hnd⟩ := hW
  have hA : DataW.TrodAll enc Tryd.prog W 0 (fun _ => true) true Tryd.f3.params.toList args.toList ds p := hA0
  rw [Tryd.params3] at hA hval
  obtain ⟨v0, vs0, d0, ds0, p0, q0, hargs, rfl, rfl, h0, r0⟩ := trodAll_cons hA
  obtain ⟨v1, vs1, d1, ds1, p1, q1, rfl, rfl, rfl, h1, r1⟩ := trodAll_cons r0
  obtain ⟨v2, vs2, d2, ds2, p2, q2, rfl, rfl, rfl, h2, r2⟩ := trodAll_cons r1
  obtain ⟨v3, vs3, d3, ds3, p3, q3, rfl, rfl, rfl, h3, r3⟩ := trodAll_cons r2
  obtain ⟨rfl, rfl, rfl⟩ := trodAll_nil r3
  obtain rfl : args = #[v0, v1, v2, v3] := by cases args; simp_all
  obtain ⟨rfl, rfl⟩ := trodVars_none hV
  have hT : Tab W := tab_of_laid hL
  obtain ⟨b0, rfl, rfl, rfl, w0⟩ := open_int Tryd.underlying22 (hval 0 22 v0 rfl rfl) h0
  obtain ⟨a0, rfl, n0⟩ := nat_u8 w0
  obtain ⟨b1, rfl, rfl, rfl, w1⟩ := open_int Tryd.underlying23 (hval 1 23 v1 rfl rfl) h1
  obtain ⟨a1, rfl, n1⟩ := nat_u8 w1
  have k2 := h2
  have lt2 : ∀ x ∈ p2, x.block < W.heap.size := by obtain ⟨m, hm⟩ := k2; exact DataW.trod_lt m _ _ _ hm
  obtain ⟨a2, rfl, n2⟩ := open_bits (hval 2 26 v2 rfl rfl) h2
  have k3 := h3
  have lt3 : ∀ x ∈ p3, x.block < W.heap.size := by obtain ⟨m, hm⟩ := k3; exact DataW.trod_lt m _ _ _ hm
  obtain ⟨a3, rfl, n3⟩ := open_bits (hval 3 26 v3 rfl rfl) h3
  clear hA0 hval0
  refine (addNear_any a0 a1 a2 a3 W n0 n1 n2 n3 hT).mono fun e W' ⟨he, bel⟩ => ?_
  subst he
  exact ⟨_, rfl, _, _, _, [], _, [], hW', trodAll_mk1 (shut_bool Tryd.underlying4 _), (trodAll_cons_mk (shut_int Tryd.underlying22 w0) (trodAll_cons_mk (shut_int Tryd.underlying23 w1) (trodAll_cons_mk (Below.trod laidOut (by kernel_rfl) (of_decide_eq_true (by kernel_rfl)) k2 bel lt2) (trodAll_cons_mk (Below.trod laidOut (by kernel_rfl) (of_decide_eq_true (by kernel_rfl)) k3 bel lt3) trodAll_mk0)))), rfl, bel.frame _, fun h => by cases h⟩
theorem over : Rows.addNearRow.holds Tryd.pinned (OpenSpec.ofChange Rows.addNearSpec) :=
  OpenClaim.holds_of_wide 3 Tryd.f3 rfl rfl rfl rfl rfl rfl rfl ⟨rfl, rfl, rfl, rfl, rfl⟩ rfl rfl rfl rfl rfl (by kernel_rfl) Tryd.func3 (by kernel_rfl)
    (of_decide_eq_true (by kernel_rfl)) (by unfold Func.isWrapper; first | (rw [if_pos (by decide +kernel)]; kernel_rfl) | (rw [if_neg (by decide +kernel)]; exact ⟨rfl, rfl⟩))
    (fun os started H enc _ => lifted os started H enc)
end RowAddNear
/-- The card, for the claim. -/
theorem addNear_holds : Rows.AddNearCardSaid :=
  Claim7.holds_tied_plain_at .later [] [.data] true (true, "dfb091d358b4ed08a8bb897983ca73cd448d1acb7dc1e0737d44fec306a31b84") false
    RowAddNear.over (fun _ h => by cases h) (by kernel_rfl) (fun _ h => by cases h) addNear_row_tie rfl ⟨rfl, rfl⟩ (by kernel_rfl) rfl
    (fun f fn hf hfn => by
      obtain rfl : f = 3 := Option.some.inj ((show Tryd.prog.funcNamed "abacus/abacuslaw11.AddNear" = some 3 by kernel_rfl).symm.trans hf) |>.symm
      obtain rfl : fn = Tryd.f3 := (Option.some.inj (Tryd.func3.symm.trans hfn)).symm
      exact ⟨by kernel_rfl, fun j t ht => by
        rw [Tryd.params3] at ht
        have hm : t ∈ [22, 23, 26, 26] := by simpa using Array.mem_of_getElem? ht
        have hall : ([22, 23, 26, 26].all fun u => !Tryd.prog.wantsStandIn u) = true := by kernel_rfl
        exact (show Tryd.prog.wantsStandIn t = false by simpa using List.all_eq_true.1 hall t hm)⟩)
    (by kernel_rfl)
#print axioms addNear_holds
end Go.Proofs.YtbngedcblngnhaaDoor
