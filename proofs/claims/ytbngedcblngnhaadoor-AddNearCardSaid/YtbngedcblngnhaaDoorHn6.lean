/- Part 6 of what is proved: Wcmp, Ad0, Ad1, Ad2, Ad3, Ad4, Ad5, Fin, Fin2, Adj, Lat, Rb, R2, R2m. -/
import Derived.Deep.RegionWith
import Derived.Deep.QuietTactic
import Derived.BigQuiet
import Derived.Outline
import Derived.Test.YtbngedcblngnhaaDoorHn0
import Derived.Test.YtbngedcblngnhaaDoorHn1
import Derived.Test.YtbngedcblngnhaaDoorHn2
import Derived.Test.YtbngedcblngnhaaDoorHn3
import Derived.Test.YtbngedcblngnhaaDoorHn4
import Derived.Test.YtbngedcblngnhaaDoorHn5
set_option linter.unusedSimpArgs false
set_option linter.unusedVariables false
set_option linter.unnecessarySimpa false
set_option maxRecDepth 100000
set_option maxHeartbeats 1600000
namespace Go.Proofs.YtbngedcblngnhaaDoor
open Go.RowKit
theorem div_step (a k : Nat) : a / 2 ^ (64 * k) = a / 2 ^ (64 * (k + 1)) * 18446744073709551616 + limbN a k := by
  unfold limbN
  rw [pw_succ, ← Nat.div_div_eq_div_mul]
  have := Nat.div_add_mod (a / 2 ^ (64 * k)) 18446744073709551616
  omega
theorem cmp_less (a b k : Nat) (h : a / 2 ^ (64 * (k + 1)) = b / 2 ^ (64 * (k + 1))) (hl : limbN a k < limbN b k) : a < b := by
  have h1 := div_step a k
  have h2 := div_step b k
  rw [h] at h1
  rcases Nat.lt_or_ge a b with hab | hab
  · exact hab
  · have := Nat.div_le_div_right (c := 2 ^ (64 * k)) hab
    omega
theorem cmp_same (a b k : Nat) (h : a / 2 ^ (64 * (k + 1)) = b / 2 ^ (64 * (k + 1))) (hl : limbN a k = limbN b k) : a / 2 ^ (64 * k) = b / 2 ^ (64 * k) := by
  rw [div_step a k, div_step b k, h, hl]
def EqFrom (a b k : Nat) : Prop := a / 2 ^ (64 * k) = b / 2 ^ (64 * k)
theorem eqFrom6 {a b : Nat} (ha : a < top6) (hb : b < top6) : EqFrom a b 6 := by
  unfold top6 at ha hb
  unfold EqFrom
  rw [Nat.div_eq_of_lt ha, Nat.div_eq_of_lt hb]
theorem below_drewN {B : Nat} {w w' : World} (h : Below B w w') (n : Nat) : Below B w (w'.drewN n) := ⟨h.os, h.tape, h.output, h.size, h.block⟩
theorem limb_lt (a b k : Nat) : limb a k < limb b k ↔ limbN a k < limbN b k := by unfold limb; omega
theorem wideCmp_any (a b : Nat) (w : World) (ha : a < top6) (hb : b < top6) :
    Calls Tryd.prog 37 #[W a, W b] w fun e w' => e = .returned (.int .i64 (cmpN a b)) ∧ Below w.heap.size w w' := by
  have sa := limbs_size a
  have sb := limbs_size b
  have E6 := eqFrom6 ha hb
  clear ha hb
  go_enter Tryd.func37, Tryd.ntmps37
  go_wp2_with fail
  go_loopw [5] (fun i wr => ∃ k : Nat, k ≤ 6 ∧ i = .int .i64 ((k : Int) - 1) ∧ EqFrom a b k ∧ Blk 46 wr w.heap.size (limbs a) ∧ Blk 46 wr (w.heap.size + 1) (limbs b) ∧ Below w.heap.size w wr) (fun i _ => (intOf i + 1).toNat)
  case atStart =>
    refine ⟨6, by omega, rfl, E6, (Blk.new w _).alloc _, ?_, ((Below.refl _ _).alloc (Nat.le_refl _) _).alloc (by simp) _⟩
    have := Blk.new (T := 46) (w.alloc (.cells (limbs a) 46)) (limbs b)
    simpa using this
  case round =>
    obtain ⟨k, hk, rfl, hE, hA, hB, hbel⟩ := hrel
    cases k with
    | zero =>
      have Z := Lib.hid (show (0 : Int) = cmpN a b by
        have : a = b := by have := hE; unfold EqFrom at this; simpa using this
        unfold cmpN; rw [if_neg (by omega), if_neg (by omega)])
      clear hE
      go_wp2_with fail
      go_ret
      exact ⟨ret_int Z.out, hbel⟩
    | succ j =>
      have ca := hA.cell j (limbs_get a j (by omega))
      have cb := hB.cell j (limbs_get b j (by omega))
      rw [show ((j + 1 : Nat) : Int) - 1 = (j : Int) by omega]
      by_cases h1 : limb a j < limb b j
      · have Z := Lib.hid (show (-1 : Int) = cmpN a b by
          have := cmp_less a b j hE ((limb_lt a b j).1 h1)
          unfold cmpN; rw [if_pos this])
        have d1 : decide (limb a j < limb b j) = true := decide_eq_true h1
        clear hE
        go_wp2_with fail
        go_quiet (fail)
        go_wp2_with fail
        go_ret
        exact ⟨ret_int Z.out, below_drewN hbel _⟩
      · have d1 : decide (limb a j < limb b j) = false := decide_eq_false h1
        by_cases h2 : limb b j < limb a j
        · have Z := Lib.hid (show (1 : Int) = cmpN a b by
            have := cmp_less b a j hE.symm ((limb_lt b a j).1 h2)
            unfold cmpN; rw [if_neg (by omega), if_pos this])
          have d2 : decide (limb b j < limb a j) = true := decide_eq_true h2
          clear hE h1
          go_wp2_with fail
          go_quiet (fail)
          go_wp2_with fail
          go_quiet (fail)
          go_wp2_with fail
          go_ret
          exact ⟨ret_int Z.out, below_drewN (below_drewN hbel _) _⟩
        · have d2 : decide (limb b j < limb a j) = false := decide_eq_false h2
          have S : EqFrom a b j := cmp_same a b j hE (by unfold limb at h1 h2; omega)
          clear hE h1 h2
          go_wp2_with fail
          go_quiet (fail)
          go_wp2_with fail
          go_quiet (fail)
          go_wp2_with fail
          go_roundw
          case rel => exact ⟨j, by omega, rfl, S, hA, hB, below_drewN hbel _⟩
          case measure => simp [intOf]
open Go.RowKit
theorem set_rw (n : Bool) (s : Nat) (e : Int) (mo n2 : Bool) (s2 : Nat) (e2 : Int) (mo2 : Bool) : setRow (rough n s e mo) 0 (rough n2 s2 e2 mo2).toList = rough n2 s2 e2 mo2 := set_all _ _ rfl
theorem addAdd_no (f m a b : Nat) (c1 s1 f1 : Nat) (x1 : Int) (c2 s2 f2 : Nat) (x2 : Int) (c3 s3 f3 : Nat) (x3 : Int) (w : World) (hT : Tab w) (cO : ∀ w g, Tab w → Blk 26 w g (cat2 (bc a) (bc b)) → Calls Tryd.prog 28 #[.int .u8 f, .int .u8 m, .slice (some ⟨g, 0, none⟩) 2 2] w fun e w' => e = .returned (.tuple #[.agg (tri c1 s1 x1 f1 c2 s2 x2 f2 c3 s3 x3 f3), .bool false]) ∧ Below w.heap.size w w') :
    Calls Tryd.prog 11 #[.int .u8 f, .int .u8 m, BV a, BV b] w fun e w' => e = .returned (.tuple #[BV 0, .int .u8 0, .int .i64 2]) ∧ Below w.heap.size w w' := by
  have H := Own.start w
  have HT := Lib.hid hT
  clear hT
  go_enter Tryd.func11, Tryd.ntmps11
  exact walk5
open Go.RowKit
theorem walk2 {P : Prop} (h : P := by
  go_wp2_with (first
    | ((with_reducible show wpList _ _ _ (⟨_, .box _ _, _, _, _, _⟩ :: _) _ _); refine H.xb ?_; (intro g w H; simp only [Act.put, q1_, q2_, q3_]))
    | ((with_reducible show wpList _ _ _ (⟨_, .alloc _, _, _, _, _⟩ :: _) _ _); refine H.xa ?_; (intro g w H; simp only [Act.put, q1_, q2_, q3_]))
    | ((with_reducible show wpList _ _ _ (⟨_, .load _ _, _, _, _, _⟩ :: _) _ _); (first | refine H.xl ?_ | refine H.xm ?_); simp only [Act.put, q1_, q2_, q3_])
    | ((with_reducible show wpList _ _ _ (⟨_, .store _ _ _, _, _, _, _⟩ :: _) _ _); (first | refine H.xs ?_ | refine H.xt ?_); (intro w H; simp only [Act.put]))
    | ((with_reducible show Code.wp _ (.region 4 _ true) _ _ _); refine H.heldSub rfl (List.Sublist.refl _) ?_; intro H; refine H.zr 0 ?_; (try simp only [Act.put, q1_, q2_, q3_]); (try simp only [q4_, q5_, q6_]); (first | refine H.zl 1 ?_ | refine H.zm 1 ?_); (try simp only [Act.put, q1_, q2_, q3_]); (try simp only [q4_, q5_, q6_]); refine H.zr 2 ?_; (try simp only [Act.put, q1_, q2_, q3_]); (try simp only [q4_, q5_, q6_]); (first | refine H.zl 3 ?_ | refine H.zm 3 ?_); (try simp only [Act.put, q1_, q2_, q3_]); (try simp only [q4_, q5_, q6_]); refine held2 4 5 ?_ ?_; (refine H.ya ?_; intro g w H; refine H.nx ?_; (try simp only [Act.put, q1_, q2_, q3_]); (try simp only [q4_, q5_, q6_]); refine held1 5 ?_; refine H.ya ?_; intro g w H; refine H.nx ?_; (try simp only [Act.put, q1_, q2_, q3_]); (try simp only [q4_, q5_, q6_]); refine held1 6 ?_; (first | refine H.ys ?_ | refine H.yt ?_); intro w H; refine H.nx ?_; (try simp only [Act.put]); refine held1 7 ?_; (first | refine H.ys ?_ | refine H.yt ?_); intro w H; refine H.nx ?_; (try simp only [Act.put]); refine wpAnyH_done (by kernel_rfl) ?_ _); rotate_left; (refine H.ya ?_; intro g w H; refine H.nx ?_; (try simp only [Act.put, q1_, q2_, q3_]); (try simp only [q4_, q5_, q6_]); refine held1 4 ?_; refine H.ya ?_; intro g w H; refine H.nx ?_; (try simp only [Act.put, q1_, q2_, q3_]); (try simp only [q4_, q5_, q6_]); refine held1 6 ?_; (first | refine H.ys ?_ | refine H.yt ?_); intro w H; refine H.nx ?_; (try simp only [Act.put]); refine held1 7 ?_; (first | refine H.ys ?_ | refine H.yt ?_); intro w H; refine H.nx ?_; (try simp only [Act.put]); refine wpAnyH_done (by kernel_rfl) ?_ _))
    | ((with_reducible show wpList _ _ _ (⟨_, .buildSlice 75 _ _, _, _, _, _⟩ :: _) _ _); refine H.bs2 rfl Tryd.underlying75 rB rfl rfl rfl  (by rfl) (by rfl)  (by decide) rfl ?_; (intro g w H; simp only [Act.put, q1_, q2_, q3_]))
    | ((with_reducible show wpList _ _ _ (⟨_, .buildSlice 78 _ _, _, _, _, _⟩ :: _) _ _); refine H.bs2 rfl Tryd.underlying78 rP rfl rfl rfl  (by rfl) (by rfl)  (by decide) rfl ?_; (intro g w H; simp only [Act.put, q1_, q2_, q3_]))
    | ((with_reducible show wpList _ _ _ (⟨_, .build 61 _, _, _, _, _⟩ :: _) _ _); refine wp_bld2 rfl rfl rfl rfl (rough_ne _ _ ) ?_; simp only [Act.put, q1_, q2_, q3_])
    | ((with_reducible show Code.wp _ (.region 30 _ true) _ _ _); refine H.heldSub rfl (List.Sublist.refl _) ?_; intro H; (first | refine H.zl 0 ?_ | refine H.zm 0 ?_); (try simp only [Act.put, q1_, q2_, q3_]); (try simp only [q4_, q5_, q6_]); (first | refine H.zl 2 ?_ | refine H.zm 2 ?_); (try simp only [Act.put, q1_, q2_, q3_]); (try simp only [q4_, q5_, q6_]); refine held1 1 ?_; unfold Oper.wp; go_simp; (first | (go_at_call 35; ((with_reducible refine (cb1 _).mono ?_); rintro e w ⟨rfl, hb⟩; replace H := H.call hb; clear hb)) | (go_at_call 35; ((with_reducible refine (cb2 _).mono ?_); rintro e w ⟨rfl, hb⟩; replace H := H.call hb; clear hb))); refine H.nx ?_; (try simp only [Act.put, q1_, q2_, q3_]); (try simp only [q4_, q5_, q6_]); refine held1 3 ?_; unfold Oper.wp; go_simp; (first | (go_at_call 35; ((with_reducible refine (cb1 _).mono ?_); rintro e w ⟨rfl, hb⟩; replace H := H.call hb; clear hb)) | (go_at_call 35; ((with_reducible refine (cb2 _).mono ?_); rintro e w ⟨rfl, hb⟩; replace H := H.call hb; clear hb))); refine H.nx ?_; (try simp only [Act.put, q1_, q2_, q3_]); (try simp only [q4_, q5_, q6_]); refine H.zr 4 ?_; (try simp only [Act.put, q1_, q2_, q3_]); (try simp only [q4_, q5_, q6_]); refine wpAnyH_done (by kernel_rfl) ?_ _)
    | (go_at_call 28; ((with_reducible refine (cO _ _ (HT.out.below H.below) (H.blk (_, 26, _) v3_)).mono ?_); rintro e w ⟨rfl, hb⟩; replace H := H.call hb; clear hb))
    | (go_at_call 29; ((with_reducible refine (cn1 _).mono ?_); rintro e w ⟨rfl, hb⟩; replace H := H.call hb; clear hb))
    | (go_at_call 30; ((with_reducible refine (cC _ _ (H.blk (_, 51, _) v3_)).mono ?_); rintro e w ⟨rfl, hb⟩; replace H := H.call hb; clear hb))
    | (go_at_call 29; ((with_reducible refine (cn2 _).mono ?_); rintro e w ⟨rfl, hb⟩; replace H := H.call hb; clear hb))
    | (go_at_call 31; ((with_reducible refine (ci1 _).mono ?_); rintro e w ⟨rfl, hb⟩; replace H := H.call hb; clear hb))
    | (go_at_call 31; ((with_reducible refine (ci2 _).mono ?_); rintro e w ⟨rfl, hb⟩; replace H := H.call hb; clear hb))
    | (go_at_call 32; ((with_reducible refine (cz1 _).mono ?_); rintro e w ⟨rfl, hb⟩; replace H := H.call hb; clear hb))
    | (go_at_call 32; ((with_reducible refine (cz2 _).mono ?_); rintro e w ⟨rfl, hb⟩; replace H := H.call hb; clear hb))
    | (go_at_call 19; ((with_reducible refine (cNN _).mono ?_); rintro e w ⟨rfl, hb⟩; replace H := H.call hb; clear hb))
    | (go_at_call 14; ((with_reducible refine (cZZ _).mono ?_); rintro e w ⟨rfl, hb⟩; replace H := H.call hb; clear hb))
    | (go_at_call 35; ((with_reducible refine (cb1 _).mono ?_); rintro e w ⟨rfl, hb⟩; replace H := H.call hb; clear hb))
    | (go_at_call 35; ((with_reducible refine (cb2 _).mono ?_); rintro e w ⟨rfl, hb⟩; replace H := H.call hb; clear hb))
    | (go_at_call 33; ((with_reducible refine (cL1 _).mono ?_); rintro e w ⟨rfl, hb⟩; replace H := H.call hb; clear hb))
    | (go_at_call 33; ((with_reducible refine (cL2 _).mono ?_); rintro e w ⟨rfl, hb⟩; replace H := H.call hb; clear hb))
    | (go_at_call 33; ((with_reducible refine (cL3 _).mono ?_); rintro e w ⟨rfl, hb⟩; replace H := H.call hb; clear hb))
    | (go_at_call 34; ((with_reducible refine (cJ _ (HT.out.below H.below)).mono ?_); rintro e w ⟨rfl, hb⟩; replace H := H.call hb; clear hb))
    | (go_at_call 36; ((with_reducible refine (cA _).mono ?_); rintro e w ⟨rfl, hb⟩; replace H := H.call hb; clear hb))
    | (go_at_call 39; ((with_reducible refine (cK _ (HT.out.below H.below)).mono ?_); rintro e w ⟨rfl, hb⟩; replace H := H.call hb; clear hb))
    | (go_at_call 37; ((with_reducible refine (cC _).mono ?_); rintro e w ⟨rfl, hb⟩; replace H := H.call hb; clear hb))
    | (go_at_call 38; ((with_reducible refine (cS _).mono ?_); rintro e w ⟨rfl, hb⟩; replace H := H.call hb; clear hb))
    )
  all_goals (refine bodyPost_ret (results_ctt rfl rfl (H.res rB v3_ (by first | with_reducible exact ext_2 _ _) (by rfl))) rfl ⟨?_, H.below⟩; exact rfl)) : P := h
theorem addAdd_N1 (f m a b : Nat) (c1 s1 f1 : Nat) (x1 : Int) (c2 s2 f2 : Nat) (x2 : Int) (c3 s3 f3 : Nat) (x3 : Int) (w : World) (hT : Tab w) (cO : ∀ w g, Tab w → Blk 26 w g (cat2 (bc a) (bc b)) → Calls Tryd.prog 28 #[.int .u8 f, .int .u8 m, .slice (some ⟨g, 0, none⟩) 2 2] w fun e w' => e = .returned (.tuple #[.agg (tri c1 s1 x1 f1 c2 s2 x2 f2 c3 s3 x3 f3), .bool true]) ∧ Below w.heap.size w w') (cn1 : ∀ w, Calls Tryd.prog 29 #[PV c1 s1 x1 f1] w fun e w' => e = .returned (.bool true) ∧ Below w.heap.size w w') (cn : Nat) (fl : Int) (cC : ∀ w g, Blk 51 w g (cat2 (parts c1 s1 x1 f1) (parts c2 s2 x2 f2)) → Calls Tryd.prog 30 #[.int .u8 f, .slice (some ⟨g, 0, none⟩) 2 2] w fun e w' => e = .returned (.tuple #[BV cn, .int .u8 fl, .int .i64 0]) ∧ Below w.heap.size w w') :
    Calls Tryd.prog 11 #[.int .u8 f, .int .u8 m, BV a, BV b] w fun e w' => e = .returned (.tuple #[BV cn, .int .u8 fl, .int .i64 0]) ∧ Below w.heap.size w w' := by
  have H := Own.start w
  have HT := Lib.hid hT
  clear hT
  go_enter Tryd.func11, Tryd.ntmps11
  exact walk2
theorem addAdd_N2 (f m a b : Nat) (c1 s1 f1 : Nat) (x1 : Int) (c2 s2 f2 : Nat) (x2 : Int) (c3 s3 f3 : Nat) (x3 : Int) (w : World) (hT : Tab w) (cO : ∀ w g, Tab w → Blk 26 w g (cat2 (bc a) (bc b)) → Calls Tryd.prog 28 #[.int .u8 f, .int .u8 m, .slice (some ⟨g, 0, none⟩) 2 2] w fun e w' => e = .returned (.tuple #[.agg (tri c1 s1 x1 f1 c2 s2 x2 f2 c3 s3 x3 f3), .bool true]) ∧ Below w.heap.size w w') (cn1 : ∀ w, Calls Tryd.prog 29 #[PV c1 s1 x1 f1] w fun e w' => e = .returned (.bool false) ∧ Below w.heap.size w w') (cn2 : ∀ w, Calls Tryd.prog 29 #[PV c2 s2 x2 f2] w fun e w' => e = .returned (.bool true) ∧ Below w.heap.size w w') (cn : Nat) (fl : Int) (cC : ∀ w g, Blk 51 w g (cat2 (parts c1 s1 x1 f1) (parts c2 s2 x2 f2)) → Calls Tryd.prog 30 #[.int .u8 f, .slice (some ⟨g, 0, none⟩) 2 2] w fun e w' => e = .returned (.tuple #[BV cn, .int .u8 fl, .int .i64 0]) ∧ Below w.heap.size w w') :
    Calls Tryd.prog 11 #[.int .u8 f, .int .u8 m, BV a, BV b] w fun e w' => e = .returned (.tuple #[BV cn, .int .u8 fl, .int .i64 0]) ∧ Below w.heap.size w w' := by
  have H := Own.start w
  have HT := Lib.hid hT
  clear hT
  go_enter Tryd.func11, Tryd.ntmps11
  exact walk2
theorem addAdd_IIs (f m a b : Nat) (c1 s1 f1 : Nat) (x1 : Int) (c2 s2 f2 : Nat) (x2 : Int) (c3 s3 f3 : Nat) (x3 : Int) (w : World) (hT : Tab w) (cO : ∀ w g, Tab w → Blk 26 w g (cat2 (bc a) (bc b)) → Calls Tryd.prog 28 #[.int .u8 f, .int .u8 m, .slice (some ⟨g, 0, none⟩) 2 2] w fun e w' => e = .returned (.tuple #[.agg (tri c1 s1 x1 f1 c2 s2 x2 f2 c3 s3 x3 f3), .bool true]) ∧ Below w.heap.size w w') (cn1 : ∀ w, Calls Tryd.prog 29 #[PV c1 s1 x1 f1] w fun e w' => e = .returned (.bool false) ∧ Below w.heap.size w w') (cn2 : ∀ w, Calls Tryd.prog 29 #[PV c2 s2 x2 f2] w fun e w' => e = .returned (.bool false) ∧ Below w.heap.size w w') (ci1 : ∀ w, Calls Tryd.prog 31 #[PV c1 s1 x1 f1] w fun e w' => e = .returned (.bool true) ∧ Below w.heap.size w w') (ci2 : ∀ w, Calls Tryd.prog 31 #[PV c2 s2 x2 f2] w fun e w' => e = .returned (.bool true) ∧ Below w.heap.size w w') (cz1 : ∀ w, Calls Tryd.prog 32 #[PV c1 s1 x1 f1] w fun e w' => e = .returned (.bool false) ∧ Below w.heap.size w w') (cz2 : ∀ w, Calls Tryd.prog 32 #[PV c2 s2 x2 f2] w fun e w' => e = .returned (.bool false) ∧ Below w.heap.size w w') (he : ((c1 : Int) == (c2 : Int)) = true)  :
    Calls Tryd.prog 11 #[.int .u8 f, .int .u8 m, BV a, BV b] w fun e w' => e = .returned (.tuple #[BV a, .int .u8 0, .int .i64 0]) ∧ Below w.heap.size w w' := by
  have H := Own.start w
  have HT := Lib.hid hT
  clear hT
  go_enter Tryd.func11, Tryd.ntmps11
  exact walk2
theorem addAdd_IId (f m a b : Nat) (c1 s1 f1 : Nat) (x1 : Int) (c2 s2 f2 : Nat) (x2 : Int) (c3 s3 f3 : Nat) (x3 : Int) (w : World) (hT : Tab w) (cO : ∀ w g, Tab w → Blk 26 w g (cat2 (bc a) (bc b)) → Calls Tryd.prog 28 #[.int .u8 f, .int .u8 m, .slice (some ⟨g, 0, none⟩) 2 2] w fun e w' => e = .returned (.tuple #[.agg (tri c1 s1 x1 f1 c2 s2 x2 f2 c3 s3 x3 f3), .bool true]) ∧ Below w.heap.size w w') (cn1 : ∀ w, Calls Tryd.prog 29 #[PV c1 s1 x1 f1] w fun e w' => e = .returned (.bool false) ∧ Below w.heap.size w w') (cn2 : ∀ w, Calls Tryd.prog 29 #[PV c2 s2 x2 f2] w fun e w' => e = .returned (.bool false) ∧ Below w.heap.size w w') (ci1 : ∀ w, Calls Tryd.prog 31 #[PV c1 s1 x1 f1] w fun e w' => e = .returned (.bool true) ∧ Below w.heap.size w w') (ci2 : ∀ w, Calls Tryd.prog 31 #[PV c2 s2 x2 f2] w fun e w' => e = .returned (.bool true) ∧ Below w.heap.size w w') (cz1 : ∀ w, Calls Tryd.prog 32 #[PV c1 s1 x1 f1] w fun e w' => e = .returned (.bool false) ∧ Below w.heap.size w w') (cz2 : ∀ w, Calls Tryd.prog 32 #[PV c2 s2 x2 f2] w fun e w' => e = .returned (.bool false) ∧ Below w.heap.size w w') (he : ((c1 : Int) == (c2 : Int)) = false) (nn : Nat) (cNN : ∀ w, Calls Tryd.prog 19 #[.int .u8 f] w fun e w' => e = .returned (BV nn) ∧ Below w.heap.size w w') :
    Calls Tryd.prog 11 #[.int .u8 f, .int .u8 m, BV a, BV b] w fun e w' => e = .returned (.tuple #[BV nn, .int .u8 16, .int .i64 0]) ∧ Below w.heap.size w w' := by
  have H := Own.start w
  have HT := Lib.hid hT
  clear hT
  go_enter Tryd.func11, Tryd.ntmps11
  exact walk2
open Go.RowKit
theorem addAdd_IF (f m a b : Nat) (c1 s1 f1 : Nat) (x1 : Int) (c2 s2 f2 : Nat) (x2 : Int) (c3 s3 f3 : Nat) (x3 : Int) (w : World) (hT : Tab w) (cO : ∀ w g, Tab w → Blk 26 w g (cat2 (bc a) (bc b)) → Calls Tryd.prog 28 #[.int .u8 f, .int .u8 m, .slice (some ⟨g, 0, none⟩) 2 2] w fun e w' => e = .returned (.tuple #[.agg (tri c1 s1 x1 f1 c2 s2 x2 f2 c3 s3 x3 f3), .bool true]) ∧ Below w.heap.size w w') (cn1 : ∀ w, Calls Tryd.prog 29 #[PV c1 s1 x1 f1] w fun e w' => e = .returned (.bool false) ∧ Below w.heap.size w w') (cn2 : ∀ w, Calls Tryd.prog 29 #[PV c2 s2 x2 f2] w fun e w' => e = .returned (.bool false) ∧ Below w.heap.size w w') (ci1 : ∀ w, Calls Tryd.prog 31 #[PV c1 s1 x1 f1] w fun e w' => e = .returned (.bool true) ∧ Below w.heap.size w w') (ci2 : ∀ w, Calls Tryd.prog 31 #[PV c2 s2 x2 f2] w fun e w' => e = .returned (.bool false) ∧ Below w.heap.size w w') (cz1 : ∀ w, Calls Tryd.prog 32 #[PV c1 s1 x1 f1] w fun e w' => e = .returned (.bool false) ∧ Below w.heap.size w w') (cz2 : ∀ w, Calls Tryd.prog 32 #[PV c2 s2 x2 f2] w fun e w' => e = .returned (.bool false) ∧ Below w.heap.size w w')  :
    Calls Tryd.prog 11 #[.int .u8 f, .int .u8 m, BV a, BV b] w fun e w' => e = .returned (.tuple #[BV a, .int .u8 0, .int .i64 0]) ∧ Below w.heap.size w w' := by
  have H := Own.start w
  have HT := Lib.hid hT
  clear hT
  go_enter Tryd.func11, Tryd.ntmps11
  exact walk2
theorem addAdd_IZ (f m a b : Nat) (c1 s1 f1 : Nat) (x1 : Int) (c2 s2 f2 : Nat) (x2 : Int) (c3 s3 f3 : Nat) (x3 : Int) (w : World) (hT : Tab w) (cO : ∀ w g, Tab w → Blk 26 w g (cat2 (bc a) (bc b)) → Calls Tryd.prog 28 #[.int .u8 f, .int .u8 m, .slice (some ⟨g, 0, none⟩) 2 2] w fun e w' => e = .returned (.tuple #[.agg (tri c1 s1 x1 f1 c2 s2 x2 f2 c3 s3 x3 f3), .bool true]) ∧ Below w.heap.size w w') (cn1 : ∀ w, Calls Tryd.prog 29 #[PV c1 s1 x1 f1] w fun e w' => e = .returned (.bool false) ∧ Below w.heap.size w w') (cn2 : ∀ w, Calls Tryd.prog 29 #[PV c2 s2 x2 f2] w fun e w' => e = .returned (.bool false) ∧ Below w.heap.size w w') (ci1 : ∀ w, Calls Tryd.prog 31 #[PV c1 s1 x1 f1] w fun e w' => e = .returned (.bool true) ∧ Below w.heap.size w w') (ci2 : ∀ w, Calls Tryd.prog 31 #[PV c2 s2 x2 f2] w fun e w' => e = .returned (.bool false) ∧ Below w.heap.size w w') (cz1 : ∀ w, Calls Tryd.prog 32 #[PV c1 s1 x1 f1] w fun e w' => e = .returned (.bool false) ∧ Below w.heap.size w w') (cz2 : ∀ w, Calls Tryd.prog 32 #[PV c2 s2 x2 f2] w fun e w' => e = .returned (.bool true) ∧ Below w.heap.size w w')  :
    Calls Tryd.prog 11 #[.int .u8 f, .int .u8 m, BV a, BV b] w fun e w' => e = .returned (.tuple #[BV a, .int .u8 0, .int .i64 0]) ∧ Below w.heap.size w w' := by
  have H := Own.start w
  have HT := Lib.hid hT
  clear hT
  go_enter Tryd.func11, Tryd.ntmps11
  exact walk2
theorem addAdd_FI (f m a b : Nat) (c1 s1 f1 : Nat) (x1 : Int) (c2 s2 f2 : Nat) (x2 : Int) (c3 s3 f3 : Nat) (x3 : Int) (w : World) (hT : Tab w) (cO : ∀ w g, Tab w → Blk 26 w g (cat2 (bc a) (bc b)) → Calls Tryd.prog 28 #[.int .u8 f, .int .u8 m, .slice (some ⟨g, 0, none⟩) 2 2] w fun e w' => e = .returned (.tuple #[.agg (tri c1 s1 x1 f1 c2 s2 x2 f2 c3 s3 x3 f3), .bool true]) ∧ Below w.heap.size w w') (cn1 : ∀ w, Calls Tryd.prog 29 #[PV c1 s1 x1 f1] w fun e w' => e = .returned (.bool false) ∧ Below w.heap.size w w') (cn2 : ∀ w, Calls Tryd.prog 29 #[PV c2 s2 x2 f2] w fun e w' => e = .returned (.bool false) ∧ Below w.heap.size w w') (ci1 : ∀ w, Calls Tryd.prog 31 #[PV c1 s1 x1 f1] w fun e w' => e = .returned (.bool false) ∧ Below w.heap.size w w') (ci2 : ∀ w, Calls Tryd.prog 31 #[PV c2 s2 x2 f2] w fun e w' => e = .returned (.bool true) ∧ Below w.heap.size w w') (cz1 : ∀ w, Calls Tryd.prog 32 #[PV c1 s1 x1 f1] w fun e w' => e = .returned (.bool false) ∧ Below w.heap.size w w') (cz2 : ∀ w, Calls Tryd.prog 32 #[PV c2 s2 x2 f2] w fun e w' => e = .returned (.bool false) ∧ Below w.heap.size w w')  :
    Calls Tryd.prog 11 #[.int .u8 f, .int .u8 m, BV a, BV b] w fun e w' => e = .returned (.tuple #[BV b, .int .u8 0, .int .i64 0]) ∧ Below w.heap.size w w' := by
  have H := Own.start w
  have HT := Lib.hid hT
  clear hT
  go_enter Tryd.func11, Tryd.ntmps11
  exact walk2
theorem addAdd_ZI (f m a b : Nat) (c1 s1 f1 : Nat) (x1 : Int) (c2 s2 f2 : Nat) (x2 : Int) (c3 s3 f3 : Nat) (x3 : Int) (w : World) (hT : Tab w) (cO : ∀ w g, Tab w → Blk 26 w g (cat2 (bc a) (bc b)) → Calls Tryd.prog 28 #[.int .u8 f, .int .u8 m, .slice (some ⟨g, 0, none⟩) 2 2] w fun e w' => e = .returned (.tuple #[.agg (tri c1 s1 x1 f1 c2 s2 x2 f2 c3 s3 x3 f3), .bool true]) ∧ Below w.heap.size w w') (cn1 : ∀ w, Calls Tryd.prog 29 #[PV c1 s1 x1 f1] w fun e w' => e = .returned (.bool false) ∧ Below w.heap.size w w') (cn2 : ∀ w, Calls Tryd.prog 29 #[PV c2 s2 x2 f2] w fun e w' => e = .returned (.bool false) ∧ Below w.heap.size w w') (ci1 : ∀ w, Calls Tryd.prog 31 #[PV c1 s1 x1 f1] w fun e w' => e = .returned (.bool false) ∧ Below w.heap.size w w') (ci2 : ∀ w, Calls Tryd.prog 31 #[PV c2 s2 x2 f2] w fun e w' => e = .returned (.bool true) ∧ Below w.heap.size w w') (cz1 : ∀ w, Calls Tryd.prog 32 #[PV c1 s1 x1 f1] w fun e w' => e = .returned (.bool true) ∧ Below w.heap.size w w') (cz2 : ∀ w, Calls Tryd.prog 32 #[PV c2 s2 x2 f2] w fun e w' => e = .returned (.bool false) ∧ Below w.heap.size w w')  :
    Calls Tryd.prog 11 #[.int .u8 f, .int .u8 m, BV a, BV b] w fun e w' => e = .returned (.tuple #[BV b, .int .u8 0, .int .i64 0]) ∧ Below w.heap.size w w' := by
  have H := Own.start w
  have HT := Lib.hid hT
  clear hT
  go_enter Tryd.func11, Tryd.ntmps11
  exact walk2
open Go.RowKit
theorem addAdd_ZZs (f m a b : Nat) (c1 s1 f1 : Nat) (x1 : Int) (c2 s2 f2 : Nat) (x2 : Int) (c3 s3 f3 : Nat) (x3 : Int) (w : World) (hT : Tab w) (cO : ∀ w g, Tab w → Blk 26 w g (cat2 (bc a) (bc b)) → Calls Tryd.prog 28 #[.int .u8 f, .int .u8 m, .slice (some ⟨g, 0, none⟩) 2 2] w fun e w' => e = .returned (.tuple #[.agg (tri c1 s1 x1 f1 c2 s2 x2 f2 c3 s3 x3 f3), .bool true]) ∧ Below w.heap.size w w') (cn1 : ∀ w, Calls Tryd.prog 29 #[PV c1 s1 x1 f1] w fun e w' => e = .returned (.bool false) ∧ Below w.heap.size w w') (cn2 : ∀ w, Calls Tryd.prog 29 #[PV c2 s2 x2 f2] w fun e w' => e = .returned (.bool false) ∧ Below w.heap.size w w') (ci1 : ∀ w, Calls Tryd.prog 31 #[PV c1 s1 x1 f1] w fun e w' => e = .returned (.bool false) ∧ Below w.heap.size w w') (ci2 : ∀ w, Calls Tryd.prog 31 #[PV c2 s2 x2 f2] w fun e w' => e = .returned (.bool false) ∧ Below w.heap.size w w') (cz1 : ∀ w, Calls Tryd.prog 32 #[PV c1 s1 x1 f1] w fun e w' => e = .returned (.bool true) ∧ Below w.heap.size w w') (cz2 : ∀ w, Calls Tryd.prog 32 #[PV c2 s2 x2 f2] w fun e w' => e = .returned (.bool true) ∧ Below w.heap.size w w') (he : ((c1 : Int) == (c2 : Int)) = true)  :
    Calls Tryd.prog 11 #[.int .u8 f, .int .u8 m, BV a, BV b] w fun e w' => e = .returned (.tuple #[BV a, .int .u8 0, .int .i64 0]) ∧ Below w.heap.size w w' := by
  have H := Own.start w
  have HT := Lib.hid hT
  clear hT
  go_enter Tryd.func11, Tryd.ntmps11
  exact walk2
theorem addAdd_ZZd (f m a b : Nat) (c1 s1 f1 : Nat) (x1 : Int) (c2 s2 f2 : Nat) (x2 : Int) (c3 s3 f3 : Nat) (x3 : Int) (w : World) (hT : Tab w) (cO : ∀ w g, Tab w → Blk 26 w g (cat2 (bc a) (bc b)) → Calls Tryd.prog 28 #[.int .u8 f, .int .u8 m, .slice (some ⟨g, 0, none⟩) 2 2] w fun e w' => e = .returned (.tuple #[.agg (tri c1 s1 x1 f1 c2 s2 x2 f2 c3 s3 x3 f3), .bool true]) ∧ Below w.heap.size w w') (cn1 : ∀ w, Calls Tryd.prog 29 #[PV c1 s1 x1 f1] w fun e w' => e = .returned (.bool false) ∧ Below w.heap.size w w') (cn2 : ∀ w, Calls Tryd.prog 29 #[PV c2 s2 x2 f2] w fun e w' => e = .returned (.bool false) ∧ Below w.heap.size w w') (ci1 : ∀ w, Calls Tryd.prog 31 #[PV c1 s1 x1 f1] w fun e w' => e = .returned (.bool false) ∧ Below w.heap.size w w') (ci2 : ∀ w, Calls Tryd.prog 31 #[PV c2 s2 x2 f2] w fun e w' => e = .returned (.bool false) ∧ Below w.heap.size w w') (cz1 : ∀ w, Calls Tryd.prog 32 #[PV c1 s1 x1 f1] w fun e w' => e = .returned (.bool true) ∧ Below w.heap.size w w') (cz2 : ∀ w, Calls Tryd.prog 32 #[PV c2 s2 x2 f2] w fun e w' => e = .returned (.bool true) ∧ Below w.heap.size w w') (he : ((c1 : Int) == (c2 : Int)) = false) (zz : Nat) (cZZ : ∀ w, Calls Tryd.prog 14 #[.int .u8 f, .bool ((m : Int) == 2)] w fun e w' => e = .returned (BV zz) ∧ Below w.heap.size w w')  :
    Calls Tryd.prog 11 #[.int .u8 f, .int .u8 m, BV a, BV b] w fun e w' => e = .returned (.tuple #[BV zz, .int .u8 0, .int .i64 0]) ∧ Below w.heap.size w w' := by
  have H := Own.start w
  have HT := Lib.hid hT
  clear hT
  go_enter Tryd.func11, Tryd.ntmps11
  exact walk2
theorem addAdd_ZF (f m a b : Nat) (c1 s1 f1 : Nat) (x1 : Int) (c2 s2 f2 : Nat) (x2 : Int) (c3 s3 f3 : Nat) (x3 : Int) (w : World) (hT : Tab w) (cO : ∀ w g, Tab w → Blk 26 w g (cat2 (bc a) (bc b)) → Calls Tryd.prog 28 #[.int .u8 f, .int .u8 m, .slice (some ⟨g, 0, none⟩) 2 2] w fun e w' => e = .returned (.tuple #[.agg (tri c1 s1 x1 f1 c2 s2 x2 f2 c3 s3 x3 f3), .bool true]) ∧ Below w.heap.size w w') (cn1 : ∀ w, Calls Tryd.prog 29 #[PV c1 s1 x1 f1] w fun e w' => e = .returned (.bool false) ∧ Below w.heap.size w w') (cn2 : ∀ w, Calls Tryd.prog 29 #[PV c2 s2 x2 f2] w fun e w' => e = .returned (.bool false) ∧ Below w.heap.size w w') (ci1 : ∀ w, Calls Tryd.prog 31 #[PV c1 s1 x1 f1] w fun e w' => e = .returned (.bool false) ∧ Below w.heap.size w w') (ci2 : ∀ w, Calls Tryd.prog 31 #[PV c2 s2 x2 f2] w fun e w' => e = .returned (.bool false) ∧ Below w.heap.size w w') (cz1 : ∀ w, Calls Tryd.prog 32 #[PV c1 s1 x1 f1] w fun e w' => e = .returned (.bool true) ∧ Below w.heap.size w w') (cz2 : ∀ w, Calls Tryd.prog 32 #[PV c2 s2 x2 f2] w fun e w' => e = .returned (.bool false) ∧ Below w.heap.size w w')  :
    Calls Tryd.prog 11 #[.int .u8 f, .int .u8 m, BV a, BV b] w fun e w' => e = .returned (.tuple #[BV b, .int .u8 0, .int .i64 0]) ∧ Below w.heap.size w w' := by
  have H := Own.start w
  have HT := Lib.hid hT
  clear hT
  go_enter Tryd.func11, Tryd.ntmps11
  exact walk2
theorem addAdd_FZ (f m a b : Nat) (c1 s1 f1 : Nat) (x1 : Int) (c2 s2 f2 : Nat) (x2 : Int) (c3 s3 f3 : Nat) (x3 : Int) (w : World) (hT : Tab w) (cO : ∀ w g, Tab w → Blk 26 w g (cat2 (bc a) (bc b)) → Calls Tryd.prog 28 #[.int .u8 f, .int .u8 m, .slice (some ⟨g, 0, none⟩) 2 2] w fun e w' => e = .returned (.tuple #[.agg (tri c1 s1 x1 f1 c2 s2 x2 f2 c3 s3 x3 f3), .bool true]) ∧ Below w.heap.size w w') (cn1 : ∀ w, Calls Tryd.prog 29 #[PV c1 s1 x1 f1] w fun e w' => e = .returned (.bool false) ∧ Below w.heap.size w w') (cn2 : ∀ w, Calls Tryd.prog 29 #[PV c2 s2 x2 f2] w fun e w' => e = .returned (.bool false) ∧ Below w.heap.size w w') (ci1 : ∀ w, Calls Tryd.prog 31 #[PV c1 s1 x1 f1] w fun e w' => e = .returned (.bool false) ∧ Below w.heap.size w w') (ci2 : ∀ w, Calls Tryd.prog 31 #[PV c2 s2 x2 f2] w fun e w' => e = .returned (.bool false) ∧ Below w.heap.size w w') (cz1 : ∀ w, Calls Tryd.prog 32 #[PV c1 s1 x1 f1] w fun e w' => e = .returned (.bool false) ∧ Below w.heap.size w w') (cz2 : ∀ w, Calls Tryd.prog 32 #[PV c2 s2 x2 f2] w fun e w' => e = .returned (.bool true) ∧ Below w.heap.size w w')  :
    Calls Tryd.prog 11 #[.int .u8 f, .int .u8 m, BV a, BV b] w fun e w' => e = .returned (.tuple #[BV a, .int .u8 0, .int .i64 0]) ∧ Below w.heap.size w w' := by
  have H := Own.start w
  have HT := Lib.hid hT
  clear hT
  go_enter Tryd.func11, Tryd.ntmps11
  exact walk2
open Go.RowKit
theorem addAdd_FF0_same (f m a b : Nat) (c1 s1 f1 : Nat) (x1 : Int) (c2 s2 f2 : Nat) (x2 : Int) (c3 s3 f3 : Nat) (x3 : Int) (w : World) (hT : Tab w) (cO : ∀ w g, Tab w → Blk 26 w g (cat2 (bc a) (bc b)) → Calls Tryd.prog 28 #[.int .u8 f, .int .u8 m, .slice (some ⟨g, 0, none⟩) 2 2] w fun e w' => e = .returned (.tuple #[.agg (tri c1 s1 x1 f1 c2 s2 x2 f2 c3 s3 x3 f3), .bool true]) ∧ Below w.heap.size w w') (cn1 : ∀ w, Calls Tryd.prog 29 #[PV c1 s1 x1 f1] w fun e w' => e = .returned (.bool false) ∧ Below w.heap.size w w') (cn2 : ∀ w, Calls Tryd.prog 29 #[PV c2 s2 x2 f2] w fun e w' => e = .returned (.bool false) ∧ Below w.heap.size w w') (ci1 : ∀ w, Calls Tryd.prog 31 #[PV c1 s1 x1 f1] w fun e w' => e = .returned (.bool false) ∧ Below w.heap.size w w') (ci2 : ∀ w, Calls Tryd.prog 31 #[PV c2 s2 x2 f2] w fun e w' => e = .returned (.bool false) ∧ Below w.heap.size w w') (cz1 : ∀ w, Calls Tryd.prog 32 #[PV c1 s1 x1 f1] w fun e w' => e = .returned (.bool false) ∧ Below w.heap.size w w') (cz2 : ∀ w, Calls Tryd.prog 32 #[PV c2 s2 x2 f2] w fun e w' => e = .returned (.bool false) ∧ Below w.heap.size w w') (hx1 : -40000 ≤ x1) (hx1b : x1 ≤ 40000) (hx2 : -40000 ≤ x2) (hx2b : x2 ≤ 40000) (hs : ¬ x1 < x2) (u1 u2 t1 t2 : Nat) (l1 l2 l3 b1 b2 : Bool) (cb1 : ∀ w, Calls Tryd.prog 35 #[PV c1 s1 x1 f1] w fun e w' => e = .returned (.bool b1) ∧ Below w.heap.size w w') (cb2 : ∀ w, Calls Tryd.prog 35 #[PV c2 s2 x2 f2] w fun e w' => e = .returned (.bool b2) ∧ Below w.heap.size w w') (cL1 : ∀ w, Calls Tryd.prog 33 #[W s1, .int .i64 (min (x1 - x2) 200)] w fun e w' => e = .returned (.tuple #[W u1, .bool l1]) ∧ Below w.heap.size w w') (cL2 : ∀ w, Calls Tryd.prog 33 #[W s2, .int .i64 2] w fun e w' => e = .returned (.tuple #[W t1, .bool l2]) ∧ Below w.heap.size w w') (cL3 : ∀ w, Calls Tryd.prog 33 #[W u1, .int .i64 2] w fun e w' => e = .returned (.tuple #[W u2, .bool l3]) ∧ Below w.heap.size w w') (cJ : ∀ w, Tab w → Calls Tryd.prog 34 #[W t1, .int .i64 ((x1 - (min (x1 - x2) 200)) - x2)] w fun e w' => e = .returned (W t2) ∧ Below w.heap.size w w') (hbb : (b1 == b2) = true) (s r : Nat) (o : Bool) (fl er : Int) (cK : ∀ w, Tab w → Calls Tryd.prog 39 #[.int .u8 f, .int .u8 m, RV b1 s ((x1 - (min (x1 - x2) 200)) - 2) false] w fun e w' => e = .returned (.tuple #[BV r, .int .u8 fl, .int .i64 er]) ∧ Below w.heap.size w w') (cA : ∀ w, Calls Tryd.prog 36 #[W u2, W t2] w fun e w' => e = .returned (.tuple #[W s, .bool o]) ∧ Below w.heap.size w w') :
    Calls Tryd.prog 11 #[.int .u8 f, .int .u8 m, BV a, BV b] w fun e w' => e = .returned (.tuple #[BV r, .int .u8 fl, .int .i64 er]) ∧ Below w.heap.size w w' := by
  have H := Own.start w
  have HT := Lib.hid hT
  clear hT
  go_enter Tryd.func11, Tryd.ntmps11
  exact walk2
theorem addAdd_FF0_zero (f m a b : Nat) (c1 s1 f1 : Nat) (x1 : Int) (c2 s2 f2 : Nat) (x2 : Int) (c3 s3 f3 : Nat) (x3 : Int) (w : World) (hT : Tab w) (cO : ∀ w g, Tab w → Blk 26 w g (cat2 (bc a) (bc b)) → Calls Tryd.prog 28 #[.int .u8 f, .int .u8 m, .slice (some ⟨g, 0, none⟩) 2 2] w fun e w' => e = .returned (.tuple #[.agg (tri c1 s1 x1 f1 c2 s2 x2 f2 c3 s3 x3 f3), .bool true]) ∧ Below w.heap.size w w') (cn1 : ∀ w, Calls Tryd.prog 29 #[PV c1 s1 x1 f1] w fun e w' => e = .returned (.bool false) ∧ Below w.heap.size w w') (cn2 : ∀ w, Calls Tryd.prog 29 #[PV c2 s2 x2 f2] w fun e w' => e = .returned (.bool false) ∧ Below w.heap.size w w') (ci1 : ∀ w, Calls Tryd.prog 31 #[PV c1 s1 x1 f1] w fun e w' => e = .returned (.bool false) ∧ Below w.heap.size w w') (ci2 : ∀ w, Calls Tryd.prog 31 #[PV c2 s2 x2 f2] w fun e w' => e = .returned (.bool false) ∧ Below w.heap.size w w') (cz1 : ∀ w, Calls Tryd.prog 32 #[PV c1 s1 x1 f1] w fun e w' => e = .returned (.bool false) ∧ Below w.heap.size w w') (cz2 : ∀ w, Calls Tryd.prog 32 #[PV c2 s2 x2 f2] w fun e w' => e = .returned (.bool false) ∧ Below w.heap.size w w') (hx1 : -40000 ≤ x1) (hx1b : x1 ≤ 40000) (hx2 : -40000 ≤ x2) (hx2b : x2 ≤ 40000) (hs : ¬ x1 < x2) (u1 u2 t1 t2 : Nat) (l1 l2 l3 b1 b2 : Bool) (cb1 : ∀ w, Calls Tryd.prog 35 #[PV c1 s1 x1 f1] w fun e w' => e = .returned (.bool b1) ∧ Below w.heap.size w w') (cb2 : ∀ w, Calls Tryd.prog 35 #[PV c2 s2 x2 f2] w fun e w' => e = .returned (.bool b2) ∧ Below w.heap.size w w') (cL1 : ∀ w, Calls Tryd.prog 33 #[W s1, .int .i64 (min (x1 - x2) 200)] w fun e w' => e = .returned (.tuple #[W u1, .bool l1]) ∧ Below w.heap.size w w') (cL2 : ∀ w, Calls Tryd.prog 33 #[W s2, .int .i64 2] w fun e w' => e = .returned (.tuple #[W t1, .bool l2]) ∧ Below w.heap.size w w') (cL3 : ∀ w, Calls Tryd.prog 33 #[W u1, .int .i64 2] w fun e w' => e = .returned (.tuple #[W u2, .bool l3]) ∧ Below w.heap.size w w') (cJ : ∀ w, Tab w → Calls Tryd.prog 34 #[W t1, .int .i64 ((x1 - (min (x1 - x2) 200)) - x2)] w fun e w' => e = .returned (W t2) ∧ Below w.heap.size w w') (hbb : (b1 == b2) = false) (cC : ∀ w, Calls Tryd.prog 37 #[W u2, W t2] w fun e w' => e = .returned (.int .i64 0) ∧ Below w.heap.size w w') (zz : Nat) (cZZ : ∀ w, Calls Tryd.prog 14 #[.int .u8 f, .bool ((m : Int) == 2)] w fun e w' => e = .returned (BV zz) ∧ Below w.heap.size w w')  :
    Calls Tryd.prog 11 #[.int .u8 f, .int .u8 m, BV a, BV b] w fun e w' => e = .returned (.tuple #[BV zz, .int .u8 0, .int .i64 0]) ∧ Below w.heap.size w w' := by
  have H := Own.start w
  have HT := Lib.hid hT
  clear hT
  go_enter Tryd.func11, Tryd.ntmps11
  exact walk2
theorem addAdd_FF0_more (f m a b : Nat) (c1 s1 f1 : Nat) (x1 : Int) (c2 s2 f2 : Nat) (x2 : Int) (c3 s3 f3 : Nat) (x3 : Int) (w : World) (hT : Tab w) (cO : ∀ w g, Tab w → Blk 26 w g (cat2 (bc a) (bc b)) → Calls Tryd.prog 28 #[.int .u8 f, .int .u8 m, .slice (some ⟨g, 0, none⟩) 2 2] w fun e w' => e = .returned (.tuple #[.agg (tri c1 s1 x1 f1 c2 s2 x2 f2 c3 s3 x3 f3), .bool true]) ∧ Below w.heap.size w w') (cn1 : ∀ w, Calls Tryd.prog 29 #[PV c1 s1 x1 f1] w fun e w' => e = .returned (.bool false) ∧ Below w.heap.size w w') (cn2 : ∀ w, Calls Tryd.prog 29 #[PV c2 s2 x2 f2] w fun e w' => e = .returned (.bool false) ∧ Below w.heap.size w w') (ci1 : ∀ w, Calls Tryd.prog 31 #[PV c1 s1 x1 f1] w fun e w' => e = .returned (.bool false) ∧ Below w.heap.size w w') (ci2 : ∀ w, Calls Tryd.prog 31 #[PV c2 s2 x2 f2] w fun e w' => e = .returned (.bool false) ∧ Below w.heap.size w w') (cz1 : ∀ w, Calls Tryd.prog 32 #[PV c1 s1 x1 f1] w fun e w' => e = .returned (.bool false) ∧ Below w.heap.size w w') (cz2 : ∀ w, Calls Tryd.prog 32 #[PV c2 s2 x2 f2] w fun e w' => e = .returned (.bool false) ∧ Below w.heap.size w w') (hx1 : -40000 ≤ x1) (hx1b : x1 ≤ 40000) (hx2 : -40000 ≤ x2) (hx2b : x2 ≤ 40000) (hs : ¬ x1 < x2) (u1 u2 t1 t2 : Nat) (l1 l2 l3 b1 b2 : Bool) (cb1 : ∀ w, Calls Tryd.prog 35 #[PV c1 s1 x1 f1] w fun e w' => e = .returned (.bool b1) ∧ Below w.heap.size w w') (cb2 : ∀ w, Calls Tryd.prog 35 #[PV c2 s2 x2 f2] w fun e w' => e = .returned (.bool b2) ∧ Below w.heap.size w w') (cL1 : ∀ w, Calls Tryd.prog 33 #[W s1, .int .i64 (min (x1 - x2) 200)] w fun e w' => e = .returned (.tuple #[W u1, .bool l1]) ∧ Below w.heap.size w w') (cL2 : ∀ w, Calls Tryd.prog 33 #[W s2, .int .i64 2] w fun e w' => e = .returned (.tuple #[W t1, .bool l2]) ∧ Below w.heap.size w w') (cL3 : ∀ w, Calls Tryd.prog 33 #[W u1, .int .i64 2] w fun e w' => e = .returned (.tuple #[W u2, .bool l3]) ∧ Below w.heap.size w w') (cJ : ∀ w, Tab w → Calls Tryd.prog 34 #[W t1, .int .i64 ((x1 - (min (x1 - x2) 200)) - x2)] w fun e w' => e = .returned (W t2) ∧ Below w.heap.size w w') (hbb : (b1 == b2) = false) (cC : ∀ w, Calls Tryd.prog 37 #[W u2, W t2] w fun e w' => e = .returned (.int .i64 1) ∧ Below w.heap.size w w') (s r : Nat) (o : Bool) (fl er : Int) (cK : ∀ w, Tab w → Calls Tryd.prog 39 #[.int .u8 f, .int .u8 m, RV b1 s ((x1 - (min (x1 - x2) 200)) - 2) false] w fun e w' => e = .returned (.tuple #[BV r, .int .u8 fl, .int .i64 er]) ∧ Below w.heap.size w w') (cS : ∀ w, Calls Tryd.prog 38 #[W u2, W t2] w fun e w' => e = .returned (.tuple #[W s, .bool o]) ∧ Below w.heap.size w w') :
    Calls Tryd.prog 11 #[.int .u8 f, .int .u8 m, BV a, BV b] w fun e w' => e = .returned (.tuple #[BV r, .int .u8 fl, .int .i64 er]) ∧ Below w.heap.size w w' := by
  have H := Own.start w
  have HT := Lib.hid hT
  clear hT
  go_enter Tryd.func11, Tryd.ntmps11
  exact walk2
theorem addAdd_FF0_less (f m a b : Nat) (c1 s1 f1 : Nat) (x1 : Int) (c2 s2 f2 : Nat) (x2 : Int) (c3 s3 f3 : Nat) (x3 : Int) (w : World) (hT : Tab w) (cO : ∀ w g, Tab w → Blk 26 w g (cat2 (bc a) (bc b)) → Calls Tryd.prog 28 #[.int .u8 f, .int .u8 m, .slice (some ⟨g, 0, none⟩) 2 2] w fun e w' => e = .returned (.tuple #[.agg (tri c1 s1 x1 f1 c2 s2 x2 f2 c3 s3 x3 f3), .bool true]) ∧ Below w.heap.size w w') (cn1 : ∀ w, Calls Tryd.prog 29 #[PV c1 s1 x1 f1] w fun e w' => e = .returned (.bool false) ∧ Below w.heap.size w w') (cn2 : ∀ w, Calls Tryd.prog 29 #[PV c2 s2 x2 f2] w fun e w' => e = .returned (.bool false) ∧ Below w.heap.size w w') (ci1 : ∀ w, Calls Tryd.prog 31 #[PV c1 s1 x1 f1] w fun e w' => e = .returned (.bool false) ∧ Below w.heap.size w w') (ci2 : ∀ w, Calls Tryd.prog 31 #[PV c2 s2 x2 f2] w fun e w' => e = .returned (.bool false) ∧ Below w.heap.size w w') (cz1 : ∀ w, Calls Tryd.prog 32 #[PV c1 s1 x1 f1] w fun e w' => e = .returned (.bool false) ∧ Below w.heap.size w w') (cz2 : ∀ w, Calls Tryd.prog 32 #[PV c2 s2 x2 f2] w fun e w' => e = .returned (.bool false) ∧ Below w.heap.size w w') (hx1 : -40000 ≤ x1) (hx1b : x1 ≤ 40000) (hx2 : -40000 ≤ x2) (hx2b : x2 ≤ 40000) (hs : ¬ x1 < x2) (u1 u2 t1 t2 : Nat) (l1 l2 l3 b1 b2 : Bool) (cb1 : ∀ w, Calls Tryd.prog 35 #[PV c1 s1 x1 f1] w fun e w' => e = .returned (.bool b1) ∧ Below w.heap.size w w') (cb2 : ∀ w, Calls Tryd.prog 35 #[PV c2 s2 x2 f2] w fun e w' => e = .returned (.bool b2) ∧ Below w.heap.size w w') (cL1 : ∀ w, Calls Tryd.prog 33 #[W s1, .int .i64 (min (x1 - x2) 200)] w fun e w' => e = .returned (.tuple #[W u1, .bool l1]) ∧ Below w.heap.size w w') (cL2 : ∀ w, Calls Tryd.prog 33 #[W s2, .int .i64 2] w fun e w' => e = .returned (.tuple #[W t1, .bool l2]) ∧ Below w.heap.size w w') (cL3 : ∀ w, Calls Tryd.prog 33 #[W u1, .int .i64 2] w fun e w' => e = .returned (.tuple #[W u2, .bool l3]) ∧ Below w.heap.size w w') (cJ : ∀ w, Tab w → Calls Tryd.prog 34 #[W t1, .int .i64 ((x1 - (min (x1 - x2) 200)) - x2)] w fun e w' => e = .returned (W t2) ∧ Below w.heap.size w w') (hbb : (b1 == b2) = false) (cC : ∀ w, Calls Tryd.prog 37 #[W u2, W t2] w fun e w' => e = .returned (.int .i64 (-1)) ∧ Below w.heap.size w w') (s r : Nat) (o : Bool) (fl er : Int) (cK : ∀ w, Tab w → Calls Tryd.prog 39 #[.int .u8 f, .int .u8 m, RV b2 s ((x1 - (min (x1 - x2) 200)) - 2) false] w fun e w' => e = .returned (.tuple #[BV r, .int .u8 fl, .int .i64 er]) ∧ Below w.heap.size w w') (cS : ∀ w, Calls Tryd.prog 38 #[W t2, W u2] w fun e w' => e = .returned (.tuple #[W s, .bool o]) ∧ Below w.heap.size w w') :
    Calls Tryd.prog 11 #[.int .u8 f, .int .u8 m, BV a, BV b] w fun e w' => e = .returned (.tuple #[BV r, .int .u8 fl, .int .i64 er]) ∧ Below w.heap.size w w' := by
  have H := Own.start w
  have HT := Lib.hid hT
  clear hT
  go_enter Tryd.func11, Tryd.ntmps11
  exact walk2
open Go.RowKit
theorem addAdd_FF1_same (f m a b : Nat) (c1 s1 f1 : Nat) (x1 : Int) (c2 s2 f2 : Nat) (x2 : Int) (c3 s3 f3 : Nat) (x3 : Int) (w : World) (hT : Tab w) (cO : ∀ w g, Tab w → Blk 26 w g (cat2 (bc a) (bc b)) → Calls Tryd.prog 28 #[.int .u8 f, .int .u8 m, .slice (some ⟨g, 0, none⟩) 2 2] w fun e w' => e = .returned (.tuple #[.agg (tri c1 s1 x1 f1 c2 s2 x2 f2 c3 s3 x3 f3), .bool true]) ∧ Below w.heap.size w w') (cn1 : ∀ w, Calls Tryd.prog 29 #[PV c1 s1 x1 f1] w fun e w' => e = .returned (.bool false) ∧ Below w.heap.size w w') (cn2 : ∀ w, Calls Tryd.prog 29 #[PV c2 s2 x2 f2] w fun e w' => e = .returned (.bool false) ∧ Below w.heap.size w w') (ci1 : ∀ w, Calls Tryd.prog 31 #[PV c1 s1 x1 f1] w fun e w' => e = .returned (.bool false) ∧ Below w.heap.size w w') (ci2 : ∀ w, Calls Tryd.prog 31 #[PV c2 s2 x2 f2] w fun e w' => e = .returned (.bool false) ∧ Below w.heap.size w w') (cz1 : ∀ w, Calls Tryd.prog 32 #[PV c1 s1 x1 f1] w fun e w' => e = .returned (.bool false) ∧ Below w.heap.size w w') (cz2 : ∀ w, Calls Tryd.prog 32 #[PV c2 s2 x2 f2] w fun e w' => e = .returned (.bool false) ∧ Below w.heap.size w w') (hx1 : -40000 ≤ x1) (hx1b : x1 ≤ 40000) (hx2 : -40000 ≤ x2) (hx2b : x2 ≤ 40000) (hs : x1 < x2) (u1 u2 t1 t2 : Nat) (l1 l2 l3 b1 b2 : Bool) (cb1 : ∀ w, Calls Tryd.prog 35 #[PV c1 s1 x1 f1] w fun e w' => e = .returned (.bool b1) ∧ Below w.heap.size w w') (cb2 : ∀ w, Calls Tryd.prog 35 #[PV c2 s2 x2 f2] w fun e w' => e = .returned (.bool b2) ∧ Below w.heap.size w w') (cL1 : ∀ w, Calls Tryd.prog 33 #[W s2, .int .i64 (min (x2 - x1) 200)] w fun e w' => e = .returned (.tuple #[W u1, .bool l1]) ∧ Below w.heap.size w w') (cL2 : ∀ w, Calls Tryd.prog 33 #[W s1, .int .i64 2] w fun e w' => e = .returned (.tuple #[W t1, .bool l2]) ∧ Below w.heap.size w w') (cL3 : ∀ w, Calls Tryd.prog 33 #[W u1, .int .i64 2] w fun e w' => e = .returned (.tuple #[W u2, .bool l3]) ∧ Below w.heap.size w w') (cJ : ∀ w, Tab w → Calls Tryd.prog 34 #[W t1, .int .i64 ((x2 - (min (x2 - x1) 200)) - x1)] w fun e w' => e = .returned (W t2) ∧ Below w.heap.size w w') (hbb : (b2 == b1) = true) (s r : Nat) (o : Bool) (fl er : Int) (cK : ∀ w, Tab w → Calls Tryd.prog 39 #[.int .u8 f, .int .u8 m, RV b2 s ((x2 - (min (x2 - x1) 200)) - 2) false] w fun e w' => e = .returned (.tuple #[BV r, .int .u8 fl, .int .i64 er]) ∧ Below w.heap.size w w') (cA : ∀ w, Calls Tryd.prog 36 #[W u2, W t2] w fun e w' => e = .returned (.tuple #[W s, .bool o]) ∧ Below w.heap.size w w') :
    Calls Tryd.prog 11 #[.int .u8 f, .int .u8 m, BV a, BV b] w fun e w' => e = .returned (.tuple #[BV r, .int .u8 fl, .int .i64 er]) ∧ Below w.heap.size w w' := by
  have H := Own.start w
  have HT := Lib.hid hT
  clear hT
  go_enter Tryd.func11, Tryd.ntmps11
  exact walk2
theorem addAdd_FF1_zero (f m a b : Nat) (c1 s1 f1 : Nat) (x1 : Int) (c2 s2 f2 : Nat) (x2 : Int) (c3 s3 f3 : Nat) (x3 : Int) (w : World) (hT : Tab w) (cO : ∀ w g, Tab w → Blk 26 w g (cat2 (bc a) (bc b)) → Calls Tryd.prog 28 #[.int .u8 f, .int .u8 m, .slice (some ⟨g, 0, none⟩) 2 2] w fun e w' => e = .returned (.tuple #[.agg (tri c1 s1 x1 f1 c2 s2 x2 f2 c3 s3 x3 f3), .bool true]) ∧ Below w.heap.size w w') (cn1 : ∀ w, Calls Tryd.prog 29 #[PV c1 s1 x1 f1] w fun e w' => e = .returned (.bool false) ∧ Below w.heap.size w w') (cn2 : ∀ w, Calls Tryd.prog 29 #[PV c2 s2 x2 f2] w fun e w' => e = .returned (.bool false) ∧ Below w.heap.size w w') (ci1 : ∀ w, Calls Tryd.prog 31 #[PV c1 s1 x1 f1] w fun e w' => e = .returned (.bool false) ∧ Below w.heap.size w w') (ci2 : ∀ w, Calls Tryd.prog 31 #[PV c2 s2 x2 f2] w fun e w' => e = .returned (.bool false) ∧ Below w.heap.size w w') (cz1 : ∀ w, Calls Tryd.prog 32 #[PV c1 s1 x1 f1] w fun e w' => e = .returned (.bool false) ∧ Below w.heap.size w w') (cz2 : ∀ w, Calls Tryd.prog 32 #[PV c2 s2 x2 f2] w fun e w' => e = .returned (.bool false) ∧ Below w.heap.size w w') (hx1 : -40000 ≤ x1) (hx1b : x1 ≤ 40000) (hx2 : -40000 ≤ x2) (hx2b : x2 ≤ 40000) (hs : x1 < x2) (u1 u2 t1 t2 : Nat) (l1 l2 l3 b1 b2 : Bool) (cb1 : ∀ w, Calls Tryd.prog 35 #[PV c1 s1 x1 f1] w fun e w' => e = .returned (.bool b1) ∧ Below w.heap.size w w') (cb2 : ∀ w, Calls Tryd.prog 35 #[PV c2 s2 x2 f2] w fun e w' => e = .returned (.bool b2) ∧ Below w.heap.size w w') (cL1 : ∀ w, Calls Tryd.prog 33 #[W s2, .int .i64 (min (x2 - x1) 200)] w fun e w' => e = .returned (.tuple #[W u1, .bool l1]) ∧ Below w.heap.size w w') (cL2 : ∀ w, Calls Tryd.prog 33 #[W s1, .int .i64 2] w fun e w' => e = .returned (.tuple #[W t1, .bool l2]) ∧ Below w.heap.size w w') (cL3 : ∀ w, Calls Tryd.prog 33 #[W u1, .int .i64 2] w fun e w' => e = .returned (.tuple #[W u2, .bool l3]) ∧ Below w.heap.size w w') (cJ : ∀ w, Tab w → Calls Tryd.prog 34 #[W t1, .int .i64 ((x2 - (min (x2 - x1) 200)) - x1)] w fun e w' => e = .returned (W t2) ∧ Below w.heap.size w w') (hbb : (b2 == b1) = false) (cC : ∀ w, Calls Tryd.prog 37 #[W u2, W t2] w fun e w' => e = .returned (.int .i64 0) ∧ Below w.heap.size w w') (zz : Nat) (cZZ : ∀ w, Calls Tryd.prog 14 #[.int .u8 f, .bool ((m : Int) == 2)] w fun e w' => e = .returned (BV zz) ∧ Below w.heap.size w w')  :
    Calls Tryd.prog 11 #[.int .u8 f, .int .u8 m, BV a, BV b] w fun e w' => e = .returned (.tuple #[BV zz, .int .u8 0, .int .i64 0]) ∧ Below w.heap.size w w' := by
  have H := Own.start w
  have HT := Lib.hid hT
  clear hT
  go_enter Tryd.func11, Tryd.ntmps11
  exact walk2
theorem addAdd_FF1_more (f m a b : Nat) (c1 s1 f1 : Nat) (x1 : Int) (c2 s2 f2 : Nat) (x2 : Int) (c3 s3 f3 : Nat) (x3 : Int) (w : World) (hT : Tab w) (cO : ∀ w g, Tab w → Blk 26 w g (cat2 (bc a) (bc b)) → Calls Tryd.prog 28 #[.int .u8 f, .int .u8 m, .slice (some ⟨g, 0, none⟩) 2 2] w fun e w' => e = .returned (.tuple #[.agg (tri c1 s1 x1 f1 c2 s2 x2 f2 c3 s3 x3 f3), .bool true]) ∧ Below w.heap.size w w') (cn1 : ∀ w, Calls Tryd.prog 29 #[PV c1 s1 x1 f1] w fun e w' => e = .returned (.bool false) ∧ Below w.heap.size w w') (cn2 : ∀ w, Calls Tryd.prog 29 #[PV c2 s2 x2 f2] w fun e w' => e = .returned (.bool false) ∧ Below w.heap.size w w') (ci1 : ∀ w, Calls Tryd.prog 31 #[PV c1 s1 x1 f1] w fun e w' => e = .returned (.bool false) ∧ Below w.heap.size w w') (ci2 : ∀ w, Calls Tryd.prog 31 #[PV c2 s2 x2 f2] w fun e w' => e = .returned (.bool false) ∧ Below w.heap.size w w') (cz1 : ∀ w, Calls Tryd.prog 32 #[PV c1 s1 x1 f1] w fun e w' => e = .returned (.bool false) ∧ Below w.heap.size w w') (cz2 : ∀ w, Calls Tryd.prog 32 #[PV c2 s2 x2 f2] w fun e w' => e = .returned (.bool false) ∧ Below w.heap.size w w') (hx1 : -40000 ≤ x1) (hx1b : x1 ≤ 40000) (hx2 : -40000 ≤ x2) (hx2b : x2 ≤ 40000) (hs : x1 < x2) (u1 u2 t1 t2 : Nat) (l1 l2 l3 b1 b2 : Bool) (cb1 : ∀ w, Calls Tryd.prog 35 #[PV c1 s1 x1 f1] w fun e w' => e = .returned (.bool b1) ∧ Below w.heap.size w w') (cb2 : ∀ w, Calls Tryd.prog 35 #[PV c2 s2 x2 f2] w fun e w' => e = .returned (.bool b2) ∧ Below w.heap.size w w') (cL1 : ∀ w, Calls Tryd.prog 33 #[W s2, .int .i64 (min (x2 - x1) 200)] w fun e w' => e = .returned (.tuple #[W u1, .bool l1]) ∧ Below w.heap.size w w') (cL2 : ∀ w, Calls Tryd.prog 33 #[W s1, .int .i64 2] w fun e w' => e = .returned (.tuple #[W t1, .bool l2]) ∧ Below w.heap.size w w') (cL3 : ∀ w, Calls Tryd.prog 33 #[W u1, .int .i64 2] w fun e w' => e = .returned (.tuple #[W u2, .bool l3]) ∧ Below w.heap.size w w') (cJ : ∀ w, Tab w → Calls Tryd.prog 34 #[W t1, .int .i64 ((x2 - (min (x2 - x1) 200)) - x1)] w fun e w' => e = .returned (W t2) ∧ Below w.heap.size w w') (hbb : (b2 == b1) = false) (cC : ∀ w, Calls Tryd.prog 37 #[W u2, W t2] w fun e w' => e = .returned (.int .i64 1) ∧ Below w.heap.size w w') (s r : Nat) (o : Bool) (fl er : Int) (cK : ∀ w, Tab w → Calls Tryd.prog 39 #[.int .u8 f, .int .u8 m, RV b2 s ((x2 - (min (x2 - x1) 200)) - 2) false] w fun e w' => e = .returned (.tuple #[BV r, .int .u8 fl, .int .i64 er]) ∧ Below w.heap.size w w') (cS : ∀ w, Calls Tryd.prog 38 #[W u2, W t2] w fun e w' => e = .returned (.tuple #[W s, .bool o]) ∧ Below w.heap.size w w') :
    Calls Tryd.prog 11 #[.int .u8 f, .int .u8 m, BV a, BV b] w fun e w' => e = .returned (.tuple #[BV r, .int .u8 fl, .int .i64 er]) ∧ Below w.heap.size w w' := by
  have H := Own.start w
  have HT := Lib.hid hT
  clear hT
  go_enter Tryd.func11, Tryd.ntmps11
  exact walk2
theorem addAdd_FF1_less (f m a b : Nat) (c1 s1 f1 : Nat) (x1 : Int) (c2 s2 f2 : Nat) (x2 : Int) (c3 s3 f3 : Nat) (x3 : Int) (w : World) (hT : Tab w) (cO : ∀ w g, Tab w → Blk 26 w g (cat2 (bc a) (bc b)) → Calls Tryd.prog 28 #[.int .u8 f, .int .u8 m, .slice (some ⟨g, 0, none⟩) 2 2] w fun e w' => e = .returned (.tuple #[.agg (tri c1 s1 x1 f1 c2 s2 x2 f2 c3 s3 x3 f3), .bool true]) ∧ Below w.heap.size w w') (cn1 : ∀ w, Calls Tryd.prog 29 #[PV c1 s1 x1 f1] w fun e w' => e = .returned (.bool false) ∧ Below w.heap.size w w') (cn2 : ∀ w, Calls Tryd.prog 29 #[PV c2 s2 x2 f2] w fun e w' => e = .returned (.bool false) ∧ Below w.heap.size w w') (ci1 : ∀ w, Calls Tryd.prog 31 #[PV c1 s1 x1 f1] w fun e w' => e = .returned (.bool false) ∧ Below w.heap.size w w') (ci2 : ∀ w, Calls Tryd.prog 31 #[PV c2 s2 x2 f2] w fun e w' => e = .returned (.bool false) ∧ Below w.heap.size w w') (cz1 : ∀ w, Calls Tryd.prog 32 #[PV c1 s1 x1 f1] w fun e w' => e = .returned (.bool false) ∧ Below w.heap.size w w') (cz2 : ∀ w, Calls Tryd.prog 32 #[PV c2 s2 x2 f2] w fun e w' => e = .returned (.bool false) ∧ Below w.heap.size w w') (hx1 : -40000 ≤ x1) (hx1b : x1 ≤ 40000) (hx2 : -40000 ≤ x2) (hx2b : x2 ≤ 40000) (hs : x1 < x2) (u1 u2 t1 t2 : Nat) (l1 l2 l3 b1 b2 : Bool) (cb1 : ∀ w, Calls Tryd.prog 35 #[PV c1 s1 x1 f1] w fun e w' => e = .returned (.bool b1) ∧ Below w.heap.size w w') (cb2 : ∀ w, Calls Tryd.prog 35 #[PV c2 s2 x2 f2] w fun e w' => e = .returned (.bool b2) ∧ Below w.heap.size w w') (cL1 : ∀ w, Calls Tryd.prog 33 #[W s2, .int .i64 (min (x2 - x1) 200)] w fun e w' => e = .returned (.tuple #[W u1, .bool l1]) ∧ Below w.heap.size w w') (cL2 : ∀ w, Calls Tryd.prog 33 #[W s1, .int .i64 2] w fun e w' => e = .returned (.tuple #[W t1, .bool l2]) ∧ Below w.heap.size w w') (cL3 : ∀ w, Calls Tryd.prog 33 #[W u1, .int .i64 2] w fun e w' => e = .returned (.tuple #[W u2, .bool l3]) ∧ Below w.heap.size w w') (cJ : ∀ w, Tab w → Calls Tryd.prog 34 #[W t1, .int .i64 ((x2 - (min (x2 - x1) 200)) - x1)] w fun e w' => e = .returned (W t2) ∧ Below w.heap.size w w') (hbb : (b2 == b1) = false) (cC : ∀ w, Calls Tryd.prog 37 #[W u2, W t2] w fun e w' => e = .returned (.int .i64 (-1)) ∧ Below w.heap.size w w') (s r : Nat) (o : Bool) (fl er : Int) (cK : ∀ w, Tab w → Calls Tryd.prog 39 #[.int .u8 f, .int .u8 m, RV b1 s ((x2 - (min (x2 - x1) 200)) - 2) false] w fun e w' => e = .returned (.tuple #[BV r, .int .u8 fl, .int .i64 er]) ∧ Below w.heap.size w w') (cS : ∀ w, Calls Tryd.prog 38 #[W t2, W u2] w fun e w' => e = .returned (.tuple #[W s, .bool o]) ∧ Below w.heap.size w w') :
    Calls Tryd.prog 11 #[.int .u8 f, .int .u8 m, BV a, BV b] w fun e w' => e = .returned (.tuple #[BV r, .int .u8 fl, .int .i64 er]) ∧ Below w.heap.size w w' := by
  have H := Own.start w
  have HT := Lib.hid hT
  clear hT
  go_enter Tryd.func11, Tryd.ntmps11
  exact walk2
theorem infB_cases (c : Nat) (h : infB c = true) : c = 0 ∨ c = 7 := by unfold infB at h; simpa using h
theorem sigN_113 (f a : Nat) (hf : fitsB f a = true) : sigN f a < 2 ^ 113 := by
  have h4 := ((fits_iff f a).1 hf).1
  have hp := pF_113 f
  rcases cls_sort f a with c | c | c | c
  · unfold sigN; rw [if_neg (by omega), if_neg (by omega)]; exact two_pos 113
  · unfold sigN; rw [if_neg (by omega), if_neg (by omega)]; exact two_pos 113
  · unfold sigN; rw [if_neg (by omega), if_neg (by omega)]; exact two_pos 113
  · have := (can_of f a hf c).1.lt
    exact Nat.lt_of_lt_of_le this (Nat.pow_le_pow_right (by decide) hp)
theorem xpN_bound (f a : Nat) (hf : fitsB f a = true) : -40000 ≤ xpN f a ∧ xpN f a ≤ 40000 := by
  have h4 := ((fits_iff f a).1 hf).1
  obtain ⟨h1, h2, h3, h5, h6, h7, h8, h9⟩ := formK f h4
  rcases cls_sort f a with c | c | c | c
  · unfold xpN; rw [if_neg (by omega), if_neg (by omega)]; omega
  · unfold xpN; rw [if_neg (by omega), if_neg (by omega)]; omega
  · unfold xpN; rw [if_neg (by omega), if_neg (by omega)]; omega
  · have hc := (can_of f a hf c).1
    have := hc.ge; have := hc.le; omega
theorem below_fits (f a : Nat) (h : fitsB f a = true) : a < 2 ^ (64 * 2) := by
  obtain ⟨h4, hb⟩ := (fits_iff f a).1 h
  exact Nat.lt_of_lt_of_le hb (Nat.pow_le_pow_right (by decide) (by have := (formB f h4).2.2.2.1; omega))
theorem canon_flag (b : Bool) : (cond b (16 : Int) 0) = ((cond b 16 0 : Nat) : Int) := by cases b <;> rfl
theorem jamN_lt (y k n : Nat) (hn : 1 ≤ n) (h : y < 2 ^ n) : jamN y k < 2 ^ n := by
  obtain ⟨i, rfl⟩ : ∃ i, n = i + 1 := ⟨n - 1, by omega⟩
  have hd : y / 2 ^ k ≤ y := Nat.div_le_self _ _
  rw [Nat.pow_succ] at *
  unfold jamN
  split
  · omega
  · rw [or_one]; omega
theorem pack_ok (f m s : Nat) (neg : Bool) (e : Int) (hf : f < 4) (hm : m < 5) (h1 : -1048576 ≤ e) (h2 : e ≤ 1048576) (h0 : s ≠ 0) :
    packN f m neg s e false = ((packB f m neg s e false).1, (packB f m neg s e false).2, 0) := by
  unfold packN packOk
  rw [decide_eq_true hf, decide_eq_true hm, decide_eq_true h1, decide_eq_true h2, if_neg h0]; rfl
theorem sig_ne (f a : Nat) (hfa : fitsB f a = true) (h1 : nanB (clsN f a) = false) (i1 : infB (clsN f a) = false) (z1 : zerB (clsN f a) = false) : sigN f a ≠ 0 := by
  intro h0
  have := (sig_zero f a hfa (by intro h; rw [show nanB (clsN f a) = true from decide_eq_true h] at h1; cases h1) (by intro h; rw [show infB (clsN f a) = true by unfold infB; rcases h with h | h <;> rw [h] <;> rfl] at i1; cases i1)).1 h0
  rw [show zerB (clsN f a) = true by unfold zerB; rcases this with h | h <;> rw [h] <;> rfl] at z1; cases z1
theorem inf_zer (c : Nat) (h : infB c = true) : zerB c = false := by rcases infB_cases c h with rfl | rfl <;> rfl
theorem cast_beq (a b : Nat) : ((a : Int) == (b : Int)) = decide (a = b) := by
  by_cases h : a = b
  · subst h; simp
  · rw [decide_eq_false h]
    exact beq_eq_false_iff_ne.2 (by omega)
theorem lt_113_6 (x n : Nat) (hn : n ≤ 384) (h : x < 2 ^ n) : x < top6 := lt_pwr top6 n (64 * 6) _ top6.eq_1 hn h
theorem mul_pow_lt (x n k : Nat) (h : x < 2 ^ n) : x * 2 ^ k < 2 ^ (n + k) := by
  rw [Nat.pow_add]; exact Nat.mul_lt_mul_of_pos_right h (two_pos k)
theorem lt_up (x a b : Nat) (h : x < 2 ^ a) (hab : a ≤ b) : x < 2 ^ b := Nat.lt_of_lt_of_le h (Nat.pow_le_pow_right (by decide) hab)
theorem add_lt_pow (S t n : Nat) (h1 : S < 2 ^ n) (h2 : t < 2 ^ n) : S + t < 2 ^ (n + 1) := by rw [Nat.pow_succ]; omega
theorem sub_lt_pow (S t n : Nat) (h1 : S < 2 ^ n) : S - t < 2 ^ (n + 1) := by rw [Nat.pow_succ]; omega
theorem add_lt_pow2 (S t n k : Nat) (hk : n + 1 = k) (h1 : S < 2 ^ n) (h2 : t < 2 ^ n) : S + t < 2 ^ k := by subst hk; exact add_lt_pow S t n h1 h2
theorem sub_lt_pow2 (S t n k : Nat) (hk : n + 1 = k) (h1 : S < 2 ^ n) : S - t < 2 ^ k := by subst hk; exact sub_lt_pow S t n h1
theorem sub_ne (S t : Nat) (h : t < S) : S - t ≠ 0 := by omega
theorem add_ne (S t : Nat) (h : S ≠ 0) : S + t ≠ 0 := by omega
open Go.RowKit
/-- What add.open answers. -/
theorem addOpen_any (f m a b : Nat) (hf : f < 256) (hm : m < 256) (ha : a < 2 ^ (64 * 2)) (hb : b < 2 ^ (64 * 2)) :
    ∃ c1 s1 f1 x1 c2 s2 f2 x2, (binOk f m a b = true → c1 = clsN f a ∧ s1 = sigN f a ∧ x1 = xpN f a ∧ f1 = frN f a ∧ c2 = clsN f b ∧ s2 = sigN f b ∧ x2 = xpN f b ∧ f2 = frN f b) ∧
    ∀ (w : World) (g : Nat), Tab w → Blk 26 w g (cat2 (bc a) (bc b)) → Calls Tryd.prog 28 #[.int .u8 f, .int .u8 m, .slice (some ⟨g, 0, none⟩) 2 2] w fun e w' => e = .returned (.tuple #[.agg (tri c1 s1 x1 f1 c2 s2 x2 f2 0 0 0 0), .bool (binOk f m a b)]) ∧ Below w.heap.size w w' := by
  have cM := fun w => shapeCheckMode_any m w hm
  have cF := fun w => shapeCheck_any f w hf
  by_cases hm5 : m < 5
  case neg =>
    have e : binOk f m a b = false := by unfold binOk; rw [decide_eq_false hm5]; simp
    rw [decide_eq_false hm5] at cM
    rw [e]
    exact ⟨0, 0, 0, 0, 0, 0, 0, 0, (fun h => by cases h), fun w g _ hB => add_open2_mode f m a b w g hB cM⟩
  rw [decide_eq_true hm5] at cM
  by_cases hf4 : f < 4
  case neg =>
    have e : binOk f m a b = false := by unfold binOk; rw [decide_eq_false hf4]; simp
    rw [decide_eq_false hf4] at cF
    rw [e]
    exact ⟨0, 0, 0, 0, 0, 0, 0, 0, (fun h => by cases h), fun w g _ hB => add_open2_form f m a b w g hB cM cF⟩
  rw [decide_eq_true hf4] at cF
  cases ha' : fitsB f a
  · have e : binOk f m a b = false := by unfold binOk; rw [ha']; simp
    rw [e]
    exact ⟨0, 0, 0, 0, 0, 0, 0, 0, (fun h => by cases h), fun w g hT hB => add_open2_no0 f m a b w hT g hB cM cF (fun w _ => kindUnpack_not f a w ha ha')⟩
  cases hb' : fitsB f b
  · have e : binOk f m a b = false := by unfold binOk; rw [hb']; simp
    rw [e]
    exact ⟨_, _, _, _, 0, 0, 0, 0, (fun h => by cases h), fun w g hT hB => add_open2_no1 f m a b w hT g hB cM cF (fun w hT => kindUnpack_yes f a w ha' hT) (fun w _ => kindUnpack_not f b w hb hb')⟩
  have e : binOk f m a b = true := by unfold binOk; rw [ha', hb', decide_eq_true hm5, decide_eq_true hf4]; rfl
  rw [e]
  exact ⟨_, _, _, _, _, _, _, _, fun _ => ⟨rfl, rfl, rfl, rfl, rfl, rfl, rfl, rfl⟩, fun w g hT hB => add_open2_ok f m a b w hT g hB cM cF (fun w hT => kindUnpack_yes f a w ha' hT) (fun w hT => kindUnpack_yes f b w hb' hT)⟩
theorem addAdd_any (f m a b : Nat) (w : World) (hf : f < 256) (hm : m < 256) (ha : a < 2 ^ (64 * 2)) (hb : b < 2 ^ (64 * 2)) (hT : Tab w) :
    Calls Tryd.prog 11 #[.int .u8 f, .int .u8 m, BV a, BV b] w fun e w' => e = .returned (.tuple #[BV (addN f m a b).1, .int .u8 ((addN f m a b).2.1 : Nat), .int .i64 (addN f m a b).2.2]) ∧ Below w.heap.size w w' := by
  obtain ⟨c1, s1, f1, x1, c2, s2, f2, x2, hv, cO⟩ := addOpen_any f m a b hf hm ha hb
  cases hok : binOk f m a b
  · have hN : addN f m a b = (0, 0, 2) := by unfold addN; rw [hok]; rfl
    rw [hok] at cO
    rw [hN]
    exact addAdd_no f m a b _ _ _ _ _ _ _ _ _ _ _ _ w hT cO
  obtain ⟨rfl, rfl, rfl, rfl, rfl, rfl, rfl, rfl⟩ := hv hok
  have hN : addN f m a b = ((addR f m a b).1, (addR f m a b).2, 0) := by unfold addN; rw [hok]; rfl
  rw [hN]
  rw [hok] at cO
  obtain ⟨⟨hf4', hm5'⟩, hfa, hfb⟩ : (decide (f < 4) = true ∧ decide (m < 5) = true) ∧ fitsB f a = true ∧ fitsB f b = true := by unfold binOk at hok; simp only [Bool.and_eq_true] at hok; exact hok
  have hf4 := of_decide_eq_true hf4'
  have hm5 := of_decide_eq_true hm5'
  have cb1 := fun w => add_below (clsN f a) (sigN f a) (frN f a) (xpN f a) w
  have cb2 := fun w => add_below (clsN f b) (sigN f b) (frN f b) (xpN f b) w
  have cn1 := fun w => add_nan (clsN f a) (sigN f a) (frN f a) (xpN f a) w
  have cn2 := fun w => add_nan (clsN f b) (sigN f b) (frN f b) (xpN f b) w
  have ci1 := fun w => add_inf (clsN f a) (sigN f a) (frN f a) (xpN f a) w
  have ci2 := fun w => add_inf (clsN f b) (sigN f b) (frN f b) (xpN f b) w
  have cz1 := fun w => add_nought (clsN f a) (sigN f a) (frN f a) (xpN f a) w
  have cz2 := fun w => add_nought (clsN f b) (sigN f b) (frN f b) (xpN f b) w
  have cN := fun w => shapeNaN_any f w hf
  have cC := fun w g hB => add_canon f (clsN f a) (sigN f a) (frN f a) (xpN f a) (clsN f b) (sigN f b) (frN f b) (xpN f b) w g hB cN
  have cZ := fun w => shapeZero_any f (decide (m = 2)) w hf
  have em : ((m : Int) == 2) = decide (m = 2) := cast_beq m 2
  rw [← em] at cZ
  unfold addR canonR
  rw [← em]
  cases h1 : nanB (clsN f a)
  case true =>
    rw [h1] at cn1
    rw [canon_flag] at cC
    exact addAdd_N1 f m a b _ _ _ _ _ _ _ _ 0 0 0 0 w hT cO cn1 _ _ cC
  rw [h1] at cn1
  cases h2 : nanB (clsN f b)
  case true =>
    rw [h2] at cn2
    rw [canon_flag] at cC
    exact addAdd_N2 f m a b _ _ _ _ _ _ _ _ 0 0 0 0 w hT cO cn1 cn2 _ _ cC
  rw [h2] at cn2
  have hc := cast_beq (clsN f a) (clsN f b)
  cases i1 : infB (clsN f a) <;> cases z1 : zerB (clsN f a) <;> cases i2 : infB (clsN f b) <;> cases z2 : zerB (clsN f b) <;> rw [i1] at ci1 <;> rw [z1] at cz1 <;> rw [i2] at ci2 <;> rw [z2] at cz2
  · (
    obtain ⟨g1, g2⟩ := xpN_bound f a hfa
    obtain ⟨g3, g4⟩ := xpN_bound f b hfb
    have qa := sigN_113 f a hfa
    have qb := sigN_113 f b hfb
    have ta := lt_113_6 _ _ (by decide) qa
    have tb := lt_113_6 _ _ (by decide) qb
    have na := sig_ne f a hfa h1 i1 z1
    have nb := sig_ne f b hfb h2 i2 z2
    simp only [Bool.or_self, Bool.false_eq_true, if_false, Bool.and_self, Bool.false_and]
    (try rw [em])
    rw [em] at cZ
    have cZ : ∀ w, Calls Tryd.prog 14 #[.int .u8 f, .bool ((m : Int) == 2)] w fun e w' => e = .returned (BV (zeroN f (decide (m = 2)))) ∧ Below w.heap.size w w' := by rw [em]; exact cZ
    by_cases hs : xpN f a < xpN f b
    · (
      have hle : xpN f a ≤ xpN f b := by omega
      have hcore := add_core f m (belowN4 (clsN f b)) (sigN f b) (xpN f b) (belowN4 (clsN f a)) (sigN f a) (xpN f a) hf4 nb na qa hle
      have hup : min (xpN f b - xpN f a) 200 = ((addUp (xpN f b) (xpN f a) : Nat) : Int) := by unfold addUp; omega
      obtain ⟨u, hu⟩ : ∃ u, addUp (xpN f b) (xpN f a) = u := ⟨_, rfl⟩
      rw [hu] at hcore hup
      have hu2 : u ≤ 200 := by omega
      have cL1 := fun w => wideLeft_n (sigN f b) (min (xpN f b - xpN f a) 200) w tb
      rw [show (min (xpN f b - xpN f a) 200).toNat = u by omega] at cL1
      have b1 := mul_pow_lt (sigN f b) 113 u qb
      have b2 := mul_pow_lt _ _ 2 b1
      have b3 := mul_pow_lt (sigN f a) 113 2 qa
      have cL3 := fun w => wideLeft_n (sigN f b * 2 ^ u) 2 w (lt_113_6 _ _ (by omega) b1)
      have cL2 := fun w => wideLeft_n (sigN f a) 2 w ta
      rw [show (2 : Int).toNat = 2 from rfl] at cL2 cL3
      have cJ := fun w hT => jamRight_any (sigN f a * 2 ^ 2) (xpN f b - min (xpN f b - xpN f a) 200 - xpN f a) w (lt_113_6 _ _ (by decide) b3) hT
      have b4 := jamN_lt (sigN f a * 2 ^ 2) (xpN f b - min (xpN f b - xpN f a) 200 - xpN f a).toNat (113 + 2) (by decide) b3
      have hE : xpN f b - min (xpN f b - xpN f a) 200 - 2 = xpN f b - u - 2 := by rw [hup]
      have hjk : (xpN f b - min (xpN f b - xpN f a) 200 - xpN f a).toNat = (xpN f b - u - xpN f a).toNat := by rw [hup]
      rw [hjk] at cJ b4
      have hS0 : sigN f b * 2 ^ u * 2 ^ 2 ≠ 0 := by
        have := Nat.pos_of_ne_zero nb
        exact Nat.ne_of_gt (Nat.mul_pos (Nat.mul_pos this (two_pos _)) (by decide))
      obtain ⟨S, hS⟩ : ∃ S, sigN f b * 2 ^ u * 2 ^ 2 = S := ⟨_, rfl⟩
      obtain ⟨t, ht⟩ : ∃ t, jamN (sigN f a * 2 ^ 2) (xpN f b - u - xpN f a).toNat = t := ⟨_, rfl⟩
      rw [hS] at b2 cL3 hcore hS0
      rw [ht] at cJ b4 hcore
      have tS := Lib.hid (lt_up S (113 + u + 2) 315 b2 (by clear b1 b2 b3 b4; omega))
      have tt := Lib.hid (lt_up t (113 + 2) 315 b4 (by decide))
      have cK := fun neg s (hs : s < 2 ^ 316) w hT => roundPack_any f m s (xpN f b - min (xpN f b - xpN f a) 200 - 2) neg false w hT hf hm (lt_113_6 _ _ (by decide) hs)
      have hP := fun neg s (hs : s ≠ 0) => pack_ok f m s neg (xpN f b - min (xpN f b - xpN f a) 200 - 2) hf4 hm5 (by omega) (by omega) hs
      rw [sumX_swap]; rw [← hcore]
      rw [← hE]
      unfold sumJ
      by_cases hne : belowN4 (clsN f b) = belowN4 (clsN f a)
      · rw [if_pos hne]
        have cA := fun w => wideAdd_any S t w
        have k := cK (belowN4 (clsN f b)) (S + t) (add_lt_pow2 S t 315 316 rfl tS.out tt.out)
        rw [hP _ _ (add_ne S t hS0)] at k
        exact addAdd_FF1_same f m a b _ _ _ _ _ _ _ _ 0 0 0 0 w hT cO cn1 cn2 ci1 ci2 cz1 cz2 g1 g2 g3 g4 hs _ _ _ _ _ _ _ _ _ cb1 cb2 cL1 cL2 cL3 cJ (beq_iff_eq.2 hne) _ _ _ _ _ k cA
      · rw [if_neg hne]
        have hb : (belowN4 (clsN f b) == belowN4 (clsN f a)) = false := beq_eq_false_iff_ne.2 hne
        have tS6 := lt_113_6 _ _ (by decide) tS.out
        have tt6 := lt_113_6 _ _ (by decide) tt.out
        have cC' := fun w => wideCmp_any S t w tS6 tt6
        by_cases hst : S = t
        · rw [if_pos hst]
          rw [show cmpN S t = 0 by unfold cmpN; rw [if_neg (by omega), if_neg (by omega)]] at cC'
          exact addAdd_FF1_zero f m a b _ _ _ _ _ _ _ _ 0 0 0 0 w hT cO cn1 cn2 ci1 ci2 cz1 cz2 g1 g2 g3 g4 hs _ _ _ _ _ _ _ _ _ cb1 cb2 cL1 cL2 cL3 cJ hb cC' _ cZ
        · rw [if_neg hst]
          by_cases hlt : t < S
          · rw [if_pos hlt]
            rw [show cmpN S t = 1 by unfold cmpN; rw [if_neg (by omega), if_pos hlt]] at cC'
            have cS := fun w => wideSub_any S t w tt6
            unfold W at cS
            rw [limbs_sub S t (Nat.le_of_lt hlt)] at cS
            have k := cK (belowN4 (clsN f b)) (S - t) (sub_lt_pow2 S t 315 316 rfl tS.out)
            rw [hP _ _ (sub_ne S t hlt)] at k
            exact addAdd_FF1_more f m a b _ _ _ _ _ _ _ _ 0 0 0 0 w hT cO cn1 cn2 ci1 ci2 cz1 cz2 g1 g2 g3 g4 hs _ _ _ _ _ _ _ _ _ cb1 cb2 cL1 cL2 cL3 cJ hb cC' _ _ _ _ _ k cS
          · rw [if_neg hlt]
            rw [show cmpN S t = -1 by unfold cmpN; rw [if_pos (by omega)]] at cC'
            have cS := fun w => wideSub_any t S w tS6
            unfold W at cS
            rw [limbs_sub t S (by omega)] at cS
            have k := cK (belowN4 (clsN f a)) (t - S) (sub_lt_pow2 t S 315 316 rfl tt.out)
            rw [hP _ _ (sub_ne t S (by clear tS tt b2 b4; omega))] at k
            exact addAdd_FF1_less f m a b _ _ _ _ _ _ _ _ 0 0 0 0 w hT cO cn1 cn2 ci1 ci2 cz1 cz2 g1 g2 g3 g4 hs _ _ _ _ _ _ _ _ _ cb1 cb2 cL1 cL2 cL3 cJ hb cC' _ _ _ _ _ k cS)
    · (
      have hle : xpN f b ≤ xpN f a := by omega
      have hcore := add_core f m (belowN4 (clsN f a)) (sigN f a) (xpN f a) (belowN4 (clsN f b)) (sigN f b) (xpN f b) hf4 na nb qb hle
      have hup : min (xpN f a - xpN f b) 200 = ((addUp (xpN f a) (xpN f b) : Nat) : Int) := by unfold addUp; omega
      obtain ⟨u, hu⟩ : ∃ u, addUp (xpN f a) (xpN f b) = u := ⟨_, rfl⟩
      rw [hu] at hcore hup
      have hu2 : u ≤ 200 := by omega
      have cL1 := fun w => wideLeft_n (sigN f a) (min (xpN f a - xpN f b) 200) w ta
      rw [show (min (xpN f a - xpN f b) 200).toNat = u by omega] at cL1
      have b1 := mul_pow_lt (sigN f a) 113 u qa
      have b2 := mul_pow_lt _ _ 2 b1
      have b3 := mul_pow_lt (sigN f b) 113 2 qb
      have cL3 := fun w => wideLeft_n (sigN f a * 2 ^ u) 2 w (lt_113_6 _ _ (by omega) b1)
      have cL2 := fun w => wideLeft_n (sigN f b) 2 w tb
      rw [show (2 : Int).toNat = 2 from rfl] at cL2 cL3
      have cJ := fun w hT => jamRight_any (sigN f b * 2 ^ 2) (xpN f a - min (xpN f a - xpN f b) 200 - xpN f b) w (lt_113_6 _ _ (by decide) b3) hT
      have b4 := jamN_lt (sigN f b * 2 ^ 2) (xpN f a - min (xpN f a - xpN f b) 200 - xpN f b).toNat (113 + 2) (by decide) b3
      have hE : xpN f a - min (xpN f a - xpN f b) 200 - 2 = xpN f a - u - 2 := by rw [hup]
      have hjk : (xpN f a - min (xpN f a - xpN f b) 200 - xpN f b).toNat = (xpN f a - u - xpN f b).toNat := by rw [hup]
      rw [hjk] at cJ b4
      have hS0 : sigN f a * 2 ^ u * 2 ^ 2 ≠ 0 := by
        have := Nat.pos_of_ne_zero na
        exact Nat.ne_of_gt (Nat.mul_pos (Nat.mul_pos this (two_pos _)) (by decide))
      obtain ⟨S, hS⟩ : ∃ S, sigN f a * 2 ^ u * 2 ^ 2 = S := ⟨_, rfl⟩
      obtain ⟨t, ht⟩ : ∃ t, jamN (sigN f b * 2 ^ 2) (xpN f a - u - xpN f b).toNat = t := ⟨_, rfl⟩
      rw [hS] at b2 cL3 hcore hS0
      rw [ht] at cJ b4 hcore
      have tS := Lib.hid (lt_up S (113 + u + 2) 315 b2 (by clear b1 b2 b3 b4; omega))
      have tt := Lib.hid (lt_up t (113 + 2) 315 b4 (by decide))
      have cK := fun neg s (hs : s < 2 ^ 316) w hT => roundPack_any f m s (xpN f a - min (xpN f a - xpN f b) 200 - 2) neg false w hT hf hm (lt_113_6 _ _ (by decide) hs)
      have hP := fun neg s (hs : s ≠ 0) => pack_ok f m s neg (xpN f a - min (xpN f a - xpN f b) 200 - 2) hf4 hm5 (by omega) (by omega) hs
      rw [← hcore]
      rw [← hE]
      unfold sumJ
      by_cases hne : belowN4 (clsN f a) = belowN4 (clsN f b)
      · rw [if_pos hne]
        have cA := fun w => wideAdd_any S t w
        have k := cK (belowN4 (clsN f a)) (S + t) (add_lt_pow2 S t 315 316 rfl tS.out tt.out)
        rw [hP _ _ (add_ne S t hS0)] at k
        exact addAdd_FF0_same f m a b _ _ _ _ _ _ _ _ 0 0 0 0 w hT cO cn1 cn2 ci1 ci2 cz1 cz2 g1 g2 g3 g4 hs _ _ _ _ _ _ _ _ _ cb1 cb2 cL1 cL2 cL3 cJ (beq_iff_eq.2 hne) _ _ _ _ _ k cA
      · rw [if_neg hne]
        have hb : (belowN4 (clsN f a) == belowN4 (clsN f b)) = false := beq_eq_false_iff_ne.2 hne
        have tS6 := lt_113_6 _ _ (by decide) tS.out
        have tt6 := lt_113_6 _ _ (by decide) tt.out
        have cC' := fun w => wideCmp_any S t w tS6 tt6
        by_cases hst : S = t
        · rw [if_pos hst]
          rw [show cmpN S t = 0 by unfold cmpN; rw [if_neg (by omega), if_neg (by omega)]] at cC'
          exact addAdd_FF0_zero f m a b _ _ _ _ _ _ _ _ 0 0 0 0 w hT cO cn1 cn2 ci1 ci2 cz1 cz2 g1 g2 g3 g4 hs _ _ _ _ _ _ _ _ _ cb1 cb2 cL1 cL2 cL3 cJ hb cC' _ cZ
        · rw [if_neg hst]
          by_cases hlt : t < S
          · rw [if_pos hlt]
            rw [show cmpN S t = 1 by unfold cmpN; rw [if_neg (by omega), if_pos hlt]] at cC'
            have cS := fun w => wideSub_any S t w tt6
            unfold W at cS
            rw [limbs_sub S t (Nat.le_of_lt hlt)] at cS
            have k := cK (belowN4 (clsN f a)) (S - t) (sub_lt_pow2 S t 315 316 rfl tS.out)
            rw [hP _ _ (sub_ne S t hlt)] at k
            exact addAdd_FF0_more f m a b _ _ _ _ _ _ _ _ 0 0 0 0 w hT cO cn1 cn2 ci1 ci2 cz1 cz2 g1 g2 g3 g4 hs _ _ _ _ _ _ _ _ _ cb1 cb2 cL1 cL2 cL3 cJ hb cC' _ _ _ _ _ k cS
          · rw [if_neg hlt]
            rw [show cmpN S t = -1 by unfold cmpN; rw [if_pos (by omega)]] at cC'
            have cS := fun w => wideSub_any t S w tS6
            unfold W at cS
            rw [limbs_sub t S (by omega)] at cS
            have k := cK (belowN4 (clsN f b)) (t - S) (sub_lt_pow2 t S 315 316 rfl tt.out)
            rw [hP _ _ (sub_ne t S (by clear tS tt b2 b4; omega))] at k
            exact addAdd_FF0_less f m a b _ _ _ _ _ _ _ _ 0 0 0 0 w hT cO cn1 cn2 ci1 ci2 cz1 cz2 g1 g2 g3 g4 hs _ _ _ _ _ _ _ _ _ cb1 cb2 cL1 cL2 cL3 cJ hb cC' _ _ _ _ _ k cS))
  · exact addAdd_FZ f m a b _ _ _ _ _ _ _ _ 0 0 0 0 w hT cO cn1 cn2 ci1 ci2 cz1 cz2 
  · exact addAdd_FI f m a b _ _ _ _ _ _ _ _ 0 0 0 0 w hT cO cn1 cn2 ci1 ci2 cz1 cz2 
  · exact absurd (inf_zer _ i2) (by rw [z2]; decide)
  · exact addAdd_ZF f m a b _ _ _ _ _ _ _ _ 0 0 0 0 w hT cO cn1 cn2 ci1 ci2 cz1 cz2 
  · (
    by_cases he : clsN f a = clsN f b
    · rw [decide_eq_true he] at hc; rw [if_pos he]
      exact addAdd_ZZs f m a b _ _ _ _ _ _ _ _ 0 0 0 0 w hT cO cn1 cn2 ci1 ci2 cz1 cz2  hc
    · rw [decide_eq_false he] at hc; rw [if_neg he]
      exact addAdd_ZZd f m a b _ _ _ _ _ _ _ _ 0 0 0 0 w hT cO cn1 cn2 ci1 ci2 cz1 cz2  hc _ cZ)
  · exact addAdd_ZI f m a b _ _ _ _ _ _ _ _ 0 0 0 0 w hT cO cn1 cn2 ci1 ci2 cz1 cz2 
  · exact absurd (inf_zer _ i2) (by rw [z2]; decide)
  · exact addAdd_IF f m a b _ _ _ _ _ _ _ _ 0 0 0 0 w hT cO cn1 cn2 ci1 ci2 cz1 cz2 
  · exact addAdd_IZ f m a b _ _ _ _ _ _ _ _ 0 0 0 0 w hT cO cn1 cn2 ci1 ci2 cz1 cz2 
  · (
    by_cases he : clsN f a = clsN f b
    · rw [decide_eq_true he] at hc ⊢
      exact addAdd_IIs f m a b _ _ _ _ _ _ _ _ 0 0 0 0 w hT cO cn1 cn2 ci1 ci2 cz1 cz2  hc
    · rw [decide_eq_false he] at hc ⊢
      exact addAdd_IId f m a b _ _ _ _ _ _ _ _ 0 0 0 0 w hT cO cn1 cn2 ci1 ci2 cz1 cz2  hc _ cN)
  · exact absurd (inf_zer _ i2) (by rw [z2]; decide)
  · exact absurd (inf_zer _ i1) (by rw [z1]; decide)
  · exact absurd (inf_zer _ i1) (by rw [z1]; decide)
  · exact absurd (inf_zer _ i1) (by rw [z1]; decide)
  · exact absurd (inf_zer _ i1) (by rw [z1]; decide)
open Go.RowKit
theorem addAlive_w (w : World) (hT : Tab w) (cA : ∀ w, Tab w → Calls Tryd.prog 11 #[.int .u8 2, .int .u8 0, .agg #[.int .u64 0, .int .u64 15360], .agg #[.int .u64 0, .int .u64 15360]] w fun e w' => e = .returned (.tuple #[.agg #[.int .u64 0, .int .u64 16384], .int .u8 0, .int .i64 0]) ∧ Below w.heap.size w w') :
    Calls Tryd.prog 10 #[] w fun e w' => e = .returned (.bool true) ∧ Below w.heap.size w w' := by
  have H := Own.start w
  have HT := Lib.hid hT
  clear hT
  go_enter Tryd.func10, Tryd.ntmps10
  exact walk5
theorem addAlive_any (w : World) (hT : Tab w) : Calls Tryd.prog 10 #[] w fun e w' => e = .returned (.bool true) ∧ Below w.heap.size w w' := by
  refine addAlive_w w hT fun w hT => ?_
  have := addAdd_any 2 0 15360 15360 w (by decide) (by decide) (by decide) (by decide) hT
  rw [show addN 2 0 15360 15360 = (16384, 0, 0) by decide +kernel] at this
  exact this
theorem addKindless_err (f a : Nat) (w : World) (hT : Tab w) (c : Nat) (cC : ∀ w, Tab w → Calls Tryd.prog 23 #[.int .u8 f, BV a] w fun e w' => e = .returned (.tuple #[.int .u8 (c : Nat), .int .i64 2]) ∧ Below w.heap.size w w') :
    Calls Tryd.prog 6 #[.int .u8 f, BV a] w fun e w' => e = .returned (.bool true) ∧ Below w.heap.size w w' := by
  have H := Own.start w
  have HT := Lib.hid hT
  clear hT
  go_enter Tryd.func6, Tryd.ntmps6
  exact walk5
theorem addKindless_zero (f a : Nat) (w : World) (hT : Tab w) (cC : ∀ w, Tab w → Calls Tryd.prog 23 #[.int .u8 f, BV a] w fun e w' => e = .returned (.tuple #[.int .u8 0, .int .i64 0]) ∧ Below w.heap.size w w') :
    Calls Tryd.prog 6 #[.int .u8 f, BV a] w fun e w' => e = .returned (.bool true) ∧ Below w.heap.size w w' := by
  have H := Own.start w
  have HT := Lib.hid hT
  clear hT
  go_enter Tryd.func6, Tryd.ntmps6
  exact walk5
theorem addKindless_big (f a : Nat) (w : World) (hT : Tab w) (c : Nat) (h0 : ((c : Int) == 0) = false) (hc : decide (7 ≤ (c : Int)) = true) (cC : ∀ w, Tab w → Calls Tryd.prog 23 #[.int .u8 f, BV a] w fun e w' => e = .returned (.tuple #[.int .u8 (c : Nat), .int .i64 0]) ∧ Below w.heap.size w w') :
    Calls Tryd.prog 6 #[.int .u8 f, BV a] w fun e w' => e = .returned (.bool true) ∧ Below w.heap.size w w' := by
  have H := Own.start w
  have HT := Lib.hid hT
  clear hT
  go_enter Tryd.func6, Tryd.ntmps6
  exact walk5
theorem addKindless_fin (f a : Nat) (w : World) (hT : Tab w) (c : Nat) (h0 : ((c : Int) == 0) = false) (hc : decide (7 ≤ (c : Int)) = false) (cC : ∀ w, Tab w → Calls Tryd.prog 23 #[.int .u8 f, BV a] w fun e w' => e = .returned (.tuple #[.int .u8 (c : Nat), .int .i64 0]) ∧ Below w.heap.size w w') :
    Calls Tryd.prog 6 #[.int .u8 f, BV a] w fun e w' => e = .returned (.bool false) ∧ Below w.heap.size w w' := by
  have H := Own.start w
  have HT := Lib.hid hT
  clear hT
  go_enter Tryd.func6, Tryd.ntmps6
  exact walk5
def kindlessB (f a : Nat) : Bool := !(fitsB f a) || decide (clsN f a = 0) || decide (7 ≤ clsN f a)
theorem addKindless_any (f a : Nat) (w : World) (hf : f < 256) (ha : a < 2 ^ (64 * 2)) (hT : Tab w) : Calls Tryd.prog 6 #[.int .u8 f, BV a] w fun e w' => e = .returned (.bool (kindlessB f a)) ∧ Below w.heap.size w w' := by
  have cC := fun w hT => kindClass_any f a w hf ha hT
  unfold kindlessB
  cases h : fitsB f a
  · rw [h] at cC
    exact addKindless_err f a w hT 0 cC
  rw [h] at cC
  by_cases h0 : clsN f a = 0
  · rw [decide_eq_true h0]
    simp only [cond_true] at cC
    rw [h0] at cC
    exact addKindless_zero f a w hT cC
  rw [decide_eq_false h0]
  have hb : (((clsN f a : Nat) : Int) == 0) = false := (cast_beq (clsN f a) 0).trans (decide_eq_false h0)
  by_cases h7 : 7 ≤ clsN f a
  · rw [decide_eq_true h7]
    exact addKindless_big f a w hT (clsN f a) hb (by simp; omega) cC
  · rw [decide_eq_false h7]
    exact addKindless_fin f a w hT (clsN f a) hb (by simp; omega) cC
theorem kindless_not (f a : Nat) (h : kindlessB f a = false) : fitsB f a = true ∧ (Fin0 f a ∨ clsN f a = 3 ∨ clsN f a = 4) := by
  unfold kindlessB at h
  simp only [Bool.or_eq_false_iff, Bool.not_eq_false', decide_eq_false_iff_not] at h
  obtain ⟨⟨h1, h2⟩, h3⟩ := h
  refine ⟨h1, ?_⟩
  rcases cls_sort f a with c | c | c | c
  · omega
  · omega
  · exact Or.inr c
  · exact Or.inl c
open Go.RowKit
theorem bit_t (a i : Nat) (h : a.testBit i = true) : a % 2 ^ (i + 1) = a % 2 ^ i + 2 ^ i := by
  rw [mod_split]
  rw [Nat.testBit_eq_decide_div_mod_eq, decide_eq_true_iff] at h
  rw [h, Nat.mul_one]
theorem bit_f (a i : Nat) (h : a.testBit i = false) : a % 2 ^ (i + 1) = a % 2 ^ i := by
  rw [mod_split]
  rw [Nat.testBit_eq_decide_div_mod_eq, decide_eq_false_iff_not] at h
  have : a / 2 ^ i % 2 < 2 := Nat.mod_lt _ (by decide)
  rw [show a / 2 ^ i % 2 = 0 by omega, Nat.mul_zero, Nat.add_zero]
theorem pow_parts (i n : Nat) (h : n ≤ i) : 2 ^ i = 2 ^ (i - n) * 2 ^ n := by rw [← Nat.pow_add]; congr 1; omega
theorem right_t (a n i : Nat) (h : a.testBit i = true) (hn : n ≤ i) : a % 2 ^ (i + 1) / 2 ^ n = a % 2 ^ i / 2 ^ n + 2 ^ (i - n) ∧ a % 2 ^ i / 2 ^ n < 2 ^ (i - n) := by
  constructor
  · rw [bit_t a i h, pow_parts i n hn, Nat.add_mul_div_right _ _ (two_pos n)]
  · rw [Nat.div_lt_iff_lt_mul (two_pos n), ← pow_parts i n hn]; exact Nat.mod_lt _ (two_pos i)
theorem right_lo (a n i : Nat) (hn : i ≤ n) : a % 2 ^ i / 2 ^ n = 0 :=
  Nat.div_eq_of_lt (Nat.lt_of_lt_of_le (Nat.mod_lt _ (two_pos i)) (Nat.pow_le_pow_right (by decide) hn))
/-- What a shift to the right has lost so far. -/
def lostRi (a n i : Nat) : Bool := decide (a % 2 ^ min i n ≠ 0)
theorem lostRi_zero (a n : Nat) : lostRi a n 0 = false := by unfold lostRi; rw [Nat.zero_min, Nat.pow_zero, Nat.mod_one]; rfl
theorem lostRi_ge (a n i : Nat) (hn : n ≤ i) : lostRi a n (i + 1) = lostRi a n i := by unfold lostRi; rw [show min (i + 1) n = min i n by omega]
theorem lostRi_f (a n i : Nat) (h : a.testBit i = false) : lostRi a n (i + 1) = lostRi a n i := by
  rcases Nat.lt_or_ge i n with hi | hi
  · unfold lostRi; rw [show min (i + 1) n = i + 1 by omega, show min i n = i by omega, bit_f a i h]
  · exact lostRi_ge a n i hi
theorem lostRi_t (a n i : Nat) (h : a.testBit i = true) (hi : i < n) : lostRi a n (i + 1) = true := by
  unfold lostRi; rw [show min (i + 1) n = i + 1 by omega, bit_t a i h, decide_eq_true_iff]
  have := two_pos i; omega
theorem lostRi_all (a n i : Nat) (hn : n ≤ i) : lostRi a n i = decide (a % 2 ^ n ≠ 0) := by unfold lostRi; rw [Nat.min_eq_right hn]
theorem mod_384 (a k : Nat) (hk : k = 384) (ha : a < top6) : a % 2 ^ k = a := Nat.mod_eq_of_lt (by rw [hk, show 384 = 64 * 6 from rfl, ← top6.eq_1]; exact ha)
/-- Ones from below. -/
theorem mask_step (i : Nat) : 2 ^ (i + 1) - 1 = (2 ^ i - 1) + 2 ^ i ∧ 2 ^ i - 1 < 2 ^ i := by
  have := two_pos i
  rw [Nat.pow_succ]; omega
/-- A bit put in at a place. -/
theorem low_any (a n : Nat) (ha : a < top6) (hn : n ≤ 384) : decide (a % 2 ^ n ≠ 0) = lostR a n := by
  unfold lostR
  by_cases h : a = 0
  · subst h; simp
  · obtain ⟨m, h1, h2⟩ := lowN_spec a ha h
    generalize lowN a = l at *
    rw [decide_eq_false h, Bool.not_false, Bool.true_and, decide_eq_decide]
    rw [h1]
    constructor
    · intro h3
      rcases Nat.lt_or_ge l n with h4 | h4
      · exact h4
      · exfalso; apply h3
        rw [pow_parts l n h4, Nat.mul_comm (2 ^ (l - n)), Nat.mul_assoc, Nat.mul_mod_right]
    · intro h3 h4
      obtain ⟨d, rfl⟩ : ∃ d, n = l + (d + 1) := ⟨n - l - 1, by omega⟩
      rw [Nat.pow_add, Nat.mul_mod_mul_left] at h4
      have h5 := two_pos l
      have h6 : (2 * m + 1) % 2 ^ (d + 1) = 0 := by rcases Nat.mul_eq_zero.1 h4 with h | h; omega; exact h
      rw [Nat.pow_succ, Nat.mul_comm (2 ^ d), Nat.mod_mul] at h6
      have h7 : (2 * m + 1) % 2 = 1 := by omega
      omega
theorem set_bit_at (t p i s : Nat) (ht : t < 2 ^ p) (hp : p = 64 * i + s) (hs : s < 64) (hi : i < 6) :
    setRow (limbs t) i (#[.int .u64 (Go.bits .or .u64 (limb t i) (IntKind.u64.wrap (2 ^ s)))] : Array Value).toList = limbs (t + 2 ^ p) := by
  subst hp
  exact limbs_top t i s ht hs hi
open Go.RowKit
theorem set_limbsR (a b : Nat) : setRow (limbs a) 0 (limbs b).toList = limbs b := set_all _ _ rfl
theorem run_index_r (a k : Nat) (hk : k < 6) (w : World) : (Instr.index 46 (.agg (limbs a)) (.int .i64 (k : Int))).run Tryd.prog w = .ok (.int .u64 (limb a k)) w := run_index_wide w a k hk
theorem set_w0 (b : Nat) : setRow (limbs 0) 0 (#[.int .u64 (limb b 0)] : Array Value).toList = limbs (limbN b 0) := by
  have h := limbs_put 0 (limbN b 0) 0 (by decide) (by decide) (limbN_lt b 0)
  rw [Nat.zero_add, Nat.mul_zero, Nat.pow_zero, Nat.mul_one] at h
  exact h
theorem set_w1 (b : Nat) : setRow (limbs (limbN b 0)) 1 (#[.int .u64 (limb b 1)] : Array Value).toList = limbs (b % 2 ^ (64 * 2)) := by
  have h := limbs_put (limbN b 0) (limbN b 1) 1 (by decide) (by rw [Nat.mul_one, ← B64]; exact limbN_lt b 0) (limbN_lt b 1)
  rw [mod_low b 1, mod_low b 0, Nat.mul_zero, Nat.pow_zero, Nat.mod_one, Nat.zero_add, Nat.mul_one]
  exact h
theorem ofBits_ret (b : Nat) (hb : b < 2 ^ (64 * 2)) : W (b % 2 ^ (64 * 2)) = W b := by rw [Nat.mod_eq_of_lt hb]
theorem shr_test (x i : Nat) (hx : x < 18446744073709551616) (hi : i < 64) : (Go.bits .and .u64 (((x / 2 ^ i : Nat) : Int)) 1 == 1) = x.testBit i := by
  have hd : x / 2 ^ i < 18446744073709551616 := Nat.lt_of_le_of_lt (Nat.div_le_self _ _) hx
  have := u64_and_nat (x / 2 ^ i) 1 hd (by decide)
  rw [show ((1 : Nat) : Int) = 1 from rfl] at this
  rw [this, Nat.and_one_is_mod, Nat.testBit_eq_decide_div_mod_eq, Bool.eq_iff_iff, beq_iff_eq, decide_eq_true_iff]
  omega
theorem r1Bit_any (x i : Nat) (w : World) (hx : x < 18446744073709551616) (hi : i < 64) :
    Calls Tryd.prog 88 #[.int .u64 x, .int .i64 i] w fun e w' => e = .returned (.bool (x.testBit i)) ∧ Below w.heap.size w w' := by
  have H := Own.start w
  have e1 : (0 : Int) ≤ (i : Int) := by omega
  have e2 : (i : Int) < 64 := by omega
  have e3 : IntKind.u64.wrap (i : Int) = (i : Int) := by rw [IntKind.wrap_u64]; omega
  have e4 : min (i : Int).toNat 64 = i := by omega
  have HR := Lib.hid (shr_test x i hx hi)
  clear hx hi
  go_enter Tryd.func88, Tryd.ntmps88
  exact walk5
theorem r2Count_lo (x : Int) (w : World) (hx : x < 0) :
    Calls Tryd.prog 98 #[.int .i64 x] w fun e w' => e = .returned (.int .i64 0) ∧ Below w.heap.size w w' := by
  have H := Own.start w
  go_enter Tryd.func98, Tryd.ntmps98
  exact walk5
theorem r2Count_hi (x : Int) (w : World) (hx : 384 < x) :
    Calls Tryd.prog 98 #[.int .i64 x] w fun e w' => e = .returned (.int .i64 384) ∧ Below w.heap.size w w' := by
  have H := Own.start w
  go_enter Tryd.func98, Tryd.ntmps98
  exact walk5
theorem r2Count_in (x : Int) (w : World) (hx : 0 ≤ x) (hy : x ≤ 384) :
    Calls Tryd.prog 98 #[.int .i64 x] w fun e w' => e = .returned (.int .i64 x) ∧ Below w.heap.size w w' := by
  have H := Own.start w
  go_enter Tryd.func98, Tryd.ntmps98
  exact walk5
theorem r2Count_any (x : Int) (w : World) : Calls Tryd.prog 98 #[.int .i64 x] w fun e w' => e = .returned (.int .i64 (clip x : Nat)) ∧ Below w.heap.size w w' := by
  rcases Int.lt_or_le x 0 with h | h
  · rw [show ((clip x : Nat) : Int) = 0 by unfold clip; omega]; exact r2Count_lo x w h
  · rcases Int.lt_or_le 384 x with h2 | h2
    · rw [show ((clip x : Nat) : Int) = 384 by unfold clip; omega]; exact r2Count_hi x w h2
    · rw [show ((clip x : Nat) : Int) = x by unfold clip; omega]; exact r2Count_in x w h h2
theorem r2OfBits_any (b : Nat) (w : World) (hb : b < 2 ^ (64 * 2)) :
    Calls Tryd.prog 82 #[BV b] w fun e w' => e = .returned (W b) ∧ Below w.heap.size w w' := by
  have H := Own.start w
  have HR := Lib.hid (ofBits_ret b hb)
  clear hb
  go_enter Tryd.func82, Tryd.ntmps82
  go_wp2_with (first
    | ((with_reducible show wpList _ _ _ (⟨_, .store 24 _ _, _, _, _, _⟩ :: _) _ _); refine H.xt ?_ (hv := set_w0 _); (intro w H; simp only [Act.put]))
    | ((with_reducible show wpList _ _ _ (⟨_, .store 24 _ _, _, _, _, _⟩ :: _) _ _); refine H.xt ?_ (hv := set_w1 _); (intro w H; simp only [Act.put]))
    | ((with_reducible show wpList _ _ _ (⟨_, .box _ _, _, _, _, _⟩ :: _) _ _); refine H.xb ?_; (intro g w H; simp only [Act.put, q1_, q2_, q3_]))
    | ((with_reducible show wpList _ _ _ (⟨_, .alloc _, _, _, _, _⟩ :: _) _ _); refine H.xa ?_; (intro g w H; simp only [Act.put, q1_, q2_, q3_]))
    | ((with_reducible show wpList _ _ _ (⟨_, .load _ _, _, _, _, _⟩ :: _) _ _); (first | refine H.xl ?_ | refine H.xm ?_); simp only [Act.put, q1_, q2_, q3_])
    | ((with_reducible show wpList _ _ _ (⟨_, .store _ _ _, _, _, _, _⟩ :: _) _ _); (first | refine H.xs ?_ | refine H.xt ?_); (intro w H; simp only [Act.put]))
    )
  all_goals
    refine bodyPost_ret (results_c rfl rfl (H.res rW v3_ v4_ (by rfl))) rfl ⟨?_, H.below⟩
    exact (congrArg Ending.returned HR.out)
theorem r2Bit_any (a i : Nat) (w : World) (hi : i < 384) :
    Calls Tryd.prog 64 #[W a, .int .i64 i] w fun e w' => e = .returned (.bool (a.testBit i)) ∧ Below w.heap.size w w' := by
  have H := Own.start w
  obtain ⟨q, hq⟩ : ∃ q : Nat, i / 64 = q := ⟨_, rfl⟩
  obtain ⟨r, hr⟩ : ∃ r : Nat, i % 64 = r := ⟨_, rfl⟩
  have h6 : q < 6 := by omega
  have h64 : r < 64 := by omega
  have e1 : (0 : Int) ≤ (i : Int) := by omega
  have e2 : (i : Int) < 384 := by omega
  have t1 : IntKind.i64.wrap ((i : Int).tdiv 64) = (q : Int) := by rw [Int.tdiv_eq_ediv_of_nonneg (by omega), show (i : Int) / 64 = (q : Int) by omega]; exact IntWalk.i64_in _ (by omega)
  have t2 : (i : Int).tmod 64 = (r : Int) := by rw [Int.tmod_eq_emod_of_nonneg (by omega)]; omega
  have t3 : (i : Int) / 64 = (q : Int) := by omega
  have t4 : (i : Int) % 64 = (r : Int) := by omega
  have cB := fun w => r1Bit_any (limbN a q) r w (limbN_lt a q) h64
  have hl : ((limbN a q : Nat) : Int) = limb a q := rfl
  rw [hl] at cB
  have HR := Lib.hid (show (limbN a q).testBit r = a.testBit i by rw [← hq, ← hr]; exact limb_bit a i)
  have ix := run_index_r a q h6
  have G : (limbs a)[q]? = some (.int .u64 (limb a q)) := limbs_get a q h6
  clear hq hr hi hl
  go_enter Tryd.func64, Tryd.ntmps64
  exact walk5
open Go.RowKit
theorem set_fill_and (a b k : Nat) : setRow (fillTo (limbs a) (fun i => .int .u64 (limb (a &&& b) i)) k) k (#[.int .u64 (Go.bits .and .u64 (limb a k) (limb b k))] : Array Value).toList = fillTo (limbs a) (fun i => .int .u64 (limb (a &&& b) i)) (k + 1) := by
  rw [limb_and]; rfl
set_option maxHeartbeats 3200000 in
theorem r2Mask_any (x : Int) (w0 : World) :
    Calls Tryd.prog 85 #[.int .i64 x] w0 fun e w' => e = .returned (W (2 ^ clip x - 1)) ∧ Below w0.heap.size w0 w' := by
  have H := Own.start w0
  have cC := fun w => r2Count_any x w
  obtain ⟨n, hn⟩ : ∃ n, clip x = n := ⟨_, rfl⟩
  have hn4 : n ≤ 384 := by unfold clip at hn; omega
  rw [hn] at cC ⊢
  clear hn
  go_enter Tryd.func85, Tryd.ntmps85
  go_wp2_with (first
    | ((with_reducible show wpList _ _ _ (⟨some 3, .alloc 46, _, _, _, _⟩ :: _) _ _); refine H.xa ?_; (intro gb w H; simp only [Act.put, q1_, q2_, q3_]))
    | ((with_reducible show wpList _ _ _ (⟨some 2, .alloc 46, _, _, _, _⟩ :: _) _ _); refine H.xa ?_; (intro gr w H; simp only [Act.put, q1_, q2_, q3_]))
    | ((with_reducible show wpList _ _ _ (⟨_, .box _ _, _, _, _, _⟩ :: _) _ _); refine H.xb ?_; (intro g w H; simp only [Act.put, q1_, q2_, q3_]))
    | ((with_reducible show wpList _ _ _ (⟨_, .alloc _, _, _, _, _⟩ :: _) _ _); refine H.xa ?_; (intro g w H; simp only [Act.put, q1_, q2_, q3_]))
    | ((with_reducible show wpList _ _ _ (⟨_, .load _ _, _, _, _, _⟩ :: _) _ _); (first | refine H.xl ?_ | refine H.xm ?_); simp only [Act.put, q1_, q2_, q3_])
    | ((with_reducible show wpList _ _ _ (⟨_, .store _ _ _, _, _, _, _⟩ :: _) _ _); (first | refine H.xs ?_ | refine H.xt ?_); (intro w H; simp only [Act.put]))
    | (go_at_call 98; ((with_reducible refine (cC _).mono ?_); rintro e w ⟨rfl, hb⟩; replace H := H.call hb; clear hb))
    )
  go_loopw [4] (fun i wr => ∃ (k : Nat), k ≤ n ∧ i = .int .i64 k ∧ Own w0 wr [(gb, 46, limbs (2 ^ k - 1)), (gr, 46, limbs 0)]) (fun i _ => n - (intOf i).toNat)
  case atStart => exact ⟨0, by omega, rfl, H⟩
  case round =>
    clear H
    obtain ⟨k, hk, rfl, H⟩ := hrel
    by_cases hlt : k < n
    · have hd : decide ((k : Int) < (n : Int)) = true := by simp; omega
      have h1 := Lib.hid (mask_step k).1
      have h2 := Lib.hid (mask_step k).2
      obtain ⟨qi, hqi⟩ : ∃ qi : Nat, (k : Int) / 64 = qi := ⟨k / 64, by omega⟩
      obtain ⟨sh, hsh⟩ : ∃ sh : Nat, (k : Int) % 64 = sh := ⟨k % 64, by omega⟩
      have HM := Lib.hid (show k = 64 * qi + sh by omega)
      have hs64 : sh < 64 := by omega
      have hq6 : qi < 6 := by omega
      have hq6i : (qi : Int) < 6 := by omega
      have t1 : IntKind.i64.wrap ((k : Int).tdiv 64) = (qi : Int) := by rw [Int.tdiv_eq_ediv_of_nonneg (by omega), hqi]; exact IntWalk.i64_in _ (by omega)
      have t2 : (k : Int).tmod 64 = (sh : Int) := by rw [Int.tmod_eq_emod_of_nonneg (by omega), hsh]
      have t3 : IntKind.u64.wrap (sh : Int) = (sh : Int) := by rw [IntKind.wrap_u64]; omega
      have t4 : min sh 64 = sh := by omega
      obtain ⟨V, hV⟩ : ∃ V, 2 ^ k - 1 = V := ⟨_, rfl⟩
      rw [hV] at H h1 h2
      have G : (limbs V)[qi]? = some (.int .u64 (limb V qi)) := limbs_get V qi hq6
      clear hV cC
      go_wp2_with (first
    | ((with_reducible show wpList _ _ _ (⟨some 3, .alloc 46, _, _, _, _⟩ :: _) _ _); refine H.xa ?_; (intro gb w H; simp only [Act.put, q1_, q2_, q3_]))
    | ((with_reducible show wpList _ _ _ (⟨some 2, .alloc 46, _, _, _, _⟩ :: _) _ _); refine H.xa ?_; (intro gr w H; simp only [Act.put, q1_, q2_, q3_]))
    | ((with_reducible show wpList _ _ _ (⟨_, .load 24 _, _, _, _, _⟩ :: _) _ _); refine H.xm ?_ (hv := by first | with_reducible exact G); simp only [Act.put, q1_, q2_, q3_])
    | ((with_reducible show wpList _ _ _ (⟨_, .store 24 _ _, _, _, _, _⟩ :: _) _ _); refine H.xt ?_ (hv := set_bit_at _ k _ _ h2.out HM.out hs64 hq6); (intro w H; simp only [Act.put]))
    | ((with_reducible show wpList _ _ _ (⟨_, .box _ _, _, _, _, _⟩ :: _) _ _); refine H.xb ?_; (intro g w H; simp only [Act.put, q1_, q2_, q3_]))
    | ((with_reducible show wpList _ _ _ (⟨_, .alloc _, _, _, _, _⟩ :: _) _ _); refine H.xa ?_; (intro g w H; simp only [Act.put, q1_, q2_, q3_]))
    | ((with_reducible show wpList _ _ _ (⟨_, .load _ _, _, _, _, _⟩ :: _) _ _); (first | refine H.xl ?_ | refine H.xm ?_); simp only [Act.put, q1_, q2_, q3_])
    | ((with_reducible show wpList _ _ _ (⟨_, .store _ _ _, _, _, _, _⟩ :: _) _ _); (first | refine H.xs ?_ | refine H.xt ?_); (intro w H; simp only [Act.put]))
    | (go_at_call 98; ((with_reducible refine (cC _).mono ?_); rintro e w ⟨rfl, hb⟩; replace H := H.call hb; clear hb))
    )
      all_goals
        go_roundw
        case rel => exact ⟨k + 1, by omega, by go_num, by rw [h1.out]; exact H⟩
        case measure => simp [intOf] <;> omega
    · obtain rfl : k = n := by omega
      have hd : decide ((k : Int) < (k : Int)) = false := by simp
      clear hlt hk cC
      go_wp2_with (first
    | ((with_reducible show wpList _ _ _ (⟨some 3, .alloc 46, _, _, _, _⟩ :: _) _ _); refine H.xa ?_; (intro gb w H; simp only [Act.put, q1_, q2_, q3_]))
    | ((with_reducible show wpList _ _ _ (⟨some 2, .alloc 46, _, _, _, _⟩ :: _) _ _); refine H.xa ?_; (intro gr w H; simp only [Act.put, q1_, q2_, q3_]))
    | ((with_reducible show wpList _ _ _ (⟨_, .box _ _, _, _, _, _⟩ :: _) _ _); refine H.xb ?_; (intro g w H; simp only [Act.put, q1_, q2_, q3_]))
    | ((with_reducible show wpList _ _ _ (⟨_, .alloc _, _, _, _, _⟩ :: _) _ _); refine H.xa ?_; (intro g w H; simp only [Act.put, q1_, q2_, q3_]))
    | ((with_reducible show wpList _ _ _ (⟨_, .load _ _, _, _, _, _⟩ :: _) _ _); (first | refine H.xl ?_ | refine H.xm ?_); simp only [Act.put, q1_, q2_, q3_])
    | ((with_reducible show wpList _ _ _ (⟨_, .store _ _ _, _, _, _, _⟩ :: _) _ _); (first | refine H.xs ?_ | refine H.xt ?_); (intro w H; simp only [Act.put]))
    | (go_at_call 98; ((with_reducible refine (cC _).mono ?_); rintro e w ⟨rfl, hb⟩; replace H := H.call hb; clear hb))
    )
      refine bodyPost_ret (results_c rfl rfl (H.res rW v3_ v4_ (by rfl))) rfl ⟨?_, H.below⟩
      rfl
set_option maxHeartbeats 3200000 in
theorem r2And_any (a b : Nat) (w0 : World) :
    Calls Tryd.prog 84 #[W a, W b] w0 fun e w' => e = .returned (W (a &&& b)) ∧ Below w0.heap.size w0 w' := by
  have H := Own.start w0
  go_enter Tryd.func84, Tryd.ntmps84
  go_wp2_with (first
    | ((with_reducible show wpList _ _ _ (⟨some 2, .box _ _, _, _, _, _⟩ :: _) _ _); refine H.xb ?_; (intro ga w H; simp only [Act.put, q1_, q2_, q3_]))
    | ((with_reducible show wpList _ _ _ (⟨some 3, .box _ _, _, _, _, _⟩ :: _) _ _); refine H.xb ?_; (intro gb w H; simp only [Act.put, q1_, q2_, q3_]))
    | ((with_reducible show wpList _ _ _ (⟨some 4, .alloc 46, _, _, _, _⟩ :: _) _ _); refine H.xa ?_; (intro gr w H; simp only [Act.put, q1_, q2_, q3_]))
    | ((with_reducible show wpList _ _ _ (⟨_, .box _ _, _, _, _, _⟩ :: _) _ _); refine H.xb ?_; (intro g w H; simp only [Act.put, q1_, q2_, q3_]))
    | ((with_reducible show wpList _ _ _ (⟨_, .alloc _, _, _, _, _⟩ :: _) _ _); refine H.xa ?_; (intro g w H; simp only [Act.put, q1_, q2_, q3_]))
    | ((with_reducible show wpList _ _ _ (⟨_, .load _ _, _, _, _, _⟩ :: _) _ _); (first | refine H.xl ?_ | refine H.xm ?_); simp only [Act.put, q1_, q2_, q3_])
    | ((with_reducible show wpList _ _ _ (⟨_, .store _ _ _, _, _, _, _⟩ :: _) _ _); (first | refine H.xs ?_ | refine H.xt ?_); (intro w H; simp only [Act.put]))
    )
  go_loopw [5] (fun i wr => ∃ (k : Nat), k ≤ 6 ∧ i = .int .i64 k ∧ Own w0 wr [(gr, 46, limbs 0), (gb, 46, limbs b), (ga, 46, fillTo (limbs a) (fun i => .int .u64 (limb (a &&& b) i)) k)]) (fun i _ => 6 - (intOf i).toNat)
  case atStart => exact ⟨0, by omega, rfl, H⟩
  case round =>
    clear H
    obtain ⟨k, hk, rfl, H⟩ := hrel
    by_cases hlt : k < 6
    · have hd : decide ((k : Int) < 6) = true := by simp; omega
      have G1 : (fillTo (limbs a) (fun i => .int .u64 (limb (a &&& b) i)) k)[k]? = some (.int .u64 (limb a k)) := (fillTo_hi _ _ _ _ (Nat.le_refl _)).trans (limbs_get a k hlt)
      have G2 : (limbs b)[k]? = some (.int .u64 (limb b k)) := limbs_get b k hlt
      have hlti : (k : Int) < 6 := by omega
      go_wp2_with (first
    | ((with_reducible show wpList _ _ _ (⟨some 2, .box _ _, _, _, _, _⟩ :: _) _ _); refine H.xb ?_; (intro ga w H; simp only [Act.put, q1_, q2_, q3_]))
    | ((with_reducible show wpList _ _ _ (⟨some 3, .box _ _, _, _, _, _⟩ :: _) _ _); refine H.xb ?_; (intro gb w H; simp only [Act.put, q1_, q2_, q3_]))
    | ((with_reducible show wpList _ _ _ (⟨some 4, .alloc 46, _, _, _, _⟩ :: _) _ _); refine H.xa ?_; (intro gr w H; simp only [Act.put, q1_, q2_, q3_]))
    | ((with_reducible show wpList _ _ _ (⟨_, .load 24 _, _, _, _, _⟩ :: _) _ _); refine H.xm ?_ (hv := by first | with_reducible exact G1 | with_reducible exact G2); simp only [Act.put, q1_, q2_, q3_])
    | ((with_reducible show wpList _ _ _ (⟨_, .store 24 _ _, _, _, _, _⟩ :: _) _ _); refine H.xt ?_ (hv := set_fill_and _ _ _); (intro w H; simp only [Act.put]))
    | ((with_reducible show wpList _ _ _ (⟨_, .box _ _, _, _, _, _⟩ :: _) _ _); refine H.xb ?_; (intro g w H; simp only [Act.put, q1_, q2_, q3_]))
    | ((with_reducible show wpList _ _ _ (⟨_, .alloc _, _, _, _, _⟩ :: _) _ _); refine H.xa ?_; (intro g w H; simp only [Act.put, q1_, q2_, q3_]))
    | ((with_reducible show wpList _ _ _ (⟨_, .load _ _, _, _, _, _⟩ :: _) _ _); (first | refine H.xl ?_ | refine H.xm ?_); simp only [Act.put, q1_, q2_, q3_])
    | ((with_reducible show wpList _ _ _ (⟨_, .store _ _ _, _, _, _, _⟩ :: _) _ _); (first | refine H.xs ?_ | refine H.xt ?_); (intro w H; simp only [Act.put]))
    | ((with_reducible show Code.wp _ (.region 4 _ true) _ _ _); refine H.heldSub rfl (List.Sublist.cons_cons _ (List.Sublist.cons_cons _ (List.Sublist.cons _ (List.Sublist.refl _)))) ?_; intro H; refine H.zr 0 ?_; (try simp only [Act.put, q1_, q2_, q3_]); (try simp only [q4_, q5_, q6_]); refine H.zr 1 ?_; (try simp only [Act.put, q1_, q2_, q3_]); (try simp only [q4_, q5_, q6_]); refine H.zr 2 ?_; (try simp only [Act.put, q1_, q2_, q3_]); (try simp only [q4_, q5_, q6_]); refine H.zr 4 ?_; (try simp only [Act.put, q1_, q2_, q3_]); (try simp only [q4_, q5_, q6_]); refine H.zr 5 ?_; (try simp only [Act.put, q1_, q2_, q3_]); (try simp only [q4_, q5_, q6_]); (first | refine H.zm 6 ?_ (hv := by first | with_reducible exact G1 | with_reducible exact G2) | refine H.zl 6 ?_ | refine H.zm 6 ?_); (try simp only [Act.put, q1_, q2_, q3_]); (try simp only [q4_, q5_, q6_]); refine held1 3 ?_; (first | refine H.ym ?_ (hv := by first | with_reducible exact G1 | with_reducible exact G2) | refine H.yl ?_ | refine H.ym ?_); refine H.nx ?_; (try simp only [Act.put, q1_, q2_, q3_]); (try simp only [q4_, q5_, q6_]); refine H.zr 7 ?_; (try simp only [Act.put, q1_, q2_, q3_]); (try simp only [q4_, q5_, q6_]); refine H.zr 8 ?_; (try simp only [Act.put, q1_, q2_, q3_]); (try simp only [q4_, q5_, q6_]); refine held1 9 ?_; (first | refine H.yt ?_ (hv := set_fill_and _ _ _) | refine H.ys ?_ | refine H.yt ?_); intro w H; refine H.nx ?_; (try simp only [Act.put]); refine wpAnyH_done (by kernel_rfl) ?_ _)
    )
      all_goals
        go_roundw
        case rel => exact ⟨k + 1, by omega, by go_num, H⟩
        case measure => simp [intOf] <;> omega
    · obtain rfl : k = 6 := by omega
      rw [fillTo_all (limbs a) _ (a &&& b) (limbs_size a) (fun _ _ => rfl)] at H
      clear hlt hk
      go_wp2_with (first
    | ((with_reducible show wpList _ _ _ (⟨some 2, .box _ _, _, _, _, _⟩ :: _) _ _); refine H.xb ?_; (intro ga w H; simp only [Act.put, q1_, q2_, q3_]))
    | ((with_reducible show wpList _ _ _ (⟨some 3, .box _ _, _, _, _, _⟩ :: _) _ _); refine H.xb ?_; (intro gb w H; simp only [Act.put, q1_, q2_, q3_]))
    | ((with_reducible show wpList _ _ _ (⟨some 4, .alloc 46, _, _, _, _⟩ :: _) _ _); refine H.xa ?_; (intro gr w H; simp only [Act.put, q1_, q2_, q3_]))
    | ((with_reducible show wpList _ _ _ (⟨_, .box _ _, _, _, _, _⟩ :: _) _ _); refine H.xb ?_; (intro g w H; simp only [Act.put, q1_, q2_, q3_]))
    | ((with_reducible show wpList _ _ _ (⟨_, .alloc _, _, _, _, _⟩ :: _) _ _); refine H.xa ?_; (intro g w H; simp only [Act.put, q1_, q2_, q3_]))
    | ((with_reducible show wpList _ _ _ (⟨_, .load _ _, _, _, _, _⟩ :: _) _ _); (first | refine H.xl ?_ | refine H.xm ?_); simp only [Act.put, q1_, q2_, q3_])
    | ((with_reducible show wpList _ _ _ (⟨_, .store _ _ _, _, _, _, _⟩ :: _) _ _); (first | refine H.xs ?_ | refine H.xt ?_); (intro w H; simp only [Act.put]))
    )
      refine bodyPost_ret (results_c rfl rfl (H.res rW v3_ v4_ (by rfl))) rfl ⟨?_, H.below⟩
      rfl
set_option maxHeartbeats 3200000 in
theorem r2Right_any (a : Nat) (x : Int) (w0 : World) (ha : a < top6) :
    Calls Tryd.prog 86 #[W a, .int .i64 x] w0 fun e w' => e = .returned (.tuple #[W (a / 2 ^ clip x), .bool (lostR a (clip x))]) ∧ Below w0.heap.size w0 w' := by
  have H := Own.start w0
  have cC := fun w => r2Count_any x w
  obtain ⟨n, hn⟩ : ∃ n, clip x = n := ⟨_, rfl⟩
  have hn4 : n ≤ 384 := by unfold clip at hn; omega
  rw [hn] at cC ⊢
  clear hn
  have HA := Lib.hid ha
  clear ha
  go_enter Tryd.func86, Tryd.ntmps86
  go_wp2_with (first
    | ((with_reducible show wpList _ _ _ (⟨some 2, .box _ _, _, _, _, _⟩ :: _) _ _); refine H.xb ?_; (intro ga w H; simp only [Act.put, q1_, q2_, q3_]))
    | ((with_reducible show wpList _ _ _ (⟨some 4, .alloc 46, _, _, _, _⟩ :: _) _ _); refine H.xa ?_; (intro gr w H; simp only [Act.put, q1_, q2_, q3_]))
    | ((with_reducible show wpList _ _ _ (⟨some 6, .alloc 46, _, _, _, _⟩ :: _) _ _); refine H.xa ?_; (intro gb w H; simp only [Act.put, q1_, q2_, q3_]))
    | ((with_reducible show wpList _ _ _ (⟨_, .box _ _, _, _, _, _⟩ :: _) _ _); refine H.xb ?_; (intro g w H; simp only [Act.put, q1_, q2_, q3_]))
    | ((with_reducible show wpList _ _ _ (⟨_, .alloc _, _, _, _, _⟩ :: _) _ _); refine H.xa ?_; (intro g w H; simp only [Act.put, q1_, q2_, q3_]))
    | ((with_reducible show wpList _ _ _ (⟨_, .load _ _, _, _, _, _⟩ :: _) _ _); (first | refine H.xl ?_ | refine H.xm ?_); simp only [Act.put, q1_, q2_, q3_])
    | ((with_reducible show wpList _ _ _ (⟨_, .store _ _ _, _, _, _, _⟩ :: _) _ _); (first | refine H.xs ?_ | refine H.xt ?_); (intro w H; simp only [Act.put]))
    | (go_at_call 98; ((with_reducible refine (cC _).mono ?_); rintro e w ⟨rfl, hb⟩; replace H := H.call hb; clear hb))
    | (go_at_call 64; ((with_reducible refine (cB _).mono ?_); rintro e w ⟨rfl, hb⟩; replace H := H.call hb; clear hb))
    )
  go_loopw [7, 8] (fun l i wr => ∃ (k : Nat), k ≤ 384 ∧ i = .int .i64 k ∧ l = .bool (lostRi a n k) ∧ Own w0 wr [(gb, 46, limbs (a % 2 ^ k / 2 ^ n)), (gr, 46, limbs 0), (ga, 46, limbs a)]) (fun _ i _ => 384 - (intOf i).toNat)
  case atStart => exact ⟨0, by omega, rfl, by rw [lostRi_zero], by rw [Nat.pow_zero, Nat.mod_one, Nat.zero_div]; exact H⟩
  case round =>
    clear H
    obtain ⟨k, hk, rfl, rfl, H⟩ := hrel
    by_cases hlt : k < 384
    · have hd : decide ((k : Int) < 384) = true := by simp; omega
      have hlti : (k : Int) < 384 := by omega
      have cB := fun w => r2Bit_any a k w hlt
      cases hb : a.testBit k
      · rw [hb] at cB
        have h1 := Lib.hid (lostRi_f a n k hb)
        have h2 := Lib.hid (bit_f a k hb)
        clear hb cC
        go_wp2_with (first
    | ((with_reducible show wpList _ _ _ (⟨some 2, .box _ _, _, _, _, _⟩ :: _) _ _); refine H.xb ?_; (intro ga w H; simp only [Act.put, q1_, q2_, q3_]))
    | ((with_reducible show wpList _ _ _ (⟨some 4, .alloc 46, _, _, _, _⟩ :: _) _ _); refine H.xa ?_; (intro gr w H; simp only [Act.put, q1_, q2_, q3_]))
    | ((with_reducible show wpList _ _ _ (⟨some 6, .alloc 46, _, _, _, _⟩ :: _) _ _); refine H.xa ?_; (intro gb w H; simp only [Act.put, q1_, q2_, q3_]))
    | ((with_reducible show wpList _ _ _ (⟨_, .box _ _, _, _, _, _⟩ :: _) _ _); refine H.xb ?_; (intro g w H; simp only [Act.put, q1_, q2_, q3_]))
    | ((with_reducible show wpList _ _ _ (⟨_, .alloc _, _, _, _, _⟩ :: _) _ _); refine H.xa ?_; (intro g w H; simp only [Act.put, q1_, q2_, q3_]))
    | ((with_reducible show wpList _ _ _ (⟨_, .load _ _, _, _, _, _⟩ :: _) _ _); (first | refine H.xl ?_ | refine H.xm ?_); simp only [Act.put, q1_, q2_, q3_])
    | ((with_reducible show wpList _ _ _ (⟨_, .store _ _ _, _, _, _, _⟩ :: _) _ _); (first | refine H.xs ?_ | refine H.xt ?_); (intro w H; simp only [Act.put]))
    | (go_at_call 98; ((with_reducible refine (cC _).mono ?_); rintro e w ⟨rfl, hb⟩; replace H := H.call hb; clear hb))
    | (go_at_call 64; ((with_reducible refine (cB _).mono ?_); rintro e w ⟨rfl, hb⟩; replace H := H.call hb; clear hb))
    )
        all_goals
          go_roundw
          case rel => exact ⟨k + 1, by omega, by go_num, by rw [h1.out], by rw [h2.out]; exact H⟩
          case measure => simp [intOf] <;> omega
      · rw [hb] at cB
        by_cases hnk : n ≤ k
        · have h1 := Lib.hid (lostRi_ge a n k hnk)
          have h2 := Lib.hid (right_t a n k hb hnk).1
          have h3 := Lib.hid (right_t a n k hb hnk).2
          obtain ⟨j, hj⟩ : ∃ j, k - n = j := ⟨_, rfl⟩
          have e0 : (k : Int) - (n : Int) = (j : Int) := by omega
          have e1 : IntKind.i64.wrap ((k : Int) - (n : Int)) = (j : Int) := by rw [e0]; exact IntWalk.i64_in _ (by omega)
          have hge : (n : Int) ≤ (k : Int) := by omega
          have hdg : decide ((n : Int) ≤ (k : Int)) = true := by simp; omega
          obtain ⟨qi, hqi⟩ : ∃ qi : Nat, (j : Int) / 64 = qi := ⟨j / 64, by omega⟩
          obtain ⟨sh, hsh⟩ : ∃ sh : Nat, (j : Int) % 64 = sh := ⟨j % 64, by omega⟩
          have HM := Lib.hid (show j = 64 * qi + sh by omega)
          have hs64 : sh < 64 := by omega
          have hq6 : qi < 6 := by omega
          have hq6i : (qi : Int) < 6 := by omega
          have t1 : IntKind.i64.wrap ((j : Int).tdiv 64) = (qi : Int) := by rw [Int.tdiv_eq_ediv_of_nonneg (by omega), hqi]; exact IntWalk.i64_in _ (by omega)
          have t2 : (j : Int).tmod 64 = (sh : Int) := by rw [Int.tmod_eq_emod_of_nonneg (by omega), hsh]
          have t3 : IntKind.u64.wrap (sh : Int) = (sh : Int) := by rw [IntKind.wrap_u64]; omega
          have t4 : min sh 64 = sh := by omega
          rw [hj] at h2 h3
          obtain ⟨V, hV⟩ : ∃ V, a % 2 ^ k / 2 ^ n = V := ⟨_, rfl⟩
          rw [hV] at H h2 h3
          have G : (limbs V)[qi]? = some (.int .u64 (limb V qi)) := limbs_get V qi hq6
          clear hV cC hb hj hnk
          go_wp2_with (first
    | ((with_reducible show wpList _ _ _ (⟨some 2, .box _ _, _, _, _, _⟩ :: _) _ _); refine H.xb ?_; (intro ga w H; simp only [Act.put, q1_, q2_, q3_]))
    | ((with_reducible show wpList _ _ _ (⟨some 4, .alloc 46, _, _, _, _⟩ :: _) _ _); refine H.xa ?_; (intro gr w H; simp only [Act.put, q1_, q2_, q3_]))
    | ((with_reducible show wpList _ _ _ (⟨some 6, .alloc 46, _, _, _, _⟩ :: _) _ _); refine H.xa ?_; (intro gb w H; simp only [Act.put, q1_, q2_, q3_]))
    | ((with_reducible show wpList _ _ _ (⟨_, .load 24 _, _, _, _, _⟩ :: _) _ _); refine H.xm ?_ (hv := by first | with_reducible exact G); simp only [Act.put, q1_, q2_, q3_])
    | ((with_reducible show wpList _ _ _ (⟨_, .store 24 _ _, _, _, _, _⟩ :: _) _ _); refine H.xt ?_ (hv := set_bit_at _ _ _ _ h3.out HM.out hs64 hq6); (intro w H; simp only [Act.put]))
    | ((with_reducible show wpList _ _ _ (⟨_, .box _ _, _, _, _, _⟩ :: _) _ _); refine H.xb ?_; (intro g w H; simp only [Act.put, q1_, q2_, q3_]))
    | ((with_reducible show wpList _ _ _ (⟨_, .alloc _, _, _, _, _⟩ :: _) _ _); refine H.xa ?_; (intro g w H; simp only [Act.put, q1_, q2_, q3_]))
    | ((with_reducible show wpList _ _ _ (⟨_, .load _ _, _, _, _, _⟩ :: _) _ _); (first | refine H.xl ?_ | refine H.xm ?_); simp only [Act.put, q1_, q2_, q3_])
    | ((with_reducible show wpList _ _ _ (⟨_, .store _ _ _, _, _, _, _⟩ :: _) _ _); (first | refine H.xs ?_ | refine H.xt ?_); (intro w H; simp only [Act.put]))
    | (go_at_call 98; ((with_reducible refine (cC _).mono ?_); rintro e w ⟨rfl, hb⟩; replace H := H.call hb; clear hb))
    | (go_at_call 64; ((with_reducible refine (cB _).mono ?_); rintro e w ⟨rfl, hb⟩; replace H := H.call hb; clear hb))
    )
          all_goals
            go_roundw
            case rel => exact ⟨k + 1, by omega, by go_num, by rw [h1.out], by rw [h2.out]; exact H⟩
            case measure => simp [intOf] <;> omega
        · have h1 := Lib.hid (lostRi_t a n k hb (by omega))
          have h2 := Lib.hid (show a % 2 ^ (k + 1) / 2 ^ n = a % 2 ^ k / 2 ^ n by rw [right_lo a n (k + 1) (by omega), right_lo a n k (by omega)])
          have hge : (k : Int) < (n : Int) := by omega
          have hdg : decide ((n : Int) ≤ (k : Int)) = false := by simp; omega
          clear cC hb hnk
          go_wp2_with (first
    | ((with_reducible show wpList _ _ _ (⟨some 2, .box _ _, _, _, _, _⟩ :: _) _ _); refine H.xb ?_; (intro ga w H; simp only [Act.put, q1_, q2_, q3_]))
    | ((with_reducible show wpList _ _ _ (⟨some 4, .alloc 46, _, _, _, _⟩ :: _) _ _); refine H.xa ?_; (intro gr w H; simp only [Act.put, q1_, q2_, q3_]))
    | ((with_reducible show wpList _ _ _ (⟨some 6, .alloc 46, _, _, _, _⟩ :: _) _ _); refine H.xa ?_; (intro gb w H; simp only [Act.put, q1_, q2_, q3_]))
    | ((with_reducible show wpList _ _ _ (⟨_, .box _ _, _, _, _, _⟩ :: _) _ _); refine H.xb ?_; (intro g w H; simp only [Act.put, q1_, q2_, q3_]))
    | ((with_reducible show wpList _ _ _ (⟨_, .alloc _, _, _, _, _⟩ :: _) _ _); refine H.xa ?_; (intro g w H; simp only [Act.put, q1_, q2_, q3_]))
    | ((with_reducible show wpList _ _ _ (⟨_, .load _ _, _, _, _, _⟩ :: _) _ _); (first | refine H.xl ?_ | refine H.xm ?_); simp only [Act.put, q1_, q2_, q3_])
    | ((with_reducible show wpList _ _ _ (⟨_, .store _ _ _, _, _, _, _⟩ :: _) _ _); (first | refine H.xs ?_ | refine H.xt ?_); (intro w H; simp only [Act.put]))
    | (go_at_call 98; ((with_reducible refine (cC _).mono ?_); rintro e w ⟨rfl, hb⟩; replace H := H.call hb; clear hb))
    | (go_at_call 64; ((with_reducible refine (cB _).mono ?_); rintro e w ⟨rfl, hb⟩; replace H := H.call hb; clear hb))
    )
          all_goals
            go_roundw
            case rel => exact ⟨k + 1, by omega, by go_num, by rw [h1.out], by rw [h2.out]; exact H⟩
            case measure => simp [intOf] <;> omega
    · have hk384 : k = 384 := by omega
      rw [mod_384 a k hk384 HA.out] at H
      have h1 := Lib.hid (show lostRi a n k = lostR a n by rw [lostRi_all a n k (by omega)]; exact low_any a n HA.out hn4)
      generalize lostRi a n k = l at *
      subst hk384
      clear cC hlt hk
      go_wp2_with (first
    | ((with_reducible show wpList _ _ _ (⟨some 2, .box _ _, _, _, _, _⟩ :: _) _ _); refine H.xb ?_; (intro ga w H; simp only [Act.put, q1_, q2_, q3_]))
    | ((with_reducible show wpList _ _ _ (⟨some 4, .alloc 46, _, _, _, _⟩ :: _) _ _); refine H.xa ?_; (intro gr w H; simp only [Act.put, q1_, q2_, q3_]))
    | ((with_reducible show wpList _ _ _ (⟨some 6, .alloc 46, _, _, _, _⟩ :: _) _ _); refine H.xa ?_; (intro gb w H; simp only [Act.put, q1_, q2_, q3_]))
    | ((with_reducible show wpList _ _ _ (⟨_, .box _ _, _, _, _, _⟩ :: _) _ _); refine H.xb ?_; (intro g w H; simp only [Act.put, q1_, q2_, q3_]))
    | ((with_reducible show wpList _ _ _ (⟨_, .alloc _, _, _, _, _⟩ :: _) _ _); refine H.xa ?_; (intro g w H; simp only [Act.put, q1_, q2_, q3_]))
    | ((with_reducible show wpList _ _ _ (⟨_, .load _ _, _, _, _, _⟩ :: _) _ _); (first | refine H.xl ?_ | refine H.xm ?_); simp only [Act.put, q1_, q2_, q3_])
    | ((with_reducible show wpList _ _ _ (⟨_, .store _ _ _, _, _, _, _⟩ :: _) _ _); (first | refine H.xs ?_ | refine H.xt ?_); (intro w H; simp only [Act.put]))
    | (go_at_call 98; ((with_reducible refine (cC _).mono ?_); rintro e w ⟨rfl, hb⟩; replace H := H.call hb; clear hb))
    | (go_at_call 64; ((with_reducible refine (cB _).mono ?_); rintro e w ⟨rfl, hb⟩; replace H := H.call hb; clear hb))
    )
      refine bodyPost_ret (results_ct rfl rfl (H.res rW v3_ (ext_limbs _) (by rfl))) rfl ⟨?_, H.below⟩
      rw [h1.out]; rfl
end Go.Proofs.YtbngedcblngnhaaDoor
