/- Part 45 of the proof. -/
import Derived.Deep.RegionWith
import Derived.Deep.RegionHeld3
import Derived.Deep.QuietTactic
import Derived.BigQuiet
import Derived.StillTailTactics
import Derived.Outline
import Derived.Test.YtgmhmpflmgfcdaaGreatDoorHq4
import Derived.Test.YtgmhmpflmgfcdaaGreatDoorHq5
import Derived.Test.YtgmhmpflmgfcdaaGreatDoorHq6
import Derived.Test.YtgmhmpflmgfcdaaGreatDoorHq8
import Derived.Test.YtgmhmpflmgfcdaaGreatDoorHq9
import Derived.Test.YtgmhmpflmgfcdaaGreatDoorHq39
import Derived.Test.YtgmhmpflmgfcdaaGreatDoorHq41
set_option linter.unusedSimpArgs false
set_option linter.unusedVariables false
set_option linter.unnecessarySimpa false
set_option maxRecDepth 100000
set_option maxHeartbeats 3200000
namespace Go.Proofs.YtgmhmpflmgfcdaaGreatDoor
open Go.RowKit
theorem subW_nat (x y d : Nat) (c : Bool) (hx : x < 18446744073709551616) (hy : y < 18446744073709551616) (hd : d < 18446744073709551616) (h : (d + y + c.toNat) % 18446744073709551616 = x) : subW (x : Int) (y : Int) c = (d : Int) := by
 unfold subW; cases c <;> simp at h ⊢ <;> omega
theorem borW_nat (x y d : Nat) (c : Bool) (hx : x < 18446744073709551616) (hy : y < 18446744073709551616) (hd : d < 18446744073709551616) (h : (d + y + c.toNat) % 18446744073709551616 = x) : borW (x : Int) (y : Int) c = decide (18446744073709551616 ≤ d + y + c.toNat) := by
 unfold borW; rw [Bool.eq_iff_iff, decide_eq_true_iff, decide_eq_true_iff]; cases c <;> simp at h ⊢ <;> omega
def subN (a b : Nat) : Nat := a + top6 - b
theorem limbN_top (a i : Nat) (h : i < 6) : limbN (a + top6) i = limbN a i := by
 have e : top6 = 2 ^ (64 * i) * (18446744073709551616 * 2 ^ (64 * (5 - i))) := by
  unfold top6
  rw [show 64 * 6 = 64 * i + (64 + 64 * (5 - i)) by omega, Nat.pow_add, Nat.pow_add]
 unfold limbN
 rw [e, Nat.add_mul_div_left _ _ (pw_pos i), Nat.add_mul_mod_self_left]
theorem sub_word (a b k : Nat) (hb : b < top6) (hk : k < 6) : (limbN (subN a b) k + limbN b k + (cbit (subN a b) b k).toNat) % 18446744073709551616 = limbN a k := by
 have h1 := sum_step (subN a b) b k
 rw [mod_low] at h1
 have e : subN a b + b = a + top6 := by unfold subN; omega
 have h2 : limbN (subN a b + b) k = limbN a k := by rw [e, limbN_top a k hk]
 rw [← h2]
 have h3 : limbN (subN a b + b) k * 2 ^ (64 * k) = (limbN (subN a b) k + limbN b k + (cbit (subN a b) b k).toNat) % 18446744073709551616 * 2 ^ (64 * k) := by omega
 exact (Nat.eq_of_mul_eq_mul_right (pw_pos k) h3).symm
theorem limbs_sub (a b : Nat) (h : b ≤ a) : limbs (subN a b) = limbs (a - b) := by
 apply limbs_eq
 intro i hi
 rw [← limbN_top (a - b) i hi]
 unfold subN
 rw [show a + top6 - b = a - b + top6 by omega]
theorem sub_limb (a b k : Nat) (cb : Bool) (hb : b < top6) (hk : k < 6) (h : cbit (subN a b) b k = cb) : subW (limb a k) (limb b k) cb = limb (subN a b) k := by
 unfold limb
 exact subW_nat _ _ _ _ (limbN_lt a k) (limbN_lt b k) (limbN_lt _ k) (by rw [← h]; exact sub_word a b k hb hk)
theorem sub_borrow (a b k : Nat) (cb : Bool) (hb : b < top6) (hk : k < 6) (h : cbit (subN a b) b k = cb) : cbit (subN a b) b (k + 1) = borW (limb a k) (limb b k) cb := by
 unfold limb
 rw [borW_nat _ _ _ _ (limbN_lt a k) (limbN_lt b k) (limbN_lt _ k) (by rw [← h]; exact sub_word a b k hb hk), cbit_step, h]
theorem wideSub_any (a b : Nat) (w : World) (hbt : b < top6) :
  CR_ 105 #[W a, W b] w (.tuple #[W (subN a b), .bool (cbit (subN a b) b 6)]) := by
 have HT := Lib.hid hbt
 clear hbt
 have sa := limbs_size a
 have sb := limbs_size b
 go_enter Tryz.func105, Tryz.ntmps105
 go_wp2_with fail
 go_loopw [5, 7] (fun c i wr => ∃ (k : Nat) (cb : Bool), k ≤ 6 ∧ i = .int .i64 k ∧ c = .bool cb ∧ Hid (cbit (subN a b) b k = cb) ∧
   Blk 60 wr w.heap.size (limbs a) ∧ Blk 60 wr (w.heap.size + 1) (limbs b) ∧
   Blk 60 wr (w.heap.size + 1 + 1) (fillTo (limbs 0) (fun i => .int .u64 (limb (subN a b) i)) k) ∧ Below w.heap.size w wr) (fun _ i _ => 6 - (intOf i).toNat)
 case atStart =>
  refine ⟨0, false, by omega, rfl, rfl, cbit_zero _ b, ((Blk.new w _).alloc _).alloc _, ?_, ?_, ((((Below.refl _ _).alloc (Nat.le_refl _) _).alloc (by simp) _).alloc (by simp <;> omega) _)⟩
  ·have := (Blk.new (T := 60) (w.alloc (.cells (limbs a) 60)) (limbs b)).alloc (.cells #[.int .u64 0, .int .u64 0, .int .u64 0, .int .u64 0, .int .u64 0, .int .u64 0] 60)
   simpa using this
  ·have := Blk.new (T := 60) ((w.alloc (.cells (limbs a) 60)).alloc (.cells (limbs b) 60)) #[.int .u64 0, .int .u64 0, .int .u64 0, .int .u64 0, .int .u64 0, .int .u64 0]
   rw [fillTo, limbs_zero]
   simpa using this
 case round =>
  obtain ⟨k, cb, hk, rfl, rfl, hc, ha, hb, hs, hbel⟩ := hrel
  by_cases hlt : k < 6
  ·have ca := ha.cell k (limbs_get a k hlt)
   have cb' := hb.cell k (limbs_get b k hlt)
   have cs := hs.cell k ((fillTo_hi _ _ k k (Nat.le_refl _)).trans (limbs_get 0 k hlt))
   have fs := hs.free k
   go_wp2_with fail
   go_region_with (go_at_call 182; refine (wordSub_any _ _ _ _ (limb_w a k) (limb_w b k)).mono ?_; rintro e w' ⟨rfl, rfl⟩)
   all_goals go_wp2
   all_goals
    go_roundw
    case rel => exact ⟨k + 1, _, by omega, by go_num, rfl, sub_borrow a b k cb HT.out (by omega) hc.out, (ha.other _ _ (by simp; omega)).drew, (hb.other _ _ (by simp)).drew, (hs.set k _ (by rw [sub_limb a b k cb HT.out (by omega) hc.out]; rfl)).drew, (hbel.setCell (by simp; omega) _).drew⟩
    case measure => simp [intOf]; omega
  ·have : k = 6 := by omega
   subst this
   rw [fillTo_all (limbs 0) _ (subN a b) rfl (fun i _ => rfl)] at hs
   have c0 := hs.cell 0 (limbs_get _ 0 (by decide))
   have c1 := hs.cell 1 (limbs_get _ 1 (by decide))
   have c2 := hs.cell 2 (limbs_get _ 2 (by decide))
   have c3 := hs.cell 3 (limbs_get _ 3 (by decide))
   have c4 := hs.cell 4 (limbs_get _ 4 (by decide))
   have c5 := hs.cell 5 (limbs_get _ 5 (by decide))
   have f0 := hs.free 0
   have f1 := hs.free 1
   have f2 := hs.free 2
   have f3 := hs.free 3
   have f4 := hs.free 4
   have f5 := hs.free 5
   clear ha hb hlt
   go_wp2_with fail
   rw [hs.keep 0 _ (limbs_get _ 0 (by decide)), hs.keep 1 _ (limbs_get _ 1 (by decide)), hs.keep 2 _ (limbs_get _ 2 (by decide)), hs.keep 3 _ (limbs_get _ 3 (by decide)), hs.keep 4 _ (limbs_get _ 4 (by decide)), hs.keep 5 _ (limbs_get _ 5 (by decide))]
   refine bodyPost_ret (v := .tuple #[W (subN a b), .bool cb]) (by simp [results, Tryz.results105, go_sem, c0, c1, c2, c3, c4, c5, limbs]) rfl ⟨by rw [hc.out], hbel⟩
theorem div_step (a k : Nat) : a / 2 ^ (64 * k) = a / 2 ^ (64 * (k + 1)) * 18446744073709551616 + limbN a k := by
 unfold limbN
 rw [pw_succ, ← Nat.div_div_eq_div_mul]
 have := Nat.div_add_mod (a / 2 ^ (64 * k)) 18446744073709551616
 omega
theorem cmp_less (a b k : Nat) (h : a / 2 ^ (64 * (k + 1)) = b / 2 ^ (64 * (k + 1))) (hl : limbN a k < limbN b k) : a < b := by
 have h1 := div_step a k
 have h2 := div_step b k
 rw [h] at h1
 rcases Nat.lt_or_ge a b with hab | hab
 ·exact hab
 ·have := Nat.div_le_div_right (c := 2 ^ (64 * k)) hab
  omega
theorem cmp_same (a b k : Nat) (h : a / 2 ^ (64 * (k + 1)) = b / 2 ^ (64 * (k + 1))) (hl : limbN a k = limbN b k) : a / 2 ^ (64 * k) = b / 2 ^ (64 * k) := by
 rw [div_step a k, div_step b k, h, hl]
def EqFrom (a b k : Nat) : Prop := a / 2 ^ (64 * k) = b / 2 ^ (64 * k)
theorem eqFrom6 {a b : Nat} (ha : a < top6) (hb : b < top6) : EqFrom a b 6 := by
 unfold top6 at ha hb
 unfold EqFrom
 rw [Nat.div_eq_of_lt ha, Nat.div_eq_of_lt hb]
theorem below_drewN {B : Nat} {w w' : World} (h : Below B w w') (n : Nat) : Below B w (w'.drewN n) := ⟨h.os, h.tape, h.output, h.size, h.block⟩
theorem limb_lt (a b k : Nat) : limb a k < limb b k ↔ limbN a k < limbN b k := by unfold limb; omega
theorem wideCmp_any (a b : Nat) (w : World) (ha : a < top6) (hb : b < top6) :
  CR_ 46 #[W a, W b] w (.int .i64 (cmpN a b)) := by
 have sa := limbs_size a
 have sb := limbs_size b
 have E6 := eqFrom6 ha hb
 clear ha hb
 go_enter Tryz.func46, Tryz.ntmps46
 go_wp2_with fail
 go_loopw [5] (fun i wr => ∃ k : Nat, k ≤ 6 ∧ i = .int .i64 ((k : Int) - 1) ∧ EqFrom a b k ∧ Blk 60 wr w.heap.size (limbs a) ∧ Blk 60 wr (w.heap.size + 1) (limbs b) ∧ Below w.heap.size w wr) (fun i _ => (intOf i + 1).toNat)
 case atStart =>
  refine ⟨6, by omega, rfl, E6, (Blk.new w _).alloc _, ?_, ((Below.refl _ _).alloc (Nat.le_refl _) _).alloc (by simp) _⟩
  have := Blk.new (T := 60) (w.alloc (.cells (limbs a) 60)) (limbs b)
  simpa using this
 case round =>
  obtain ⟨k, hk, rfl, hE, hA, hB, hbel⟩ := hrel
  cases k with
  | zero =>
   have Z := Lib.hid (show (0 : Int) = cmpN a b by
    have : a = b := by have := hE; unfold EqFrom at this; simpa using this
    unfold cmpN; rw [if_neg (by omega), if_neg (by omega)])
   clear hE
   go_wp2_with fail
   go_ret
   exact ⟨ret_int Z.out, hbel⟩
  | succ j =>
   have ca := hA.cell j (limbs_get a j (by omega))
   have cb := hB.cell j (limbs_get b j (by omega))
   rw [show ((j + 1 : Nat) : Int) - 1 = (j : Int) by omega]
   by_cases h1 : limb a j < limb b j
   ·have Z := Lib.hid (show (-1 : Int) = cmpN a b by
     have := cmp_less a b j hE ((limb_lt a b j).1 h1)
     unfold cmpN; rw [if_pos this])
    have d1 : decide (limb a j < limb b j) = true := decide_eq_true h1
    clear hE
    go_wp2_with fail
    go_quiet (fail)
    go_wp2_with fail
    go_ret
    exact ⟨ret_int Z.out, below_drewN hbel _⟩
   ·have d1 : decide (limb a j < limb b j) = false := decide_eq_false h1
    by_cases h2 : limb b j < limb a j
    ·have Z := Lib.hid (show (1 : Int) = cmpN a b by
      have := cmp_less b a j hE.symm ((limb_lt b a j).1 h2)
      unfold cmpN; rw [if_neg (by omega), if_pos this])
     have d2 : decide (limb b j < limb a j) = true := decide_eq_true h2
     clear hE h1
     go_wp2_with fail
     go_quiet (fail)
     go_wp2_with fail
     go_quiet (fail)
     go_wp2_with fail
     go_ret
     exact ⟨ret_int Z.out, below_drewN (below_drewN hbel _) _⟩
    ·have d2 : decide (limb b j < limb a j) = false := decide_eq_false h2
     have S : EqFrom a b j := cmp_same a b j hE (by unfold limb at h1 h2; omega)
     clear hE h1 h2
     go_wp2_with fail
     go_quiet (fail)
     go_wp2_with fail
     go_quiet (fail)
     go_wp2_with fail
     go_roundw
     case rel => exact ⟨j, by omega, rfl, S, hA, hB, below_drewN hbel _⟩
     case measure => simp [intOf]
theorem set_rw2 (n : Bool) (s : Nat) (e : Int) (mo n2 : Bool) (s2 : Nat) (e2 : Int) (mo2 : Bool) : setRow (rough n s e mo) 0 (rough n2 s2 e2 mo2).toList = rough n2 s2 e2 mo2 := set_all _ _ rfl
set_option maxHeartbeats 6400000 in
theorem fmaSum_same0 (f m : Nat) (n1 n2 : Bool) (s1 s2 : Nat) (x1 x2 : Int) (l1 l2 : Nat) (n : Int) (u t : Nat) (lo : Bool) (w : World) (hT : Tab w) (hx1 : -200000 ≤ x1) (hx1b : x1 ≤ 200000) (hx2 : -200000 ≤ x2) (hx2b : x2 ≤ 200000) (hl1 : l1 ≤ 384) (hl2 : l2 ≤ 384) (hn0 : 0 ≤ n) (hn : n ≤ 384) (hs : ¬ (l1 : Int) + x1 < (l2 : Int) + x2) (cl1 : CK_ 80 #[W s1] (.int .i64 (l1 : Nat))) (cl2 : CK_ 80 #[W s2] (.int .i64 (l2 : Nat))) (cT : CK_ 186 #[W s1, .int .i64 380] (.tuple #[W u, .int .i64 n, .int .i64 0])) (cL : 0 ≤ (x2 - (x1 - n)) → ∀ w, CR_ 101 #[W s2, .int .i64 (x2 - (x1 - n))] w (.tuple #[W t, .bool lo])) (cJ : ¬ 0 ≤ (x2 - (x1 - n)) → ∀ w, Tab w → CR_ 102 #[W s2, .int .i64 (-(x2 - (x1 - n)))] w (W t)) (hbb : (n1 == n2) = true) (sa ra : Nat) (oa : Bool) (fla era : Int) (cKa : CT_ 61 #[.int .u8 f, .int .u8 m, RV n1 sa (x1 - n) false] (.tuple #[BV ra, .int .u8 fla, .int .i64 era])) (cA : CK_ 104 #[W u, W t] (.tuple #[W sa, .bool oa])) :
  CR_ 117 #[.int .u8 f, .int .u8 m, RV n1 s1 x1 false, RV n2 s2 x2 false] w (.tuple #[BV ra, .int .u8 fla, .int .i64 era]) := by
 have H := Own.start w
 have HT := Lib.hid hT
 clear hT
 have v1 : IntKind.i64.wrap ((l1 : Int) + x1) = (l1 : Int) + x1 := IntWalk.i64_in _ (by omega)
 have v2 : IntKind.i64.wrap ((l2 : Int) + x2) = (l2 : Int) + x2 := IntWalk.i64_in _ (by omega)
 go_enter Tryz.func117, Tryz.ntmps117
 exact walk2
set_option maxHeartbeats 6400000 in
theorem fmaSum_diff0 (f m : Nat) (n1 n2 : Bool) (s1 s2 : Nat) (x1 x2 : Int) (l1 l2 : Nat) (n : Int) (u t : Nat) (lo : Bool) (w : World) (hT : Tab w) (hx1 : -200000 ≤ x1) (hx1b : x1 ≤ 200000) (hx2 : -200000 ≤ x2) (hx2b : x2 ≤ 200000) (hl1 : l1 ≤ 384) (hl2 : l2 ≤ 384) (hn0 : 0 ≤ n) (hn : n ≤ 384) (hs : ¬ (l1 : Int) + x1 < (l2 : Int) + x2) (cl1 : CK_ 80 #[W s1] (.int .i64 (l1 : Nat))) (cl2 : CK_ 80 #[W s2] (.int .i64 (l2 : Nat))) (cT : CK_ 186 #[W s1, .int .i64 380] (.tuple #[W u, .int .i64 n, .int .i64 0])) (cL : 0 ≤ (x2 - (x1 - n)) → ∀ w, CR_ 101 #[W s2, .int .i64 (x2 - (x1 - n))] w (.tuple #[W t, .bool lo])) (cJ : ¬ 0 ≤ (x2 - (x1 - n)) → ∀ w, Tab w → CR_ 102 #[W s2, .int .i64 (-(x2 - (x1 - n)))] w (W t)) (hbb : (n1 == n2) = false) (k : Int) (hk : k = 0 ∨ k = 1 ∨ k = -1) (cC : CK_ 46 #[W u, W t] (.int .i64 k)) (zz : Nat) (cZZ : CK_ 78 #[.int .u8 f, .bool ((m : Int) == 2)] (BV zz)) (sm rm : Nat) (om : Bool) (flm erm : Int) (cKm : k = 1 → ∀ w, Tab w → CR_ 61 #[.int .u8 f, .int .u8 m, RV n1 sm (x1 - n) false] w (.tuple #[BV rm, .int .u8 flm, .int .i64 erm])) (sl rl : Nat) (ol : Bool) (fll erl : Int) (cKl : k = -1 → ∀ w, Tab w → CR_ 61 #[.int .u8 f, .int .u8 m, RV n2 sl (x1 - n) false] w (.tuple #[BV rl, .int .u8 fll, .int .i64 erl])) (cM : k = 1 → ∀ w, CR_ 105 #[W u, W t] w (.tuple #[W sm, .bool om])) (cS : k = -1 → ∀ w, CR_ 105 #[W t, W u] w (.tuple #[W sl, .bool ol])) :
  CR_ 117 #[.int .u8 f, .int .u8 m, RV n1 s1 x1 false, RV n2 s2 x2 false] w (if k = 0 then .tuple #[BV zz, .int .u8 0, .int .i64 0] else if k = 1 then .tuple #[BV rm, .int .u8 flm, .int .i64 erm] else .tuple #[BV rl, .int .u8 fll, .int .i64 erl]) := by
 have H := Own.start w
 have HT := Lib.hid hT
 clear hT
 have v1 : IntKind.i64.wrap ((l1 : Int) + x1) = (l1 : Int) + x1 := IntWalk.i64_in _ (by omega)
 have v2 : IntKind.i64.wrap ((l2 : Int) + x2) = (l2 : Int) + x2 := IntWalk.i64_in _ (by omega)
 go_enter Tryz.func117, Tryz.ntmps117
 exact walk2
set_option maxHeartbeats 6400000 in
theorem fmaSum_same1 (f m : Nat) (n1 n2 : Bool) (s1 s2 : Nat) (x1 x2 : Int) (l1 l2 : Nat) (n : Int) (u t : Nat) (lo : Bool) (w : World) (hT : Tab w) (hx1 : -200000 ≤ x1) (hx1b : x1 ≤ 200000) (hx2 : -200000 ≤ x2) (hx2b : x2 ≤ 200000) (hl1 : l1 ≤ 384) (hl2 : l2 ≤ 384) (hn0 : 0 ≤ n) (hn : n ≤ 384) (hs : (l1 : Int) + x1 < (l2 : Int) + x2) (cl1 : CK_ 80 #[W s1] (.int .i64 (l1 : Nat))) (cl2 : CK_ 80 #[W s2] (.int .i64 (l2 : Nat))) (cT : CK_ 186 #[W s2, .int .i64 380] (.tuple #[W u, .int .i64 n, .int .i64 0])) (cL : 0 ≤ (x1 - (x2 - n)) → ∀ w, CR_ 101 #[W s1, .int .i64 (x1 - (x2 - n))] w (.tuple #[W t, .bool lo])) (cJ : ¬ 0 ≤ (x1 - (x2 - n)) → ∀ w, Tab w → CR_ 102 #[W s1, .int .i64 (-(x1 - (x2 - n)))] w (W t)) (hbb : (n2 == n1) = true) (sa ra : Nat) (oa : Bool) (fla era : Int) (cKa : CT_ 61 #[.int .u8 f, .int .u8 m, RV n2 sa (x2 - n) false] (.tuple #[BV ra, .int .u8 fla, .int .i64 era])) (cA : CK_ 104 #[W u, W t] (.tuple #[W sa, .bool oa])) :
  CR_ 117 #[.int .u8 f, .int .u8 m, RV n1 s1 x1 false, RV n2 s2 x2 false] w (.tuple #[BV ra, .int .u8 fla, .int .i64 era]) := by
 have H := Own.start w
 have HT := Lib.hid hT
 clear hT
 have v1 : IntKind.i64.wrap ((l1 : Int) + x1) = (l1 : Int) + x1 := IntWalk.i64_in _ (by omega)
 have v2 : IntKind.i64.wrap ((l2 : Int) + x2) = (l2 : Int) + x2 := IntWalk.i64_in _ (by omega)
 go_enter Tryz.func117, Tryz.ntmps117
 exact walk2
set_option maxHeartbeats 6400000 in
theorem fmaSum_diff1 (f m : Nat) (n1 n2 : Bool) (s1 s2 : Nat) (x1 x2 : Int) (l1 l2 : Nat) (n : Int) (u t : Nat) (lo : Bool) (w : World) (hT : Tab w) (hx1 : -200000 ≤ x1) (hx1b : x1 ≤ 200000) (hx2 : -200000 ≤ x2) (hx2b : x2 ≤ 200000) (hl1 : l1 ≤ 384) (hl2 : l2 ≤ 384) (hn0 : 0 ≤ n) (hn : n ≤ 384) (hs : (l1 : Int) + x1 < (l2 : Int) + x2) (cl1 : CK_ 80 #[W s1] (.int .i64 (l1 : Nat))) (cl2 : CK_ 80 #[W s2] (.int .i64 (l2 : Nat))) (cT : CK_ 186 #[W s2, .int .i64 380] (.tuple #[W u, .int .i64 n, .int .i64 0])) (cL : 0 ≤ (x1 - (x2 - n)) → ∀ w, CR_ 101 #[W s1, .int .i64 (x1 - (x2 - n))] w (.tuple #[W t, .bool lo])) (cJ : ¬ 0 ≤ (x1 - (x2 - n)) → ∀ w, Tab w → CR_ 102 #[W s1, .int .i64 (-(x1 - (x2 - n)))] w (W t)) (hbb : (n2 == n1) = false) (k : Int) (hk : k = 0 ∨ k = 1 ∨ k = -1) (cC : CK_ 46 #[W u, W t] (.int .i64 k)) (zz : Nat) (cZZ : CK_ 78 #[.int .u8 f, .bool ((m : Int) == 2)] (BV zz)) (sm rm : Nat) (om : Bool) (flm erm : Int) (cKm : k = 1 → ∀ w, Tab w → CR_ 61 #[.int .u8 f, .int .u8 m, RV n2 sm (x2 - n) false] w (.tuple #[BV rm, .int .u8 flm, .int .i64 erm])) (sl rl : Nat) (ol : Bool) (fll erl : Int) (cKl : k = -1 → ∀ w, Tab w → CR_ 61 #[.int .u8 f, .int .u8 m, RV n1 sl (x2 - n) false] w (.tuple #[BV rl, .int .u8 fll, .int .i64 erl])) (cM : k = 1 → ∀ w, CR_ 105 #[W u, W t] w (.tuple #[W sm, .bool om])) (cS : k = -1 → ∀ w, CR_ 105 #[W t, W u] w (.tuple #[W sl, .bool ol])) :
  CR_ 117 #[.int .u8 f, .int .u8 m, RV n1 s1 x1 false, RV n2 s2 x2 false] w (if k = 0 then .tuple #[BV zz, .int .u8 0, .int .i64 0] else if k = 1 then .tuple #[BV rm, .int .u8 flm, .int .i64 erm] else .tuple #[BV rl, .int .u8 fll, .int .i64 erl]) := by
 have H := Own.start w
 have HT := Lib.hid hT
 clear hT
 have v1 : IntKind.i64.wrap ((l1 : Int) + x1) = (l1 : Int) + x1 := IntWalk.i64_in _ (by omega)
 have v2 : IntKind.i64.wrap ((l2 : Int) + x2) = (l2 : Int) + x2 := IntWalk.i64_in _ (by omega)
 go_enter Tryz.func117, Tryz.ntmps117
 exact walk2
end Go.Proofs.YtgmhmpflmgfcdaaGreatDoor
