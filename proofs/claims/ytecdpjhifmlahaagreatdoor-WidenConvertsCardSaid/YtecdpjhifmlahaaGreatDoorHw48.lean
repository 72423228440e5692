/- Part 48 of what is proved: Wid, Rcv. -/
import Derived.Test.YtecdpjhifmlahaaGreatDoorHw3
import Derived.Test.YtecdpjhifmlahaaGreatDoorHw7
import Derived.Test.YtecdpjhifmlahaaGreatDoorHw10
import Derived.Test.YtecdpjhifmlahaaGreatDoorHw11
import Derived.Test.YtecdpjhifmlahaaGreatDoorHw36
import Derived.Test.YtecdpjhifmlahaaGreatDoorHw41
import Derived.Test.YtecdpjhifmlahaaGreatDoorHw45
import Derived.Test.YtecdpjhifmlahaaGreatDoorHw47
set_option linter.unusedSimpArgs false
set_option linter.unusedVariables false
set_option linter.unnecessarySimpa false
set_option maxRecDepth 100000
set_option maxHeartbeats 1600000
namespace Go.Proofs.YtecdpjhifmlahaaGreatDoor
open Go.RowKit
theorem eitherFlags_t (x y : Int) (w : World) : Calls Tryz.prog 75 #[.bool true, .int .u8 x, .int .u8 y] w fun e w' => e = .returned (.int .u8 x) ∧ w = w' := by
  go_enter Tryz.func75, Tryz.ntmps75
  go_wp2
  go_ret
  exact ⟨rfl, rfl⟩
theorem eitherFlags_f (x y : Int) (w : World) : Calls Tryz.prog 75 #[.bool false, .int .u8 x, .int .u8 y] w fun e w' => e = .returned (.int .u8 y) ∧ w = w' := by
  go_enter Tryz.func75, Tryz.ntmps75
  go_wp2
  go_ret
  exact ⟨rfl, rfl⟩
theorem eitherbool_t (x y : Bool) (w : World) : Calls Tryz.prog 83 #[.bool true, .bool x, .bool y] w fun e w' => e = .returned (.bool x) ∧ w = w' := by
  go_enter Tryz.func83, Tryz.ntmps83
  go_wp2
  go_ret
  exact ⟨rfl, rfl⟩
theorem eitherbool_f (x y : Bool) (w : World) : Calls Tryz.prog 83 #[.bool false, .bool x, .bool y] w fun e w' => e = .returned (.bool y) ∧ w = w' := by
  go_enter Tryz.func83, Tryz.ntmps83
  go_wp2
  go_ret
  exact ⟨rfl, rfl⟩
theorem widen_no0 (tf fr m a c s f : Nat) (x : Int) (w : World) (hT : Tab w) (cU : CT_ 71 #[.int .u8 fr, BV a] (.tuple #[PV 0 0 0 0, .int .i64 2])) :
    Calls Tryz.prog 20 #[.int .u8 tf, .int .u8 fr, .int .u8 m, BV a] w fun e w' => e = .returned (.tuple #[BV 0, .int .u8 0, .int .i64 2]) ∧ Below w.heap.size w w' := by
  have H := Own.start w
  have HT := Lib.hid hT
  clear hT
  go_enter Tryz.func20, Tryz.ntmps20
  exact walk6
theorem widen_no1 (tf fr m a c s f : Nat) (x : Int) (w : World) (hT : Tab w) (cU : CT_ 71 #[.int .u8 fr, BV a] (.tuple #[PV c s x f, .int .i64 0])) (cF : ∀ w, Calls Tryz.prog 72 #[.int .u8 tf] w fun e w' => e = .returned (.int .i64 2) ∧ w = w') :
    Calls Tryz.prog 20 #[.int .u8 tf, .int .u8 fr, .int .u8 m, BV a] w fun e w' => e = .returned (.tuple #[BV 0, .int .u8 0, .int .i64 2]) ∧ Below w.heap.size w w' := by
  have H := Own.start w
  have HT := Lib.hid hT
  clear hT
  go_enter Tryz.func20, Tryz.ntmps20
  exact walk6
theorem widen_no2 (tf fr m a c s f : Nat) (x : Int) (w : World) (hT : Tab w) (cU : CT_ 71 #[.int .u8 fr, BV a] (.tuple #[PV c s x f, .int .i64 0])) (cF : ∀ w, Calls Tryz.prog 72 #[.int .u8 tf] w fun e w' => e = .returned (.int .i64 0) ∧ w = w') (cM : ∀ w, Calls Tryz.prog 73 #[.int .u8 m] w fun e w' => e = .returned (.int .i64 2) ∧ w = w') :
    Calls Tryz.prog 20 #[.int .u8 tf, .int .u8 fr, .int .u8 m, BV a] w fun e w' => e = .returned (.tuple #[BV 0, .int .u8 0, .int .i64 2]) ∧ Below w.heap.size w w' := by
  have H := Own.start w
  have HT := Lib.hid hT
  clear hT
  go_enter Tryz.func20, Tryz.ntmps20
  exact walk6
theorem widen_c8 (tf fr m a s f n : Nat) (x : Int) (w : World) (hT : Tab w) (cU : CT_ 71 #[.int .u8 fr, BV a] (.tuple #[PV 8 s x f, .int .i64 0])) (cF : ∀ w, Calls Tryz.prog 72 #[.int .u8 tf] w fun e w' => e = .returned (.int .i64 0) ∧ w = w') (cM : ∀ w, Calls Tryz.prog 73 #[.int .u8 m] w fun e w' => e = .returned (.int .i64 0) ∧ w = w') (cN : CK_ 74 #[.int .u8 tf] (BV n)) (cE : ∀ w, Calls Tryz.prog 75 #[.bool true, .int .u8 16, .int .u8 0] w fun e w' => e = .returned (.int .u8 16) ∧ w = w') :
    Calls Tryz.prog 20 #[.int .u8 tf, .int .u8 fr, .int .u8 m, BV a] w fun e w' => e = .returned (.tuple #[BV n, .int .u8 16, .int .i64 0]) ∧ Below w.heap.size w w' := by
  have H := Own.start w
  have HT := Lib.hid hT
  clear hT
  go_enter Tryz.func20, Tryz.ntmps20
  exact walk6
theorem widen_c9 (tf fr m a s f n : Nat) (x : Int) (w : World) (hT : Tab w) (cU : CT_ 71 #[.int .u8 fr, BV a] (.tuple #[PV 9 s x f, .int .i64 0])) (cF : ∀ w, Calls Tryz.prog 72 #[.int .u8 tf] w fun e w' => e = .returned (.int .i64 0) ∧ w = w') (cM : ∀ w, Calls Tryz.prog 73 #[.int .u8 m] w fun e w' => e = .returned (.int .i64 0) ∧ w = w') (cN : CK_ 74 #[.int .u8 tf] (BV n)) (cE : ∀ w, Calls Tryz.prog 75 #[.bool false, .int .u8 16, .int .u8 0] w fun e w' => e = .returned (.int .u8 0) ∧ w = w') :
    Calls Tryz.prog 20 #[.int .u8 tf, .int .u8 fr, .int .u8 m, BV a] w fun e w' => e = .returned (.tuple #[BV n, .int .u8 0, .int .i64 0]) ∧ Below w.heap.size w w' := by
  have H := Own.start w
  have HT := Lib.hid hT
  clear hT
  go_enter Tryz.func20, Tryz.ntmps20
  exact walk6
theorem widen_c0 (tf fr m a s f n : Nat) (x : Int) (w : World) (hT : Tab w) (cU : CT_ 71 #[.int .u8 fr, BV a] (.tuple #[PV 0 s x f, .int .i64 0])) (cF : ∀ w, Calls Tryz.prog 72 #[.int .u8 tf] w fun e w' => e = .returned (.int .i64 0) ∧ w = w') (cM : ∀ w, Calls Tryz.prog 73 #[.int .u8 m] w fun e w' => e = .returned (.int .i64 0) ∧ w = w') (cI : CK_ 76 #[.int .u8 tf, .bool true] (BV n)) :
    Calls Tryz.prog 20 #[.int .u8 tf, .int .u8 fr, .int .u8 m, BV a] w fun e w' => e = .returned (.tuple #[BV n, .int .u8 0, .int .i64 0]) ∧ Below w.heap.size w w' := by
  have H := Own.start w
  have HT := Lib.hid hT
  clear hT
  go_enter Tryz.func20, Tryz.ntmps20
  exact walk6
theorem widen_c7 (tf fr m a s f n : Nat) (x : Int) (w : World) (hT : Tab w) (cU : CT_ 71 #[.int .u8 fr, BV a] (.tuple #[PV 7 s x f, .int .i64 0])) (cF : ∀ w, Calls Tryz.prog 72 #[.int .u8 tf] w fun e w' => e = .returned (.int .i64 0) ∧ w = w') (cM : ∀ w, Calls Tryz.prog 73 #[.int .u8 m] w fun e w' => e = .returned (.int .i64 0) ∧ w = w') (cI : CK_ 76 #[.int .u8 tf, .bool false] (BV n)) :
    Calls Tryz.prog 20 #[.int .u8 tf, .int .u8 fr, .int .u8 m, BV a] w fun e w' => e = .returned (.tuple #[BV n, .int .u8 0, .int .i64 0]) ∧ Below w.heap.size w w' := by
  have H := Own.start w
  have HT := Lib.hid hT
  clear hT
  go_enter Tryz.func20, Tryz.ntmps20
  exact walk6
theorem widen_fin_t (tf fr m a c s f : Nat) (x : Int) (w : World) (hT : Tab w) (h0 : c ≠ 0) (h7 : c ≠ 7) (h8 : ¬ 8 ≤ c) (hb : decide ((c : Int) < 4) = true) (r : Nat) (fl er : Int) (cU : CT_ 71 #[.int .u8 fr, BV a] (.tuple #[PV c s x f, .int .i64 0])) (cF : ∀ w, Calls Tryz.prog 72 #[.int .u8 tf] w fun e w' => e = .returned (.int .i64 0) ∧ w = w') (cM : ∀ w, Calls Tryz.prog 73 #[.int .u8 m] w fun e w' => e = .returned (.int .i64 0) ∧ w = w') (cK : CT_ 61 #[.int .u8 tf, .int .u8 m, RV true s x false] (.tuple #[BV r, .int .u8 fl, .int .i64 er])) :
    Calls Tryz.prog 20 #[.int .u8 tf, .int .u8 fr, .int .u8 m, BV a] w fun e w' => e = .returned (.tuple #[BV r, .int .u8 fl, .int .i64 er]) ∧ Below w.heap.size w w' := by
  have H := Own.start w
  have HT := Lib.hid hT
  clear hT
  have e0 : ((c : Int) == 0) = false := int_eq_false c 0 (by omega)
  have e7 : ((c : Int) == 7) = false := int_eq_false c 7 (by omega)
  have e8 : ((c : Int) == 8) = false := int_eq_false c 8 (by omega)
  have e9 : ((c : Int) == 9) = false := int_eq_false c 9 (by omega)
  clear h0 h7 h8
  go_enter Tryz.func20, Tryz.ntmps20
  exact walk6
theorem widen_fin_f (tf fr m a c s f : Nat) (x : Int) (w : World) (hT : Tab w) (h0 : c ≠ 0) (h7 : c ≠ 7) (h8 : ¬ 8 ≤ c) (hb : decide ((c : Int) < 4) = false) (r : Nat) (fl er : Int) (cU : CT_ 71 #[.int .u8 fr, BV a] (.tuple #[PV c s x f, .int .i64 0])) (cF : ∀ w, Calls Tryz.prog 72 #[.int .u8 tf] w fun e w' => e = .returned (.int .i64 0) ∧ w = w') (cM : ∀ w, Calls Tryz.prog 73 #[.int .u8 m] w fun e w' => e = .returned (.int .i64 0) ∧ w = w') (cK : CT_ 61 #[.int .u8 tf, .int .u8 m, RV false s x false] (.tuple #[BV r, .int .u8 fl, .int .i64 er])) :
    Calls Tryz.prog 20 #[.int .u8 tf, .int .u8 fr, .int .u8 m, BV a] w fun e w' => e = .returned (.tuple #[BV r, .int .u8 fl, .int .i64 er]) ∧ Below w.heap.size w w' := by
  have H := Own.start w
  have HT := Lib.hid hT
  clear hT
  have e0 : ((c : Int) == 0) = false := int_eq_false c 0 (by omega)
  have e7 : ((c : Int) == 7) = false := int_eq_false c 7 (by omega)
  have e8 : ((c : Int) == 8) = false := int_eq_false c 8 (by omega)
  have e9 : ((c : Int) == 9) = false := int_eq_false c 9 (by omega)
  clear h0 h7 h8
  go_enter Tryz.func20, Tryz.ntmps20
  exact walk6
theorem widenConvert_any (tf fr m a : Nat) (w : World) (ht : tf < 256) (hm : m < 256) (ha : a < 2 ^ (64 * 2)) (hT : Tab w) :
    Calls Tryz.prog 20 #[.int .u8 tf, .int .u8 fr, .int .u8 m, BV a] w fun e w' => e = .returned (.tuple #[BV (widenN tf fr m a).1, .int .u8 ((widenN tf fr m a).2.1 : Nat), .int .i64 (widenN tf fr m a).2.2]) ∧ Below w.heap.size w w' := by
  have cM := fun w => shapeCheckMode_any m w hm
  have cF := fun w => shapeCheck_any tf w ht
  cases hfa : fitsB fr a
  · have hN : widenN tf fr m a = (0, 0, 2) := by unfold widenN widenOk; rw [hfa]; rfl
    rw [hN]
    exact widen_no0 tf fr m a 0 0 0 0 w hT (fun w _ => kindUnpack_not fr a w ha hfa)
  have cU := fun w hT => kindUnpack_yes fr a w hfa hT
  by_cases h4 : tf < 4
  case neg =>
    have hN : widenN tf fr m a = (0, 0, 2) := by unfold widenN widenOk; rw [hfa, decide_eq_false h4]; rfl
    rw [decide_eq_false h4] at cF
    rw [hN]
    exact widen_no1 tf fr m a _ _ _ _ w hT cU cF
  rw [decide_eq_true h4] at cF
  by_cases h5 : m < 5
  case neg =>
    have hN : widenN tf fr m a = (0, 0, 2) := by unfold widenN widenOk; rw [hfa, decide_eq_true h4, decide_eq_false h5]; rfl
    rw [decide_eq_false h5] at cM
    rw [hN]
    exact widen_no2 tf fr m a _ _ _ _ w hT cU cF cM
  rw [decide_eq_true h5] at cM
  have hN : widenN tf fr m a = ((widenR tf fr m a).1, (widenR tf fr m a).2, 0) := by unfold widenN widenOk; rw [hfa, decide_eq_true h4, decide_eq_true h5]; rfl
  rw [hN]
  have hle := cls_le fr a
  by_cases h8 : 8 ≤ clsN fr a
  · have hR : widenR tf fr m a = (nanN tf, cond (decide (clsN fr a = 8)) 16 0) := by unfold widenR; rw [if_pos h8]
    rw [hR]
    by_cases h9 : clsN fr a = 8
    · rw [h9] at cU ⊢
      exact widen_c8 tf fr m a _ _ _ _ w hT cU cF cM (fun w => shapeNaN_any tf w ht) (fun w => eitherFlags_t _ _ w)
    · rw [show clsN fr a = 9 by omega] at cU ⊢
      exact widen_c9 tf fr m a _ _ _ _ w hT cU cF cM (fun w => shapeNaN_any tf w ht) (fun w => eitherFlags_f _ _ w)
  by_cases h0 : clsN fr a = 0
  · have hR : widenR tf fr m a = (infN tf true, 0) := by unfold widenR; rw [if_neg h8, if_pos (Or.inl h0), h0]; rfl
    rw [hR]
    rw [h0] at cU
    exact widen_c0 tf fr m a _ _ _ _ w hT cU cF cM (fun w => shapeInf_any tf true w ht)
  by_cases h7 : clsN fr a = 7
  · have hR : widenR tf fr m a = (infN tf false, 0) := by unfold widenR; rw [if_neg h8, if_pos (Or.inr h7), h7]; rfl
    rw [hR]
    rw [h7] at cU
    exact widen_c7 tf fr m a _ _ _ _ w hT cU cF cM (fun w => shapeInf_any tf false w ht)
  obtain ⟨g1, g2⟩ := xpN_bound fr a hfa
  have q1 := sigN_113 fr a hfa
  have t1 : sigN fr a < top6 := lt_pwr top6 113 (64 * 6) _ top6.eq_1 (by decide) q1
  have cK := fun neg w hT => roundPack_any tf m (sigN fr a) (xpN fr a) neg false w hT ht hm t1
  have hP : ∀ neg, neg = belowN4 (clsN fr a) → packN tf m neg (sigN fr a) (xpN fr a) false = ((widenR tf fr m a).1, (widenR tf fr m a).2, 0) := by
    intro neg hneg
    subst hneg
    have hok : packOk tf m (sigN fr a) (xpN fr a) false = true := by
      unfold packOk
      rw [decide_eq_true h4, decide_eq_true h5, decide_eq_true (show -1048576 ≤ xpN fr a by omega), decide_eq_true (show xpN fr a ≤ 1048576 by omega)]; rfl
    have hR : widenR tf fr m a = if sigN fr a = 0 then (zeroN tf (belowN4 (clsN fr a)), 0) else packB tf m (belowN4 (clsN fr a)) (sigN fr a) (xpN fr a) false := by
      unfold widenR
      rw [if_neg h8, if_neg (show ¬ (clsN fr a = 0 ∨ clsN fr a = 7) by omega)]
    rw [hR]
    unfold packN
    rw [if_pos hok]
    by_cases hs : sigN fr a = 0
    · rw [if_pos hs, if_pos hs]
    · rw [if_neg hs, if_neg hs]
  by_cases hb : clsN fr a < 4
  · have := cK true
    rw [hP true (by unfold belowN4; rw [decide_eq_true hb])] at this
    exact widen_fin_t tf fr m a _ _ _ _ w hT h0 h7 h8 (by simp; omega) _ _ _ cU cF cM this
  · have := cK false
    rw [hP false (by unfold belowN4; rw [decide_eq_false hb])] at this
    exact widen_fin_f tf fr m a _ _ _ _ w hT h0 h7 h8 (by simp; omega) _ _ _ cU cF cM this
theorem widenFits_t (tf fr a r c : Nat) (fl er h : Int) (ok b2 : Bool) (w : World) (hT : Tab w) (he : (er == 0) = ok) (hf : (fl == 0) = true) (cC : CT_ 20 #[.int .u8 tf, .int .u8 fr, .int .u8 1, BV a] (.tuple #[BV r, .int .u8 fl, .int .i64 er])) (cL : CT_ 44 #[.int .u8 fr, BV a] (.tuple #[.int .u8 (c : Nat), .int .i64 h])) (cE : ∀ w, Calls Tryz.prog 83 #[.bool ok, .bool (decide ((c : Int) < 8)), .bool false] w fun e w' => e = .returned (.bool b2) ∧ w = w') :
    Calls Tryz.prog 23 #[.int .u8 tf, .int .u8 fr, BV a] w fun e w' => e = .returned (.tuple #[.bool b2, .int .i64 er]) ∧ Below w.heap.size w w' := by
  have H := Own.start w
  have HT := Lib.hid hT
  clear hT
  go_enter Tryz.func23, Tryz.ntmps23
  exact walk6
theorem widenFits_f (tf fr a r c : Nat) (fl er h : Int) (ok b2 : Bool) (w : World) (hT : Tab w) (he : (er == 0) = ok) (hf : (fl == 0) = false) (cC : CT_ 20 #[.int .u8 tf, .int .u8 fr, .int .u8 1, BV a] (.tuple #[BV r, .int .u8 fl, .int .i64 er])) (cL : CT_ 44 #[.int .u8 fr, BV a] (.tuple #[.int .u8 (c : Nat), .int .i64 h])) (cE : ∀ w, Calls Tryz.prog 83 #[.bool ok, .bool false, .bool false] w fun e w' => e = .returned (.bool b2) ∧ w = w') :
    Calls Tryz.prog 23 #[.int .u8 tf, .int .u8 fr, BV a] w fun e w' => e = .returned (.tuple #[.bool b2, .int .i64 er]) ∧ Below w.heap.size w w' := by
  have H := Own.start w
  have HT := Lib.hid hT
  clear hT
  go_enter Tryz.func23, Tryz.ntmps23
  exact walk6
def fitsN (tf fr a : Nat) : Bool := widenOk tf fr 1 a && (decide ((widenR tf fr 1 a).2 = 0) && decide (clsN fr a < 8))
theorem widenFits_any (tf fr a : Nat) (w : World) (ht : tf < 256) (hf : fr < 256) (ha : a < 2 ^ (64 * 2)) (hT : Tab w) :
    Calls Tryz.prog 23 #[.int .u8 tf, .int .u8 fr, BV a] w fun e w' => e = .returned (.tuple #[.bool (fitsN tf fr a), .int .i64 (cond (widenOk tf fr 1 a) 0 2)]) ∧ Below w.heap.size w w' := by
  have cC := fun w hT => widenConvert_any tf fr 1 a w ht (by decide) ha hT
  have cL := fun w hT => kindClass_any fr a w hf ha hT
  have hlt : ∀ c : Nat, decide ((c : Int) < 8) = decide (c < 8) := by intro c; rw [Bool.eq_iff_iff, decide_eq_true_iff, decide_eq_true_iff]; omega
  cases hok : widenOk tf fr 1 a
  · have hN : widenN tf fr 1 a = (0, 0, 2) := by unfold widenN; rw [hok]; rfl
    rw [hN] at cC
    unfold fitsN
    rw [hok]
    exact widenFits_t tf fr a _ _ _ _ _ false _ w hT rfl rfl cC cL (fun w => eitherbool_f _ _ w)
  · have hN : widenN tf fr 1 a = ((widenR tf fr 1 a).1, (widenR tf fr 1 a).2, 0) := by unfold widenN; rw [hok]; rfl
    rw [hN] at cC
    have hfa : fitsB fr a = true := by unfold widenOk at hok; simp only [Bool.and_eq_true] at hok; exact hok.1
    rw [hfa] at cL
    unfold fitsN
    rw [hok]
    by_cases h0 : (widenR tf fr 1 a).2 = 0
    · rw [decide_eq_true h0]
      have hb : ((((widenR tf fr 1 a).2 : Nat) : Int) == 0) = true := int_eq_true _ 0 h0
      refine widenFits_t tf fr a _ _ _ _ _ true _ w hT rfl hb cC cL (fun w => ?_)
      rw [hlt]
      exact eitherbool_t _ _ w
    · rw [decide_eq_false h0]
      have hb : ((((widenR tf fr 1 a).2 : Nat) : Int) == 0) = false := int_eq_false _ 0 h0
      exact widenFits_f tf fr a _ _ _ _ _ true _ w hT rfl hb cC cL (fun w => eitherbool_t _ _ w)
open Go.RowKit Go.Proofs.YtecdpjhifmlahaaGreatDoorW.PrintWords Go.Proofs.YtecdpjhifmlahaaGreatDoor.PDivQuotients
theorem r18Conv_r (tf fr m a z : Nat) (fl : Int) (na sa : Bool) (n1 d1 : ByteArray) (e1 er : Int) (w : World) (cG : CK_ 62 #[.int .u8 tf] (.bool false))  :
    Calls Tryz.prog 21 #[.int .u8 tf, .int .u8 fr, .int .u8 m, BV a] w fun e w' => e = .returned (.tuple #[BV 0, .int .u8 0, .int .i64 2]) ∧ Below w.heap.size w w' := by
  have H := Own.start w
  go_enter Tryz.func21, Tryz.ntmps21
  exact walk6
theorem r18Conv_t (tf fr m a z : Nat) (fl : Int) (na sa : Bool) (n1 d1 : ByteArray) (e1 er : Int) (w : World) (cG : CK_ 62 #[.int .u8 tf] (.bool true)) (cT : CK_ 48 #[.int .u8 fr, BV a] (.bool false))  :
    Calls Tryz.prog 21 #[.int .u8 tf, .int .u8 fr, .int .u8 m, BV a] w fun e w' => e = .returned (.tuple #[BV 0, .int .u8 0, .int .i64 2]) ∧ Below w.heap.size w w' := by
  have H := Own.start w
  go_enter Tryz.func21, Tryz.ntmps21
  exact walk6
theorem r18Conv_m (tf fr m a z : Nat) (fl : Int) (na sa : Bool) (n1 d1 : ByteArray) (e1 er : Int) (w : World) (cG : CK_ 62 #[.int .u8 tf] (.bool true)) (cT : CK_ 48 #[.int .u8 fr, BV a] (.bool true)) (cM : CK_ 49 #[.int .u8 m] (.bool false))  :
    Calls Tryz.prog 21 #[.int .u8 tf, .int .u8 fr, .int .u8 m, BV a] w fun e w' => e = .returned (.tuple #[BV 0, .int .u8 0, .int .i64 2]) ∧ Below w.heap.size w w' := by
  have H := Own.start w
  go_enter Tryz.func21, Tryz.ntmps21
  exact walk6
theorem r18Conv_s (tf fr m a z : Nat) (fl : Int) (na sa : Bool) (n1 d1 : ByteArray) (e1 er : Int) (w : World) (cG : CK_ 62 #[.int .u8 tf] (.bool true)) (cT : CK_ 48 #[.int .u8 fr, BV a] (.bool true)) (cM : CK_ 49 #[.int .u8 m] (.bool true)) (cNa : CK_ 51 #[.int .u8 fr, BV a] (.bool true)) (cSg : CK_ 77 #[.int .u8 fr, BV a] (.bool true)) (cN : CK_ 78 #[.int .u8 tf] (BV z)) :
    Calls Tryz.prog 21 #[.int .u8 tf, .int .u8 fr, .int .u8 m, BV a] w fun e w' => e = .returned (.tuple #[BV z, .int .u8 16, .int .i64 0]) ∧ Below w.heap.size w w' := by
  have H := Own.start w
  go_enter Tryz.func21, Tryz.ntmps21
  exact walk6
theorem r18Conv_q (tf fr m a z : Nat) (fl : Int) (na sa : Bool) (n1 d1 : ByteArray) (e1 er : Int) (w : World) (cG : CK_ 62 #[.int .u8 tf] (.bool true)) (cT : CK_ 48 #[.int .u8 fr, BV a] (.bool true)) (cM : CK_ 49 #[.int .u8 m] (.bool true)) (cNa : CK_ 51 #[.int .u8 fr, BV a] (.bool true)) (cSg : CK_ 77 #[.int .u8 fr, BV a] (.bool false)) (cN : CK_ 78 #[.int .u8 tf] (BV z)) :
    Calls Tryz.prog 21 #[.int .u8 tf, .int .u8 fr, .int .u8 m, BV a] w fun e w' => e = .returned (.tuple #[BV z, .int .u8 0, .int .i64 0]) ∧ Below w.heap.size w w' := by
  have H := Own.start w
  go_enter Tryz.func21, Tryz.ntmps21
  exact walk6
theorem r18Conv_i (tf fr m a z : Nat) (fl : Int) (na sa : Bool) (n1 d1 : ByteArray) (e1 er : Int) (w : World) (cG : CK_ 62 #[.int .u8 tf] (.bool true)) (cT : CK_ 48 #[.int .u8 fr, BV a] (.bool true)) (cM : CK_ 49 #[.int .u8 m] (.bool true)) (cNa : CK_ 51 #[.int .u8 fr, BV a] (.bool false)) (cSa : CK_ 50 #[.int .u8 fr, BV a] (.bool sa)) (cIa : CK_ 53 #[.int .u8 fr, BV a] (.bool true)) (cI : CK_ 79 #[.int .u8 tf, .bool sa] (BV z)) :
    Calls Tryz.prog 21 #[.int .u8 tf, .int .u8 fr, .int .u8 m, BV a] w fun e w' => e = .returned (.tuple #[BV z, .int .u8 0, .int .i64 0]) ∧ Below w.heap.size w w' := by
  have H := Own.start w
  go_enter Tryz.func21, Tryz.ntmps21
  exact walk6
theorem r18Conv_z (tf fr m a z : Nat) (fl : Int) (na sa : Bool) (n1 d1 : ByteArray) (e1 er : Int) (w : World) (cG : CK_ 62 #[.int .u8 tf] (.bool true)) (cT : CK_ 48 #[.int .u8 fr, BV a] (.bool true)) (cM : CK_ 49 #[.int .u8 m] (.bool true)) (cNa : CK_ 51 #[.int .u8 fr, BV a] (.bool false)) (cSa : CK_ 50 #[.int .u8 fr, BV a] (.bool sa)) (cIa : CK_ 53 #[.int .u8 fr, BV a] (.bool false)) (cZa : CK_ 80 #[.int .u8 fr, BV a] (.bool true)) (cZ : CK_ 81 #[.int .u8 tf, .bool sa] (BV z)) :
    Calls Tryz.prog 21 #[.int .u8 tf, .int .u8 fr, .int .u8 m, BV a] w fun e w' => e = .returned (.tuple #[BV z, .int .u8 0, .int .i64 0]) ∧ Below w.heap.size w w' := by
  have H := Own.start w
  go_enter Tryz.func21, Tryz.ntmps21
  exact walk6
theorem r18Conv_F (tf fr m a z : Nat) (fl : Int) (na sa : Bool) (n1 d1 : ByteArray) (e1 er : Int) (w : World) (cG : CK_ 62 #[.int .u8 tf] (.bool true)) (cT : CK_ 48 #[.int .u8 fr, BV a] (.bool true)) (cM : CK_ 49 #[.int .u8 m] (.bool true)) (cNa : CK_ 51 #[.int .u8 fr, BV a] (.bool false)) (cSa : CK_ 50 #[.int .u8 fr, BV a] (.bool sa)) (cIa : CK_ 53 #[.int .u8 fr, BV a] (.bool false)) (cZa : CK_ 80 #[.int .u8 fr, BV a] (.bool false)) (cVa : CK_ 82 #[.int .u8 fr, BV a] (.tuple #[.agg (exC na n1 d1 e1), .int .i64 0])) (cR : CK_ 64 #[.int .u8 tf, .int .u8 m, .agg (exC na n1 d1 e1)] (.tuple #[BV z, .int .u8 fl, .int .i64 er])) :
    Calls Tryz.prog 21 #[.int .u8 tf, .int .u8 fr, .int .u8 m, BV a] w fun e w' => e = .returned (.tuple #[BV z, .int .u8 fl, .int .i64 er]) ∧ Below w.heap.size w w' := by
  have H := Own.start w
  go_enter Tryz.func21, Tryz.ntmps21
  exact walk6
theorem r18Convert_any (tf fr m a : Nat) (w : World) (ha : a < 2 ^ (64 * 2)) :
    Calls Tryz.prog 21 #[.int .u8 tf, .int .u8 fr, .int .u8 m, BV a] w fun e w' => e = .returned (.tuple #[BV (widenN tf fr m a).1, .int .u8 ((widenN tf fr m a).2.1 : Nat), .int .i64 (widenN tf fr m a).2.2]) ∧ Below w.heap.size w w' := by
  have cG := fun w => r7Right_any tf w
  have cT := fun w => r7Fits_any fr a w ha
  have cM := fun w => r7RightMode_any m w
  have hno : widenOk tf fr m a = false → widenN tf fr m a = (0, 0, 2) := fun h => by unfold widenN; rw [h]; rfl
  by_cases ht : tf < 4
  case neg =>
    rw [decide_eq_false ht] at cG
    rw [hno (by unfold widenOk; rw [decide_eq_false ht]; simp)]
    exact r18Conv_r tf fr m a 0 0 false false ⟨#[]⟩ ⟨#[]⟩ 0 0 w cG
  rw [decide_eq_true ht] at cG
  cases fa : fitsB fr a
  case false =>
    rw [fa] at cT
    rw [hno (by unfold widenOk; rw [fa]; rfl)]
    exact r18Conv_t tf fr m a 0 0 false false ⟨#[]⟩ ⟨#[]⟩ 0 0 w cG cT
  rw [fa] at cT
  by_cases hm : m < 5
  case neg =>
    rw [decide_eq_false hm] at cM
    rw [hno (by unfold widenOk; rw [decide_eq_false hm]; simp)]
    exact r18Conv_m tf fr m a 0 0 false false ⟨#[]⟩ ⟨#[]⟩ 0 0 w cG cT cM
  rw [decide_eq_true hm] at cM
  have hok : widenOk tf fr m a = true := by unfold widenOk; rw [fa, decide_eq_true ht, decide_eq_true hm]; rfl
  have e1 : widenN tf fr m a = ((widenR tf fr m a).1, (widenR tf fr m a).2, 0) := by unfold widenN; rw [hok]; rfl
  rw [e1]
  have hf := ((fits_iff fr a).1 fa).1
  have cNa := fun w => r8IsNaN_any fr a w hf ha
  have cSg := fun w => r8IsSig_any fr a w hf ha
  unfold widenR
  cases h1 : nanB (clsN fr a)
  case true =>
    rw [h1] at cNa
    have h8 : 8 ≤ clsN fr a := by unfold nanB at h1; simpa using h1
    rw [if_pos h8]
    cases hs : decide (clsN fr a = 8)
    · rw [hs] at cSg; exact r18Conv_q tf fr m a _ 0 false false ⟨#[]⟩ ⟨#[]⟩ 0 0 w cG cT cM cNa cSg (fun w => r7NaN_any tf w ht)
    · rw [hs] at cSg; exact r18Conv_s tf fr m a _ 0 false false ⟨#[]⟩ ⟨#[]⟩ 0 0 w cG cT cM cNa cSg (fun w => r7NaN_any tf w ht)
  rw [h1] at cNa
  have n8 : ¬ 8 ≤ clsN fr a := by unfold nanB at h1; simpa using h1
  rw [if_neg n8, below_neg fr a n8]
  have cSa := fun w => r8Sign_any fr a w ha
  simp only [fa, Bool.true_and] at cSa
  have cIa := fun w => r8IsInf_nt fr a w hf ha
  cases i1 : infB (clsN fr a)
  case true =>
    rw [i1] at cIa
    rw [if_pos (infB_cases _ i1)]
    exact r18Conv_i tf fr m a _ 0 false _ ⟨#[]⟩ ⟨#[]⟩ 0 0 w cG cT cM cNa cSa cIa (fun w => r7Inf_any tf _ w ht)
  rw [i1] at cIa
  rw [if_neg (by intro h; unfold infB at i1; rcases h with h | h <;> rw [h] at i1 <;> simp at i1)]
  have cZa := fun w => r8IsZero_nt fr a w hf ha
  cases z1 : zerB (clsN fr a)
  case true =>
    rw [z1] at cZa
    have h0 : sigN fr a = 0 := by
      unfold zerB at z1
      simp only [Bool.or_eq_true, decide_eq_true_iff] at z1
      unfold sigN; rw [if_neg (by omega), if_neg (by omega)]
    rw [if_pos h0]
    exact r18Conv_z tf fr m a _ 0 false _ ⟨#[]⟩ ⟨#[]⟩ 0 0 w cG cT cM cNa cSa cIa cZa (fun w => r7Zero_any tf _ w ht)
  rw [z1] at cZa
  have na := sig_ne fr a fa h1 i1 z1
  rw [if_neg na]
  have cVa := fun w => r8ValueF_any fr a w fa h1 i1 na
  obtain ⟨v1, v2, v3, v4⟩ := oneB fr a fa na
  obtain ⟨-, v5, -⟩ := sO_split fr a na
  have hO : OneF (sO fr a) 1 (xO fr a) := ⟨v1, v5, by decide, Nat.gcd_one_right _, by omega, by decide, by omega, by omega⟩
  have cR := fun w => r9Round_any tf m (negN fr a) _ _ _ w ht hm hO
  rw [show rndX tf m (negN fr a) (sO fr a) 1 (xO fr a) = rndX tf m (negN fr a) (sigN fr a) 1 (xpN fr a) from rnd_odd tf m (negN fr a) (sigN fr a) (xpN fr a) na] at cR
  rw [rnd_whole tf m (negN fr a) (sigN fr a) (xpN fr a) ht na]
  exact r18Conv_F tf fr m a _ _ _ _ _ _ _ _ w cG cT cM cNa cSa cIa cZa cVa cR
theorem r18Fits_r (tf fr a z : Nat) (na x : Bool) (n1 d1 : ByteArray) (e1 : Int) (w : World) (cG : CK_ 62 #[.int .u8 tf] (.bool false))  :
    Calls Tryz.prog 24 #[.int .u8 tf, .int .u8 fr, BV a] w fun e w' => e = .returned (.tuple #[.bool false, .int .i64 2]) ∧ Below w.heap.size w w' := by
  have H := Own.start w
  go_enter Tryz.func24, Tryz.ntmps24
  exact walk6
theorem r18Fits_t (tf fr a z : Nat) (na x : Bool) (n1 d1 : ByteArray) (e1 : Int) (w : World) (cG : CK_ 62 #[.int .u8 tf] (.bool true)) (cT : CK_ 48 #[.int .u8 fr, BV a] (.bool false))  :
    Calls Tryz.prog 24 #[.int .u8 tf, .int .u8 fr, BV a] w fun e w' => e = .returned (.tuple #[.bool false, .int .i64 2]) ∧ Below w.heap.size w w' := by
  have H := Own.start w
  go_enter Tryz.func24, Tryz.ntmps24
  exact walk6
theorem r18Fits_n (tf fr a z : Nat) (na x : Bool) (n1 d1 : ByteArray) (e1 : Int) (w : World) (cG : CK_ 62 #[.int .u8 tf] (.bool true)) (cT : CK_ 48 #[.int .u8 fr, BV a] (.bool true)) (cNa : CK_ 51 #[.int .u8 fr, BV a] (.bool true))  :
    Calls Tryz.prog 24 #[.int .u8 tf, .int .u8 fr, BV a] w fun e w' => e = .returned (.tuple #[.bool false, .int .i64 0]) ∧ Below w.heap.size w w' := by
  have H := Own.start w
  go_enter Tryz.func24, Tryz.ntmps24
  exact walk6
theorem r18Fits_i (tf fr a z : Nat) (na x : Bool) (n1 d1 : ByteArray) (e1 : Int) (w : World) (cG : CK_ 62 #[.int .u8 tf] (.bool true)) (cT : CK_ 48 #[.int .u8 fr, BV a] (.bool true)) (cNa : CK_ 51 #[.int .u8 fr, BV a] (.bool false)) (cIa : CK_ 53 #[.int .u8 fr, BV a] (.bool true))  :
    Calls Tryz.prog 24 #[.int .u8 tf, .int .u8 fr, BV a] w fun e w' => e = .returned (.tuple #[.bool true, .int .i64 0]) ∧ Below w.heap.size w w' := by
  have H := Own.start w
  go_enter Tryz.func24, Tryz.ntmps24
  exact walk6
theorem r18Fits_V (tf fr a z : Nat) (na x : Bool) (n1 d1 : ByteArray) (e1 : Int) (w : World) (cG : CK_ 62 #[.int .u8 tf] (.bool true)) (cT : CK_ 48 #[.int .u8 fr, BV a] (.bool true)) (cNa : CK_ 51 #[.int .u8 fr, BV a] (.bool false)) (cIa : CK_ 53 #[.int .u8 fr, BV a] (.bool false)) (cVa : CK_ 82 #[.int .u8 fr, BV a] (.tuple #[.agg (exC na n1 d1 e1), .int .i64 0])) (cO : CK_ 84 #[.int .u8 tf, .agg (exC na n1 d1 e1)] (.tuple #[BV z, .bool x])) :
    Calls Tryz.prog 24 #[.int .u8 tf, .int .u8 fr, BV a] w fun e w' => e = .returned (.tuple #[.bool x, .int .i64 0]) ∧ Below w.heap.size w w' := by
  have H := Own.start w
  go_enter Tryz.func24, Tryz.ntmps24
  exact walk6
theorem ofR_flags (f m : Nat) (neg : Bool) (n : Nat) (e : Int) (hf : f < 4) (hn : n ≠ 0) (ho : n % 2 = 1) : (ofR f neg n e).isSome = decide ((rndX f m neg n 1 e).2 = 0) := by
  have hd : 0 < 1 := by decide
  rw [rnd_src f m neg n 1 e hd]
  have hT : topX n 1 + e = lenN n - 1 + e := by rw [top_one_den n hn]
  rw [hT]
  have hTop := rat_top n 1 e hn hd
  rw [hT] at hTop
  obtain ⟨T, hE⟩ : ∃ T : Int, (lenN n : Int) - 1 + e = T := ⟨_, rfl⟩
  rw [hE] at hTop ⊢
  have hp : 11 ≤ pF f := (formB f hf).1
  have hA : atN f T = max T (eminI f) - pF f + 1 := rfl
  have hfl : (ratS n 1 e hd).fl (atN f T) = n * 2 ^ (e - atN f T).toNat / (1 * 2 ^ (atN f T - e).toNat) := rfl
  have hex : (ratS n 1 e hd).ex (atN f T) = decide (n * 2 ^ (e - atN f T).toNat % (1 * 2 ^ (atN f T - e).toNat) = 0) := rfl
  unfold ofR deliverR
  rw [hE]
  by_cases h1 : (eF f : Int) < T
  · rw [if_pos h1, if_pos h1]; rfl
  rw [if_neg h1, if_neg h1]
  by_cases h2 : e < atN f T
  · rw [if_pos h2]
    have hx : (ratS n 1 e hd).ex (atN f T) = false := by
      rw [hex, decide_eq_false_iff_not, Nat.one_mul, show (e - atN f T).toNat = 0 by omega, Nat.pow_zero, Nat.mul_one]
      obtain ⟨j, hj⟩ : ∃ j, (atN f T - e).toNat = j + 1 := ⟨(atN f T - e).toNat - 1, by omega⟩
      rw [hj, Nat.pow_succ]
      intro h
      have := Nat.mod_mul_left_mod n (2 ^ j) 2
      rw [h] at this; omega
    have hg : (gridR (ratS n 1 e hd) m neg (atN f T)).2 = false := hx
    rw [hg]
    show false = _
    symm
    rw [decide_eq_false_iff_not]
    repeat' split
    all_goals simp_all
  · rw [if_neg h2]
    have hx : (ratS n 1 e hd).ex (atN f T) = true := by
      rw [hex, decide_eq_true_iff, show (atN f T - e).toNat = 0 by omega, Nat.pow_zero, Nat.mul_one, Nat.mod_one]
    have hg2 : (gridR (ratS n 1 e hd) m neg (atN f T)).2 = true := hx
    have hg1 : (gridR (ratS n 1 e hd) m neg (atN f T)).1 = n * 2 ^ (e - atN f T).toNat := by
      unfold gridR
      rw [hx, upB_exact, hfl, show (atN f T - e).toNat = 0 by omega, Nat.pow_zero, Nat.mul_one, Nat.div_one]; rfl
    have hne : n * 2 ^ (e - atN f T).toNat ≠ 0 := Nat.mul_ne_zero hn (Nat.ne_of_gt (two_pos _))
    have hlen := lenN_mul_pow n (e - atN f T).toNat hn
    rw [hg1, hg2, if_neg hne, if_neg (show ¬ (eF f : Int) < lenN (n * 2 ^ (e - atN f T).toNat) - 1 + atN f T by omega), if_pos rfl]
    split <;> rfl
theorem r18FitsF_any (tf fr a : Nat) (w : World) (ha : a < 2 ^ (64 * 2)) :
    Calls Tryz.prog 24 #[.int .u8 tf, .int .u8 fr, BV a] w fun e w' => e = .returned (.tuple #[.bool (fitsN tf fr a), .int .i64 (cond (widenOk tf fr 1 a) 0 2)]) ∧ Below w.heap.size w w' := by
  have cG := fun w => r7Right_any tf w
  have cT := fun w => r7Fits_any fr a w ha
  have hno : widenOk tf fr 1 a = false → fitsN tf fr a = false := fun h => by unfold fitsN; rw [h]; rfl
  by_cases ht : tf < 4
  case neg =>
    rw [decide_eq_false ht] at cG
    have ho : widenOk tf fr 1 a = false := by unfold widenOk; rw [decide_eq_false ht]; simp
    rw [hno ho, ho]
    exact r18Fits_r tf fr a 0 false false ⟨#[]⟩ ⟨#[]⟩ 0 w cG
  rw [decide_eq_true ht] at cG
  cases fa : fitsB fr a
  case false =>
    rw [fa] at cT
    have ho : widenOk tf fr 1 a = false := by unfold widenOk; rw [fa]; rfl
    rw [hno ho, ho]
    exact r18Fits_t tf fr a 0 false false ⟨#[]⟩ ⟨#[]⟩ 0 w cG cT
  rw [fa] at cT
  have hok : widenOk tf fr 1 a = true := by unfold widenOk; rw [fa, decide_eq_true ht]; rfl
  unfold fitsN
  rw [hok, Bool.true_and]
  have hf := ((fits_iff fr a).1 fa).1
  have cNa := fun w => r8IsNaN_any fr a w hf ha
  cases h1 : nanB (clsN fr a)
  case true =>
    rw [h1] at cNa
    have h8 : 8 ≤ clsN fr a := by unfold nanB at h1; simpa using h1
    rw [decide_eq_false (show ¬ clsN fr a < 8 by omega), Bool.and_false]
    exact r18Fits_n tf fr a 0 false false ⟨#[]⟩ ⟨#[]⟩ 0 w cG cT cNa
  rw [h1] at cNa
  have n8 : ¬ 8 ≤ clsN fr a := by unfold nanB at h1; simpa using h1
  rw [decide_eq_true (show clsN fr a < 8 by omega), Bool.and_true]
  unfold widenR
  rw [if_neg n8, below_neg fr a n8]
  have cIa := fun w => r8IsInf_nt fr a w hf ha
  cases i1 : infB (clsN fr a)
  case true =>
    rw [i1] at cIa
    rw [if_pos (infB_cases _ i1)]
    exact r18Fits_i tf fr a 0 false false ⟨#[]⟩ ⟨#[]⟩ 0 w cG cT cNa cIa
  rw [i1] at cIa
  rw [if_neg (by intro h; unfold infB at i1; rcases h with h | h <;> rw [h] at i1 <;> simp at i1)]
  by_cases h0 : sigN fr a = 0
  · rw [if_pos h0]
    have cVa := fun w => r8Value_any fr a w fa h1 i1
    obtain ⟨k1, k2⟩ := strE_none (numX (sigN fr a) 1) (by unfold numX; rw [if_pos h0])
    exact r18Fits_V tf fr a 0 _ true _ _ _ w cG cT cNa cIa cVa (fun w => r8Of_z tf _ _ _ _ w k1 k2)
  rw [if_neg h0]
  have cVa := fun w => r8ValueF_any fr a w fa h1 i1 h0
  obtain ⟨v1, v2, v3, v4⟩ := oneB fr a fa h0
  obtain ⟨-, v5, -⟩ := sO_split fr a h0
  have cO := fun w => r8Of_any tf (negN fr a) (sO fr a) (xO fr a) w ht v1 (by omega) (by omega) (by omega)
  have hfl := ofR_flags tf 1 (negN fr a) (sO fr a) (xO fr a) ht v1 v5
  rw [show rndX tf 1 (negN fr a) (sO fr a) 1 (xO fr a) = rndX tf 1 (negN fr a) (sigN fr a) 1 (xpN fr a) from rnd_odd tf 1 (negN fr a) (sigN fr a) (xpN fr a) h0] at hfl
  rw [rnd_whole tf 1 (negN fr a) (sigN fr a) (xpN fr a) ht h0, ← hfl]
  exact r18Fits_V tf fr a _ _ _ _ _ _ w cG cT cNa cIa cVa cO
end Go.Proofs.YtecdpjhifmlahaaGreatDoor
