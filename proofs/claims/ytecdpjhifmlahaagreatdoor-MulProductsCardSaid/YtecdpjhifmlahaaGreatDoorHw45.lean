/- Part 45 of what is proved: Rc, Grj. -/
import Derived.Test.YtecdpjhifmlahaaGreatDoorHw7
import Derived.Test.YtecdpjhifmlahaaGreatDoorHw9
import Derived.Test.YtecdpjhifmlahaaGreatDoorHw41
import Derived.Test.YtecdpjhifmlahaaGreatDoorHw42
import Derived.Test.YtecdpjhifmlahaaGreatDoorHw44
set_option linter.unusedSimpArgs false
set_option linter.unusedVariables false
set_option linter.unnecessarySimpa false
set_option maxRecDepth 100000
set_option maxHeartbeats 1600000
namespace Go.Proofs.YtecdpjhifmlahaaGreatDoor
open Go.RowKit Go.Proofs.YtecdpjhifmlahaaGreatDoorW.PrintWords Go.Proofs.YtecdpjhifmlahaaGreatDoor.PDivQuotients
def sO (f a : Nat) : Nat := sigN f a / 2 ^ lowZ (sigN f a)
def xO (f a : Nat) : Int := xpN f a + lowZ (sigN f a)
theorem sO_split (f a : Nat) (na : sigN f a ≠ 0) : sigN f a = sO f a * 2 ^ lowZ (sigN f a) ∧ sO f a % 2 = 1 ∧ sO f a ≠ 0 := low_split _ na
theorem oneB (f a : Nat) (fa : fitsB f a = true) (na : sigN f a ≠ 0) : sO f a ≠ 0 ∧ nb (sO f a) ≤ 15 ∧ lenN (sO f a) ≤ 113 ∧ (-40000 ≤ xO f a ∧ xO f a ≤ 40113) := by
  obtain ⟨s1, s2, s3⟩ := sO_split f a na
  have l1 : lenN (sigN f a) ≤ 113 := (lenN_le _ 113).2 (sigN_113 f a fa)
  have l2 : lenN (sO f a) ≤ lenN (sigN f a) := lenN_div_le _ _
  have z1 := lowZ_lt _ na
  obtain ⟨x1, x2⟩ := xpN_bound f a fa
  exact ⟨s3, by unfold nb; omega, by omega, by unfold xO; omega, by unfold xO; omega⟩
theorem r8ValueF_any (f a : Nat) (w : World) (fa : fitsB f a = true) (h1 : nanB (clsN f a) = false) (i1 : infB (clsN f a) = false) (na : sigN f a ≠ 0) :
    Calls Tryz.prog 82 #[.int .u8 f, BV a] w fun e w' => e = .returned (.tuple #[exV (negN f a) (sO f a) 1 (xO f a), .int .i64 0]) ∧ Below w.heap.size w w' := by
  have h := r8Value_any f a w fa h1 i1
  obtain ⟨e1, e2, e3⟩ := numX_one (sigN f a) na (xpN f a)
  have e4 : negX' (negN f a) (sigN f a) = negN f a := by unfold negX'; rw [if_neg na]
  rw [e1, e2, e3, e4] at h
  exact h
theorem mul_rnd (f m : Nat) (neg : Bool) (a b : Nat) (na : sigN f a ≠ 0) (nb : sigN f b ≠ 0) : rndX f m neg (sO f a * sO f b) (1 * 1) (xO f a + xO f b) = rndX f m neg (sigN f a * sigN f b) 1 (xpN f a + xpN f b) := by
  obtain ⟨a1, a2, a3⟩ := sO_split f a na
  obtain ⟨b1, b2, b3⟩ := sO_split f b nb
  have h := rnd_low f m neg (sO f a * sO f b) 1 (lowZ (sigN f a) + lowZ (sigN f b)) 0 (xpN f a + xpN f b) (Nat.mul_ne_zero a3 b3) (by decide)
  have e1 : sO f a * sO f b * 2 ^ (lowZ (sigN f a) + lowZ (sigN f b)) = sigN f a * sigN f b := by
    rw [Nat.pow_add, Nat.mul_mul_mul_comm, ← a1, ← b1]
  rw [e1, Nat.pow_zero, Nat.one_mul] at h
  rw [h, Nat.one_mul]
  congr 1
  unfold xO; omega
theorem mul_len (x y p q : Nat) (hx : lenN x ≤ p) (hy : lenN y ≤ q) : lenN (x * y) ≤ p + q := by
  refine (lenN_le _ _).2 ?_
  rw [Nat.pow_add]
  exact Nat.mul_lt_mul'' ((lenN_le _ _).1 hx) ((lenN_le _ _).1 hy)
theorem r8IsInf_nt (f b : Nat) (w : World) (hf : f < 4) (hb : b < 2 ^ (64 * 2)) :
    Calls Tryz.prog 53 #[.int .u8 f, BV b] w fun e w' => e = .returned (.bool (infB (clsN f b))) ∧ Below w.heap.size w w' := by
  by_cases hc : clsN f b = 0
  · exact r8IsInf_t f b _ w hc (fun w => r8Class_any f b w hf hb)
  · exact r8IsInf_f f b _ w hc (fun w => r8Class_any f b w hf hb)
theorem r8IsZero_nt (f b : Nat) (w : World) (hf : f < 4) (hb : b < 2 ^ (64 * 2)) :
    Calls Tryz.prog 80 #[.int .u8 f, BV b] w fun e w' => e = .returned (.bool (zerB (clsN f b))) ∧ Below w.heap.size w w' := by
  by_cases hc : clsN f b = 3
  · exact r8IsZero_t f b _ w hc (fun w => r8Class_any f b w hf hb)
  · exact r8IsZero_f f b _ w hc (fun w => r8Class_any f b w hf hb)
open Go.RowKit
theorem odd_lim (n : Nat) : (Go.bits .and .u64 (limb n 0) 1 == 1) = decide (n % 2 = 1) := by
  have h1 : (1 : Int) = limb 1 0 := rfl
  rw [h1, limb_and, show n &&& 1 = n % 2 from Nat.and_one_is_mod n, ← h1]
  unfold limb limbN
  rw [Nat.mul_zero, Nat.pow_zero, Nat.div_one, Nat.mod_eq_of_lt (by omega), Bool.eq_iff_iff, beq_iff_eq, decide_eq_true_iff]
  omega
theorem halfN_in (a n : Nat) : halfN a n = -1 ∨ halfN a n = 0 ∨ halfN a n = 1 := by
  unfold halfN
  split
  · simp
  · split
    · split <;> simp
    · simp
theorem roundGrid_any (m s : Nat) (e at_ : Int) (neg mo : Bool) (w : World) (hT : Tab w) (hm : m < 256) (hs : s < top6) (h1 : -2000000 ≤ e) (h2 : e ≤ 2000000) (h3 : -2000000 ≤ at_) (h4 : at_ ≤ 2000000) (hf : e - at_ ≤ 384) :
    Calls Tryz.prog 157 #[.int .u8 m, RV neg s e mo, .int .i64 at_] w fun e' w' => e' = .returned (.tuple #[W (gridN m neg s e mo at_).1, .bool (gridN m neg s e mo at_).2]) ∧ Below w.heap.size w w' := by
  by_cases hn : at_ ≤ e
  · have cL := fun w => wideLeft_any s (-(at_ - e)) w hs
    have hc : clip (-(at_ - e)) = (e - at_).toNat := by unfold clip; omega
    rw [hc] at cL
    have := roundGrid_up m s _ e at_ (at_ - e) neg mo _ w hT h1 h2 h3 h4 rfl (by omega) cL
    simp only [gridN, if_pos hn]
    exact this
  · have cC := fun w hT => jamCut_any s (at_ - e) w hs hT
    have hin := halfN_in s (at_ - e).toNat
    have cR := fun (half : Int) (hh : half = -1 ∨ half = 0 ∨ half = 1) (ex : Bool) w => roundUp_any m neg (Go.bits .and .u64 (limb (s / 2 ^ (at_ - e).toNat) 0) 1 == 1) half ex w hm hh
    simp only [gridN, if_neg hn]
    cases mo with
    | false =>
      simp only [Bool.false_and, cond_false, Bool.not_false, Bool.and_true]
      have cR' := cR _ hin (decide (s % 2 ^ (at_ - e).toNat = 0))
      rw [← odd_lim]
      cases hu : upB m neg (Go.bits .and .u64 (limb (s / 2 ^ (at_ - e).toNat) 0) 1 == 1) (halfN s (at_ - e).toNat) (decide (s % 2 ^ (at_ - e).toNat = 0)) with
      | true =>
        rw [hu] at cR'
        exact roundGrid_f_t m s _ e at_ (at_ - e) _ neg _ w hT h1 h2 h3 h4 rfl (by omega) cC cR'
      | false =>
        rw [hu] at cR'
        exact roundGrid_f_f m s _ e at_ (at_ - e) _ neg _ w hT h1 h2 h3 h4 rfl (by omega) cC cR'
    | true =>
      simp only [Bool.true_and, Bool.not_true, Bool.and_false]
      rw [← odd_lim]
      by_cases hz : halfN s (at_ - e).toNat = 0
      · have hz' : (halfN s (at_ - e).toNat == 0) = true := by rw [hz]; rfl
        have cR' := cR 1 (by omega) false
        rw [decide_eq_true hz, cond_true]
        cases hu : upB m neg (Go.bits .and .u64 (limb (s / 2 ^ (at_ - e).toNat) 0) 1 == 1) 1 false with
        | true =>
          rw [hu] at cR'
          exact roundGrid_tz_t m s _ e at_ (at_ - e) _ neg _ w hT h1 h2 h3 h4 rfl (by omega) hz' cC cR'
        | false =>
          rw [hu] at cR'
          exact roundGrid_tz_f m s _ e at_ (at_ - e) _ neg _ w hT h1 h2 h3 h4 rfl (by omega) hz' cC cR'
      · have hz' : (halfN s (at_ - e).toNat == 0) = false := by rw [beq_eq_false_iff_ne]; exact hz
        have cR' := cR _ hin false
        rw [decide_eq_false hz, cond_false]
        cases hu : upB m neg (Go.bits .and .u64 (limb (s / 2 ^ (at_ - e).toNat) 0) 1 == 1) (halfN s (at_ - e).toNat) false with
        | true =>
          rw [hu] at cR'
          exact roundGrid_tn_t m s _ e at_ (at_ - e) _ neg _ w hT h1 h2 h3 h4 rfl (by omega) hz' cC cR'
        | false =>
          rw [hu] at cR'
          exact roundGrid_tn_f m s _ e at_ (at_ - e) _ neg _ w hT h1 h2 h3 h4 rfl (by omega) hz' cC cR'
end Go.Proofs.YtecdpjhifmlahaaGreatDoor
