/- Part 40 of what is proved: Dij, Rdv, Lqd, Dor. -/
import Derived.Test.YtecdpjhifmlahaaGreatDoorRows
import Derived.Test.YtecdpjhifmlahaaGreatDoorTie
import Derived.Test.YtecdpjhifmlahaaGreatDoorCards
import Derived.WalkKit
import Derived.ProofKit
import Derived.LaidMore
import Derived.OpenShut
import Derived.Stop.Joined
import Derived.SevenTiedAt
import Derived.Lib.SmallJoins
import Derived.ChangeOld
import Derived.Below
import Derived.Carry
import Derived.Test.YtecdpjhifmlahaaGreatDoorHd1
import Derived.Test.YtecdpjhifmlahaaGreatDoorHd2
import Derived.Test.YtecdpjhifmlahaaGreatDoorHd3
import Derived.Test.YtecdpjhifmlahaaGreatDoorHd5
import Derived.Test.YtecdpjhifmlahaaGreatDoorHd34
import Derived.Test.YtecdpjhifmlahaaGreatDoorHd35
import Derived.Test.YtecdpjhifmlahaaGreatDoorHd37
import Derived.Test.YtecdpjhifmlahaaGreatDoorHd38
import Derived.Test.YtecdpjhifmlahaaGreatDoorHd39
set_option linter.unusedSimpArgs false
set_option linter.unusedVariables false
set_option linter.unnecessarySimpa false
set_option maxRecDepth 100000
set_option maxHeartbeats 1600000
namespace Go.Proofs.YtecdpjhifmlahaaGreatDoor
open Go.RowKit
theorem divOpen_any (f m a b : Nat) (hf : f < 256) (hm : m < 256) (ha : a < 2 ^ (64 * 2)) (hb : b < 2 ^ (64 * 2)) :
    ∃ c1 s1 f1 x1 c2 s2 f2 x2, (binOk f m a b = true → c1 = clsN f a ∧ s1 = sigN f a ∧ x1 = xpN f a ∧ f1 = frN f a ∧ c2 = clsN f b ∧ s2 = sigN f b ∧ x2 = xpN f b ∧ f2 = frN f b) ∧
    ∀ (w : World) (g : Nat), Tab w → Blk 27 w g (cat2 (bc a) (bc b)) → Calls Tryz.prog 107 #[.int .u8 f, .int .u8 m, .slice (some ⟨g, 0, none⟩) 2 2] w fun e w' => e = .returned (.tuple #[.agg (tri c1 s1 x1 f1 c2 s2 x2 f2 0 0 0 0), .bool (binOk f m a b)]) ∧ Below w.heap.size w w' := by
  have cM := fun w => shapeCheckMode_any m w hm
  have cF := fun w => shapeCheck_any f w hf
  by_cases hm5 : m < 5
  case neg =>
    have e : binOk f m a b = false := by unfold binOk; rw [decide_eq_false hm5]; simp
    rw [decide_eq_false hm5] at cM
    rw [e]
    exact ⟨0, 0, 0, 0, 0, 0, 0, 0, (fun h => by cases h), fun w g _ hB => div_open2_mode f m a b w g hB cM⟩
  rw [decide_eq_true hm5] at cM
  by_cases hf4 : f < 4
  case neg =>
    have e : binOk f m a b = false := by unfold binOk; rw [decide_eq_false hf4]; simp
    rw [decide_eq_false hf4] at cF
    rw [e]
    exact ⟨0, 0, 0, 0, 0, 0, 0, 0, (fun h => by cases h), fun w g _ hB => div_open2_form f m a b w g hB cM cF⟩
  rw [decide_eq_true hf4] at cF
  cases ha' : fitsB f a
  · have e : binOk f m a b = false := by unfold binOk; rw [ha']; simp
    rw [e]
    exact ⟨0, 0, 0, 0, 0, 0, 0, 0, (fun h => by cases h), fun w g hT hB => div_open2_no0 f m a b w hT g hB cM cF (fun w _ => kindUnpack_not f a w ha ha')⟩
  cases hb' : fitsB f b
  · have e : binOk f m a b = false := by unfold binOk; rw [hb']; simp
    rw [e]
    exact ⟨_, _, _, _, 0, 0, 0, 0, (fun h => by cases h), fun w g hT hB => div_open2_no1 f m a b w hT g hB cM cF (fun w hT => kindUnpack_yes f a w ha' hT) (fun w _ => kindUnpack_not f b w hb hb')⟩
  have e : binOk f m a b = true := by unfold binOk; rw [ha', hb', decide_eq_true hm5, decide_eq_true hf4]; rfl
  rw [e]
  exact ⟨_, _, _, _, _, _, _, _, fun _ => ⟨rfl, rfl, rfl, rfl, rfl, rfl, rfl, rfl⟩, fun w g hT hB => div_open2_ok f m a b w hT g hB cM cF (fun w hT => kindUnpack_yes f a w ha' hT) (fun w hT => kindUnpack_yes f b w hb' hT)⟩
theorem quo_len (a b n p : Nat) (ha : a ≠ 0) (hb : b ≠ 0) (hn : (p : Int) + 3 + lenN b - lenN a ≤ n) : p + 2 ≤ lenN (a * 2 ^ n / b) := by
  have h1 := lenN_ge a ha
  have h2 := lenN_lt b
  have h3 := lenN_pos a ha
  have hbp := Nat.pos_of_ne_zero hb
  have key : 2 ^ (p + 2 - 1) ≤ a * 2 ^ n / b := by
    rw [Nat.le_div_iff_mul_le hbp]
    have e1 : 2 ^ (p + 2 - 1) * b ≤ 2 ^ (p + 2 - 1) * 2 ^ lenN b := Nat.mul_le_mul_left _ (Nat.le_of_lt h2)
    have e2 : 2 ^ (lenN a - 1) * 2 ^ n ≤ a * 2 ^ n := Nat.mul_le_mul_right _ h1
    rw [← Nat.pow_add] at e1 e2
    exact Nat.le_trans e1 (Nat.le_trans (Nat.pow_le_pow_right (by decide) (by omega)) e2)
  rcases Nat.lt_or_ge (lenN (a * 2 ^ n / b)) (p + 2) with h | h
  · have := (lenN_le (a * 2 ^ n / b) (p + 2 - 1)).1 (by omega)
    omega
  · exact h
theorem quo_lt (a b n k l : Nat) (ha : a < 2 ^ k) (h : k + n ≤ l) : a * 2 ^ n / b < 2 ^ l := by
  have h1 := mul_pow_lt a k n ha
  exact Nat.lt_of_le_of_lt (Nat.div_le_self _ _) (Nat.lt_of_lt_of_le h1 (Nat.pow_le_pow_right (by decide) h))
theorem divDiv_any (f m a b : Nat) (w : World) (hf : f < 256) (hm : m < 256) (ha : a < 2 ^ (64 * 2)) (hb : b < 2 ^ (64 * 2)) (hT : Tab w) :
    Calls Tryz.prog 31 #[.int .u8 f, .int .u8 m, BV a, BV b] w fun e w' => e = .returned (.tuple #[BV (divN f m a b).1, .int .u8 ((divN f m a b).2.1 : Nat), .int .i64 (divN f m a b).2.2]) ∧ Below w.heap.size w w' := by
  obtain ⟨c1, s1, f1, x1, c2, s2, f2, x2, hv, cO⟩ := divOpen_any f m a b hf hm ha hb
  cases hok : binOk f m a b
  · have hN : divN f m a b = (0, 0, 2) := by unfold divN; rw [hok]; rfl
    rw [hok] at cO
    rw [hN]
    exact divDiv_no f m a b _ _ _ _ _ _ _ _ _ _ _ _ w hT cO
  obtain ⟨rfl, rfl, rfl, rfl, rfl, rfl, rfl, rfl⟩ := hv hok
  have hN : divN f m a b = ((divR f m a b).1, (divR f m a b).2, 0) := by unfold divN; rw [hok]; rfl
  rw [hN]
  rw [hok] at cO
  obtain ⟨⟨hf4', hm5'⟩, hfa, hfb⟩ : (decide (f < 4) = true ∧ decide (m < 5) = true) ∧ fitsB f a = true ∧ fitsB f b = true := by unfold binOk at hok; simp only [Bool.and_eq_true] at hok; exact hok
  have hf4 := of_decide_eq_true hf4'
  have hm5 := of_decide_eq_true hm5'
  have cb1 := fun w => div_below (clsN f a) (sigN f a) (frN f a) (xpN f a) w
  have cb2 := fun w => div_below (clsN f b) (sigN f b) (frN f b) (xpN f b) w
  have cn1 := fun w => div_nan (clsN f a) (sigN f a) (frN f a) (xpN f a) w
  have cn2 := fun w => div_nan (clsN f b) (sigN f b) (frN f b) (xpN f b) w
  have cs1 := fun w => divSort_any (clsN f a) (sigN f a) (frN f a) (xpN f a) w
  have cs2 := fun w => divSort_any (clsN f b) (sigN f b) (frN f b) (xpN f b) w
  have cN := fun w => shapeNaN_any f w hf
  have cC := fun w g hB => div_canon f (clsN f a) (sigN f a) (frN f a) (xpN f a) (clsN f b) (sigN f b) (frN f b) (xpN f b) w g hB cN
  have cI := fun w => shapeInf_any f (!(belowN4 (clsN f a) == belowN4 (clsN f b))) w hf
  have cZ := fun w => shapeZero_any f (!(belowN4 (clsN f a) == belowN4 (clsN f b))) w hf
  have hne : (belowN4 (clsN f a) != belowN4 (clsN f b)) = !(belowN4 (clsN f a) == belowN4 (clsN f b)) := rfl
  unfold divR canonR
  rw [hne]
  cases h1 : nanB (clsN f a)
  case true =>
    rw [h1] at cn1
    rw [canon_flag] at cC
    exact divDiv_N1 f m a b _ _ _ _ _ _ _ _ 0 0 0 0 _ _ w hT cO cb1 cb2 cn1 _ _ cC
  rw [h1] at cn1
  cases h2 : nanB (clsN f b)
  case true =>
    rw [h2] at cn2
    rw [canon_flag] at cC
    exact divDiv_N2 f m a b _ _ _ _ _ _ _ _ 0 0 0 0 _ _ w hT cO cb1 cb2 cn1 cn2 _ _ cC
  rw [h2] at cn2
  unfold sortN at cs1 cs2
  cases i1 : infB (clsN f a) <;> cases z1 : zerB (clsN f a) <;> cases i2 : infB (clsN f b) <;> cases z2 : zerB (clsN f b) <;> rw [i1, z1] at cs1 <;> rw [i2, z2] at cs2
  · (
    obtain ⟨g1, g2⟩ := xpN_bound f a hfa
    obtain ⟨g3, g4⟩ := xpN_bound f b hfb
    have qa := sigN_113 f a hfa
    have qb := sigN_113 f b hfb
    have ta := lt_113_6 _ _ (by decide) qa
    have tb := lt_113_6 _ _ (by decide) qb
    have na := sig_ne f a hfa h1 i1 z1
    have nb := sig_ne f b hfb h2 i2 z2
    have la := (lenN_le _ 113).2 qa
    have lb := (lenN_le _ 113).2 qb
    have la0 := lenN_pos _ na
    have hp := pF_113 f
    have hsh : (divSh f a b : Int) = max ((pF f : Int) + 3 + lenN (sigN f b) - lenN (sigN f a)) 0 := by unfold divSh; omega
    have hsn : (max ((pF f : Int) + 3 + lenN (sigN f b) - lenN (sigN f a)) 0).toNat = divSh f a b := rfl
    have hs2 : divSh f a b ≤ 228 := by omega
    have hx := Lib.hid (quo_lt (sigN f a) 1 (divSh f a b) 113 341 qa (by omega))
    have hq := Lib.hid (quo_lt (sigN f a) (sigN f b) (divSh f a b) 113 341 qa (by omega))
    have cD := fun w => quotDigits_any (sigN f a) (sigN f b) (max ((pF f : Int) + 3 + lenN (sigN f b) - lenN (sigN f a)) 0) w (by omega) (by omega) ta tb nb (by rw [hsn]; have := hx.out; rw [Nat.div_one] at this; exact lt_113_6 _ 341 (by decide) this)
    rw [hsn] at cD
    have hln := quo_len (sigN f a) (sigN f b) (divSh f a b) (pF f) na nb (by omega)
    have hq0 : sigN f a * 2 ^ divSh f a b / sigN f b ≠ 0 := by intro h; rw [h, lenN_zero] at hln; omega
    have cK := fun w hT => roundPack_any f m (sigN f a * 2 ^ divSh f a b / sigN f b) (xpN f a - xpN f b - max ((pF f : Int) + 3 + lenN (sigN f b) - lenN (sigN f a)) 0) (!(belowN4 (clsN f a) == belowN4 (clsN f b))) (!decide (sigN f a * 2 ^ divSh f a b % sigN f b = 0)) w hT hf hm (lt_113_6 _ 341 (by decide) hq.out)
    have hE : xpN f a - xpN f b - max ((pF f : Int) + 3 + lenN (sigN f b) - lenN (sigN f a)) 0 = xpN f a - xpN f b - (divSh f a b : Int) := by rw [hsh]
    have hPm : ∀ neg e mo, -1048576 ≤ e → e ≤ 1048576 → packN f m neg (sigN f a * 2 ^ divSh f a b / sigN f b) e mo = ((packB f m neg (sigN f a * 2 ^ divSh f a b / sigN f b) e mo).1, (packB f m neg (sigN f a * 2 ^ divSh f a b / sigN f b) e mo).2, 0) := by
      intro neg e mo e1 e2
      unfold packN packOk
      rw [decide_eq_true hf4, decide_eq_true hm5, decide_eq_true e1, decide_eq_true e2, decide_eq_false (show ¬ lenN (sigN f a * 2 ^ divSh f a b / sigN f b) < pF f + 2 by omega), if_neg hq0]; simp
    rw [hPm _ _ _ (by omega) (by omega)] at cK
    rw [← hE]
    exact divDiv_FF f m a b _ _ _ _ _ _ _ _ 0 0 0 0 _ _ w hT cO cb1 cb2 cn1 cs1 cn2 cs2  g1 g2 g3 g4 (pF f) (lenN (sigN f a)) (lenN (sigN f b)) hp (by omega) (by omega) _ _ _ _ _ (fun w => shapePrecision_any f w hf) (fun w => wideLen_any _ w ta) (fun w => wideLen_any _ w tb) cD cK)
  · exact divDiv_FZ f m a b _ _ _ _ _ _ _ _ 0 0 0 0 _ _ w hT cO cb1 cb2 cn1 cs1 cn2 cs2 _ cI
  · exact divDiv_FI f m a b _ _ _ _ _ _ _ _ 0 0 0 0 _ _ w hT cO cb1 cb2 cn1 cs1 cn2 cs2 _ cZ
  · exact absurd (inf_zer _ i2) (by rw [z2]; decide)
  · exact divDiv_ZF f m a b _ _ _ _ _ _ _ _ 0 0 0 0 _ _ w hT cO cb1 cb2 cn1 cs1 cn2 cs2 _ cZ
  · exact divDiv_ZZ f m a b _ _ _ _ _ _ _ _ 0 0 0 0 _ _ w hT cO cb1 cb2 cn1 cs1 cn2 cs2 _ cN
  · exact divDiv_ZI f m a b _ _ _ _ _ _ _ _ 0 0 0 0 _ _ w hT cO cb1 cb2 cn1 cs1 cn2 cs2 _ cZ
  · exact absurd (inf_zer _ i2) (by rw [z2]; decide)
  · exact divDiv_IF f m a b _ _ _ _ _ _ _ _ 0 0 0 0 _ _ w hT cO cb1 cb2 cn1 cs1 cn2 cs2 _ cI
  · exact divDiv_IZ f m a b _ _ _ _ _ _ _ _ 0 0 0 0 _ _ w hT cO cb1 cb2 cn1 cs1 cn2 cs2 _ cI
  · exact divDiv_II f m a b _ _ _ _ _ _ _ _ 0 0 0 0 _ _ w hT cO cb1 cb2 cn1 cs1 cn2 cs2 _ cN
  · exact absurd (inf_zer _ i2) (by rw [z2]; decide)
  · exact absurd (inf_zer _ i1) (by rw [z1]; decide)
  · exact absurd (inf_zer _ i1) (by rw [z1]; decide)
  · exact absurd (inf_zer _ i1) (by rw [z1]; decide)
  · exact absurd (inf_zer _ i1) (by rw [z1]; decide)
open Go.RowKit Go.Proofs.YtecdpjhifmlahaaGreatDoorW.PrintWords Go.Proofs.YtecdpjhifmlahaaGreatDoor.PDivQuotients
theorem r13Div_no (f m a b z : Nat) (fl : Int) (sa sb na nb nq : Bool) (n1 d1 n2 d2 n3 d3 : ByteArray) (e1 e2 e3 er : Int) (w : World) (cT : ∀ w g, Blk 27 w g (cat2 (bc a) (bc b)) → Calls Tryz.prog 93 #[.int .u8 f, .int .u8 m, .slice (some ⟨g, 0, none⟩) 2 2] w fun e w' => e = .returned (.bool false) ∧ Below w.heap.size w w')  :
    Calls Tryz.prog 32 #[.int .u8 f, .int .u8 m, BV a, BV b] w fun e w' => e = .returned (.tuple #[BV 0, .int .u8 0, .int .i64 2]) ∧ Below w.heap.size w w' := by
  have H := Own.start w
  go_enter Tryz.func32, Tryz.ntmps32
  exact walk1
theorem r13Div_na (f m a b z : Nat) (fl : Int) (sa sb na nb nq : Bool) (n1 d1 n2 d2 n3 d3 : ByteArray) (e1 e2 e3 er : Int) (w : World) (cT : ∀ w g, Blk 27 w g (cat2 (bc a) (bc b)) → Calls Tryz.prog 93 #[.int .u8 f, .int .u8 m, .slice (some ⟨g, 0, none⟩) 2 2] w fun e w' => e = .returned (.bool true) ∧ Below w.heap.size w w') (cNa : CK_ 51 #[.int .u8 f, BV a] (.bool true)) (cC : ∀ w g, Blk 27 w g (cat2 (bc a) (bc b)) → Calls Tryz.prog 94 #[.int .u8 f, .slice (some ⟨g, 0, none⟩) 2 2] w fun e w' => e = .returned (.tuple #[BV z, .int .u8 fl]) ∧ Below w.heap.size w w')  :
    Calls Tryz.prog 32 #[.int .u8 f, .int .u8 m, BV a, BV b] w fun e w' => e = .returned (.tuple #[BV z, .int .u8 fl, .int .i64 0]) ∧ Below w.heap.size w w' := by
  have H := Own.start w
  go_enter Tryz.func32, Tryz.ntmps32
  exact walk1
theorem r13Div_nb (f m a b z : Nat) (fl : Int) (sa sb na nb nq : Bool) (n1 d1 n2 d2 n3 d3 : ByteArray) (e1 e2 e3 er : Int) (w : World) (cT : ∀ w g, Blk 27 w g (cat2 (bc a) (bc b)) → Calls Tryz.prog 93 #[.int .u8 f, .int .u8 m, .slice (some ⟨g, 0, none⟩) 2 2] w fun e w' => e = .returned (.bool true) ∧ Below w.heap.size w w') (cNa : CK_ 51 #[.int .u8 f, BV a] (.bool false)) (cNb : CK_ 51 #[.int .u8 f, BV b] (.bool true)) (cC : ∀ w g, Blk 27 w g (cat2 (bc a) (bc b)) → Calls Tryz.prog 94 #[.int .u8 f, .slice (some ⟨g, 0, none⟩) 2 2] w fun e w' => e = .returned (.tuple #[BV z, .int .u8 fl]) ∧ Below w.heap.size w w')  :
    Calls Tryz.prog 32 #[.int .u8 f, .int .u8 m, BV a, BV b] w fun e w' => e = .returned (.tuple #[BV z, .int .u8 fl, .int .i64 0]) ∧ Below w.heap.size w w' := by
  have H := Own.start w
  go_enter Tryz.func32, Tryz.ntmps32
  exact walk1
theorem r13Div_II (f m a b z : Nat) (fl : Int) (sa sb na nb nq : Bool) (n1 d1 n2 d2 n3 d3 : ByteArray) (e1 e2 e3 er : Int) (w : World) (cT : ∀ w g, Blk 27 w g (cat2 (bc a) (bc b)) → Calls Tryz.prog 93 #[.int .u8 f, .int .u8 m, .slice (some ⟨g, 0, none⟩) 2 2] w fun e w' => e = .returned (.bool true) ∧ Below w.heap.size w w') (cNa : CK_ 51 #[.int .u8 f, BV a] (.bool false)) (cNb : CK_ 51 #[.int .u8 f, BV b] (.bool false)) (cSa : CK_ 50 #[.int .u8 f, BV a] (.bool sa)) (cSb : CK_ 50 #[.int .u8 f, BV b] (.bool sb)) (cIa : CK_ 53 #[.int .u8 f, BV a] (.bool true)) (cIb : CK_ 53 #[.int .u8 f, BV b] (.bool true)) (cZa : CK_ 80 #[.int .u8 f, BV a] (.bool false)) (cZb : CK_ 80 #[.int .u8 f, BV b] (.bool false)) (cN : CK_ 78 #[.int .u8 f] (BV z)) :
    Calls Tryz.prog 32 #[.int .u8 f, .int .u8 m, BV a, BV b] w fun e w' => e = .returned (.tuple #[BV z, .int .u8 16, .int .i64 0]) ∧ Below w.heap.size w w' := by
  have H := Own.start w
  go_enter Tryz.func32, Tryz.ntmps32
  exact walk1
theorem r13Div_IZ (f m a b z : Nat) (fl : Int) (sa sb na nb nq : Bool) (n1 d1 n2 d2 n3 d3 : ByteArray) (e1 e2 e3 er : Int) (w : World) (cT : ∀ w g, Blk 27 w g (cat2 (bc a) (bc b)) → Calls Tryz.prog 93 #[.int .u8 f, .int .u8 m, .slice (some ⟨g, 0, none⟩) 2 2] w fun e w' => e = .returned (.bool true) ∧ Below w.heap.size w w') (cNa : CK_ 51 #[.int .u8 f, BV a] (.bool false)) (cNb : CK_ 51 #[.int .u8 f, BV b] (.bool false)) (cSa : CK_ 50 #[.int .u8 f, BV a] (.bool sa)) (cSb : CK_ 50 #[.int .u8 f, BV b] (.bool sb)) (cIa : CK_ 53 #[.int .u8 f, BV a] (.bool true)) (cIb : CK_ 53 #[.int .u8 f, BV b] (.bool false)) (cZa : CK_ 80 #[.int .u8 f, BV a] (.bool false)) (cZb : CK_ 80 #[.int .u8 f, BV b] (.bool true)) (cI : CK_ 79 #[.int .u8 f, .bool (!(sa == sb))] (BV z)) :
    Calls Tryz.prog 32 #[.int .u8 f, .int .u8 m, BV a, BV b] w fun e w' => e = .returned (.tuple #[BV z, .int .u8 0, .int .i64 0]) ∧ Below w.heap.size w w' := by
  have H := Own.start w
  go_enter Tryz.func32, Tryz.ntmps32
  exact walk1
theorem r13Div_IF (f m a b z : Nat) (fl : Int) (sa sb na nb nq : Bool) (n1 d1 n2 d2 n3 d3 : ByteArray) (e1 e2 e3 er : Int) (w : World) (cT : ∀ w g, Blk 27 w g (cat2 (bc a) (bc b)) → Calls Tryz.prog 93 #[.int .u8 f, .int .u8 m, .slice (some ⟨g, 0, none⟩) 2 2] w fun e w' => e = .returned (.bool true) ∧ Below w.heap.size w w') (cNa : CK_ 51 #[.int .u8 f, BV a] (.bool false)) (cNb : CK_ 51 #[.int .u8 f, BV b] (.bool false)) (cSa : CK_ 50 #[.int .u8 f, BV a] (.bool sa)) (cSb : CK_ 50 #[.int .u8 f, BV b] (.bool sb)) (cIa : CK_ 53 #[.int .u8 f, BV a] (.bool true)) (cIb : CK_ 53 #[.int .u8 f, BV b] (.bool false)) (cZa : CK_ 80 #[.int .u8 f, BV a] (.bool false)) (cZb : CK_ 80 #[.int .u8 f, BV b] (.bool false)) (cI : CK_ 79 #[.int .u8 f, .bool (!(sa == sb))] (BV z)) :
    Calls Tryz.prog 32 #[.int .u8 f, .int .u8 m, BV a, BV b] w fun e w' => e = .returned (.tuple #[BV z, .int .u8 0, .int .i64 0]) ∧ Below w.heap.size w w' := by
  have H := Own.start w
  go_enter Tryz.func32, Tryz.ntmps32
  exact walk1
theorem r13Div_ZI (f m a b z : Nat) (fl : Int) (sa sb na nb nq : Bool) (n1 d1 n2 d2 n3 d3 : ByteArray) (e1 e2 e3 er : Int) (w : World) (cT : ∀ w g, Blk 27 w g (cat2 (bc a) (bc b)) → Calls Tryz.prog 93 #[.int .u8 f, .int .u8 m, .slice (some ⟨g, 0, none⟩) 2 2] w fun e w' => e = .returned (.bool true) ∧ Below w.heap.size w w') (cNa : CK_ 51 #[.int .u8 f, BV a] (.bool false)) (cNb : CK_ 51 #[.int .u8 f, BV b] (.bool false)) (cSa : CK_ 50 #[.int .u8 f, BV a] (.bool sa)) (cSb : CK_ 50 #[.int .u8 f, BV b] (.bool sb)) (cIa : CK_ 53 #[.int .u8 f, BV a] (.bool false)) (cIb : CK_ 53 #[.int .u8 f, BV b] (.bool true)) (cZa : CK_ 80 #[.int .u8 f, BV a] (.bool true)) (cZb : CK_ 80 #[.int .u8 f, BV b] (.bool false)) (cZ : CK_ 81 #[.int .u8 f, .bool (!(sa == sb))] (BV z)) :
    Calls Tryz.prog 32 #[.int .u8 f, .int .u8 m, BV a, BV b] w fun e w' => e = .returned (.tuple #[BV z, .int .u8 0, .int .i64 0]) ∧ Below w.heap.size w w' := by
  have H := Own.start w
  go_enter Tryz.func32, Tryz.ntmps32
  exact walk1
theorem r13Div_ZZ (f m a b z : Nat) (fl : Int) (sa sb na nb nq : Bool) (n1 d1 n2 d2 n3 d3 : ByteArray) (e1 e2 e3 er : Int) (w : World) (cT : ∀ w g, Blk 27 w g (cat2 (bc a) (bc b)) → Calls Tryz.prog 93 #[.int .u8 f, .int .u8 m, .slice (some ⟨g, 0, none⟩) 2 2] w fun e w' => e = .returned (.bool true) ∧ Below w.heap.size w w') (cNa : CK_ 51 #[.int .u8 f, BV a] (.bool false)) (cNb : CK_ 51 #[.int .u8 f, BV b] (.bool false)) (cSa : CK_ 50 #[.int .u8 f, BV a] (.bool sa)) (cSb : CK_ 50 #[.int .u8 f, BV b] (.bool sb)) (cIa : CK_ 53 #[.int .u8 f, BV a] (.bool false)) (cIb : CK_ 53 #[.int .u8 f, BV b] (.bool false)) (cZa : CK_ 80 #[.int .u8 f, BV a] (.bool true)) (cZb : CK_ 80 #[.int .u8 f, BV b] (.bool true)) (cN : CK_ 78 #[.int .u8 f] (BV z)) :
    Calls Tryz.prog 32 #[.int .u8 f, .int .u8 m, BV a, BV b] w fun e w' => e = .returned (.tuple #[BV z, .int .u8 16, .int .i64 0]) ∧ Below w.heap.size w w' := by
  have H := Own.start w
  go_enter Tryz.func32, Tryz.ntmps32
  exact walk1
theorem r13Div_ZF (f m a b z : Nat) (fl : Int) (sa sb na nb nq : Bool) (n1 d1 n2 d2 n3 d3 : ByteArray) (e1 e2 e3 er : Int) (w : World) (cT : ∀ w g, Blk 27 w g (cat2 (bc a) (bc b)) → Calls Tryz.prog 93 #[.int .u8 f, .int .u8 m, .slice (some ⟨g, 0, none⟩) 2 2] w fun e w' => e = .returned (.bool true) ∧ Below w.heap.size w w') (cNa : CK_ 51 #[.int .u8 f, BV a] (.bool false)) (cNb : CK_ 51 #[.int .u8 f, BV b] (.bool false)) (cSa : CK_ 50 #[.int .u8 f, BV a] (.bool sa)) (cSb : CK_ 50 #[.int .u8 f, BV b] (.bool sb)) (cIa : CK_ 53 #[.int .u8 f, BV a] (.bool false)) (cIb : CK_ 53 #[.int .u8 f, BV b] (.bool false)) (cZa : CK_ 80 #[.int .u8 f, BV a] (.bool true)) (cZb : CK_ 80 #[.int .u8 f, BV b] (.bool false)) (cZ : CK_ 81 #[.int .u8 f, .bool (!(sa == sb))] (BV z)) :
    Calls Tryz.prog 32 #[.int .u8 f, .int .u8 m, BV a, BV b] w fun e w' => e = .returned (.tuple #[BV z, .int .u8 0, .int .i64 0]) ∧ Below w.heap.size w w' := by
  have H := Own.start w
  go_enter Tryz.func32, Tryz.ntmps32
  exact walk1
theorem r13Div_FI (f m a b z : Nat) (fl : Int) (sa sb na nb nq : Bool) (n1 d1 n2 d2 n3 d3 : ByteArray) (e1 e2 e3 er : Int) (w : World) (cT : ∀ w g, Blk 27 w g (cat2 (bc a) (bc b)) → Calls Tryz.prog 93 #[.int .u8 f, .int .u8 m, .slice (some ⟨g, 0, none⟩) 2 2] w fun e w' => e = .returned (.bool true) ∧ Below w.heap.size w w') (cNa : CK_ 51 #[.int .u8 f, BV a] (.bool false)) (cNb : CK_ 51 #[.int .u8 f, BV b] (.bool false)) (cSa : CK_ 50 #[.int .u8 f, BV a] (.bool sa)) (cSb : CK_ 50 #[.int .u8 f, BV b] (.bool sb)) (cIa : CK_ 53 #[.int .u8 f, BV a] (.bool false)) (cIb : CK_ 53 #[.int .u8 f, BV b] (.bool true)) (cZa : CK_ 80 #[.int .u8 f, BV a] (.bool false)) (cZb : CK_ 80 #[.int .u8 f, BV b] (.bool false)) (cZ : CK_ 81 #[.int .u8 f, .bool (!(sa == sb))] (BV z)) :
    Calls Tryz.prog 32 #[.int .u8 f, .int .u8 m, BV a, BV b] w fun e w' => e = .returned (.tuple #[BV z, .int .u8 0, .int .i64 0]) ∧ Below w.heap.size w w' := by
  have H := Own.start w
  go_enter Tryz.func32, Tryz.ntmps32
  exact walk1
theorem r13Div_FZ (f m a b z : Nat) (fl : Int) (sa sb na nb nq : Bool) (n1 d1 n2 d2 n3 d3 : ByteArray) (e1 e2 e3 er : Int) (w : World) (cT : ∀ w g, Blk 27 w g (cat2 (bc a) (bc b)) → Calls Tryz.prog 93 #[.int .u8 f, .int .u8 m, .slice (some ⟨g, 0, none⟩) 2 2] w fun e w' => e = .returned (.bool true) ∧ Below w.heap.size w w') (cNa : CK_ 51 #[.int .u8 f, BV a] (.bool false)) (cNb : CK_ 51 #[.int .u8 f, BV b] (.bool false)) (cSa : CK_ 50 #[.int .u8 f, BV a] (.bool sa)) (cSb : CK_ 50 #[.int .u8 f, BV b] (.bool sb)) (cIa : CK_ 53 #[.int .u8 f, BV a] (.bool false)) (cIb : CK_ 53 #[.int .u8 f, BV b] (.bool false)) (cZa : CK_ 80 #[.int .u8 f, BV a] (.bool false)) (cZb : CK_ 80 #[.int .u8 f, BV b] (.bool true)) (cI : CK_ 79 #[.int .u8 f, .bool (!(sa == sb))] (BV z)) :
    Calls Tryz.prog 32 #[.int .u8 f, .int .u8 m, BV a, BV b] w fun e w' => e = .returned (.tuple #[BV z, .int .u8 8, .int .i64 0]) ∧ Below w.heap.size w w' := by
  have H := Own.start w
  go_enter Tryz.func32, Tryz.ntmps32
  exact walk1
theorem r13Div_FF (f m a b z : Nat) (fl : Int) (sa sb na nb nq : Bool) (n1 d1 n2 d2 n3 d3 : ByteArray) (e1 e2 e3 er : Int) (w : World) (cT : ∀ w g, Blk 27 w g (cat2 (bc a) (bc b)) → Calls Tryz.prog 93 #[.int .u8 f, .int .u8 m, .slice (some ⟨g, 0, none⟩) 2 2] w fun e w' => e = .returned (.bool true) ∧ Below w.heap.size w w') (cNa : CK_ 51 #[.int .u8 f, BV a] (.bool false)) (cNb : CK_ 51 #[.int .u8 f, BV b] (.bool false)) (cSa : CK_ 50 #[.int .u8 f, BV a] (.bool sa)) (cSb : CK_ 50 #[.int .u8 f, BV b] (.bool sb)) (cIa : CK_ 53 #[.int .u8 f, BV a] (.bool false)) (cIb : CK_ 53 #[.int .u8 f, BV b] (.bool false)) (cZa : CK_ 80 #[.int .u8 f, BV a] (.bool false)) (cZb : CK_ 80 #[.int .u8 f, BV b] (.bool false)) (cVa : CK_ 82 #[.int .u8 f, BV a] (.tuple #[.agg (exC na n1 d1 e1), .int .i64 0])) (cVb : CK_ 82 #[.int .u8 f, BV b] (.tuple #[.agg (exC nb n2 d2 e2), .int .i64 0])) (cQ : CK_ 113 #[.agg (exC na n1 d1 e1), .agg (exC nb n2 d2 e2)] (.tuple #[.agg (exC nq n3 d3 e3), .int .i64 0])) (cR : CK_ 64 #[.int .u8 f, .int .u8 m, .agg (exC nq n3 d3 e3)] (.tuple #[BV z, .int .u8 fl, .int .i64 er])) :
    Calls Tryz.prog 32 #[.int .u8 f, .int .u8 m, BV a, BV b] w fun e w' => e = .returned (.tuple #[BV z, .int .u8 fl, .int .i64 er]) ∧ Below w.heap.size w w' := by
  have H := Own.start w
  go_enter Tryz.func32, Tryz.ntmps32
  exact walk1
theorem r13Div_any (f m a b : Nat) (w : World) (ha : a < 2 ^ (64 * 2)) (hb : b < 2 ^ (64 * 2)) :
    Calls Tryz.prog 32 #[.int .u8 f, .int .u8 m, BV a, BV b] w fun e w' => e = .returned (.tuple #[BV (divN f m a b).1, .int .u8 ((divN f m a b).2.1 : Nat), .int .i64 (divN f m a b).2.2]) ∧ Below w.heap.size w w' := by
  have cT := fun w g hB => r11Fits2_any f m a b w ha hb g hB
  cases ok : binOk f m a b
  case false =>
    rw [ok] at cT
    have e1 : divN f m a b = (0, 0, 2) := by unfold divN; rw [ok]; rfl
    rw [e1]
    exact r13Div_no f m a b 0 0 false false false false false ⟨#[]⟩ ⟨#[]⟩ ⟨#[]⟩ ⟨#[]⟩ ⟨#[]⟩ ⟨#[]⟩ 0 0 0 0 w cT
  rw [ok] at cT
  have e1 : divN f m a b = ((divR f m a b).1, (divR f m a b).2, 0) := by unfold divN; rw [ok]; rfl
  rw [e1]
  have ok' := ok
  unfold binOk at ok'
  simp only [Bool.and_eq_true, decide_eq_true_iff] at ok'
  obtain ⟨⟨hf, hm⟩, fa, fb⟩ := ok'
  have cNa := fun w => r8IsNaN_any f a w hf ha
  have cNb := fun w => r8IsNaN_any f b w hf hb
  have cC := fun w g hB => r11Canon2 f (nanN f) a b (decide (clsN f a = 8)) (decide (clsN f b = 8)) w g hB (fun w => r7NaN_any f w hf) (fun w => r8IsSig_any f a w hf ha) (fun w => r8IsSig_any f b w hf hb)
  unfold divR
  cases h1 : nanB (clsN f a)
  case true =>
    rw [h1] at cNa
    rw [Bool.true_or, if_pos rfl]
    unfold canonR
    refine (r13Div_na f m a b _ _ false false false false false ⟨#[]⟩ ⟨#[]⟩ ⟨#[]⟩ ⟨#[]⟩ ⟨#[]⟩ ⟨#[]⟩ 0 0 0 0 w cT cNa cC).mono fun e w' h => ⟨h.1.trans ?_, h.2⟩
    cases decide (clsN f a = 8) <;> cases decide (clsN f b = 8) <;> rfl
  rw [h1] at cNa
  cases h2 : nanB (clsN f b)
  case true =>
    rw [h2] at cNb
    rw [Bool.or_true, if_pos rfl]
    unfold canonR
    refine (r13Div_nb f m a b _ _ false false false false false ⟨#[]⟩ ⟨#[]⟩ ⟨#[]⟩ ⟨#[]⟩ ⟨#[]⟩ ⟨#[]⟩ 0 0 0 0 w cT cNa cNb cC).mono fun e w' h => ⟨h.1.trans ?_, h.2⟩
    cases decide (clsN f a = 8) <;> cases decide (clsN f b = 8) <;> rfl
  rw [h2] at cNb
  rw [Bool.or_self, if_neg (by decide)]
  have n8a : ¬ 8 ≤ clsN f a := by unfold nanB at h1; simpa using h1
  have n8b : ¬ 8 ≤ clsN f b := by unfold nanB at h2; simpa using h2
  rw [below_neg f a n8a, below_neg f b n8b]
  have cSa := fun w => r8Sign_any f a w ha
  have cSb := fun w => r8Sign_any f b w hb
  simp only [fa, fb, Bool.true_and] at cSa cSb
  have cIa := fun w => r8IsInf_nt f a w hf ha
  have cIb := fun w => r8IsInf_nt f b w hf hb
  have cZa := fun w => r8IsZero_nt f a w hf ha
  have cZb := fun w => r8IsZero_nt f b w hf hb
  have cN := fun w => r7NaN_any f w hf
  have cI := fun w => r7Inf_any f (!(negN f a == negN f b)) w hf
  have cZ := fun w => r7Zero_any f (!(negN f a == negN f b)) w hf
  have iz1 := inf_zer (clsN f a)
  have iz2 := inf_zer (clsN f b)
  cases i1 : infB (clsN f a) <;> cases z1 : zerB (clsN f a) <;> cases i2 : infB (clsN f b) <;> cases z2 : zerB (clsN f b) <;> rw [i1, z1] at iz1 <;> rw [i2, z2] at iz2 <;> simp only [Bool.and_true, Bool.true_and, Bool.and_false, Bool.false_and, Bool.or_true, Bool.true_or, Bool.or_false, Bool.false_or, Bool.and_self, Bool.or_self, if_true, Bool.false_eq_true, if_false] <;> rw [i1] at cIa <;> rw [z1] at cZa <;> rw [i2] at cIb <;> rw [z2] at cZb
  · have na := sig_ne f a fa h1 i1 z1
    have nz := sig_ne f b fb h2 i2 z2
    have cVa := fun w => r8ValueF_any f a w fa h1 i1 na
    have cVb := fun w => r8ValueF_any f b w fb h2 i2 nz
    obtain ⟨v1, v2, v3, v4⟩ := oneB f a fa na
    obtain ⟨u1, u2, u3, u4⟩ := oneB f b fb nz
    have cQ := fun w => r6Quo_any (negN f a) (negN f b) (sO f a) 1 (sO f b) 1 (xO f a) (xO f b) w v1 u1 (by decide) (by decide) (by omega) (by omega) (by decide) (by decide) (by omega) (by omega) (by omega) (by omega)
    rw [Nat.mul_one, Nat.one_mul] at cQ
    have hO := oneF (sO f a) (sO f b) (xO f a - xO f b) v1 u1 (by omega) (by omega) (by omega) (by omega)
    have cR := fun w => r9Round_any f m (!(negN f a == negN f b)) _ _ _ w hf hm hO
    rw [rnd_same f m _ _ _ _ v1 u1, quo_rnd f m _ a b na nz] at cR
    have hln := quo_len (sigN f a) (sigN f b) (divSh f a b) (pF f) na nz (by unfold divSh; omega)
    have hp := (formB f hf).1
    have key := rnd_digits f m (negN f a != negN f b) (sigN f a) (sigN f b) (xpN f a - xpN f b) (divSh f a b) hf na (Nat.pos_of_ne_zero nz) (by intro h; rw [h] at hln; have h0 : lenN 0 = 0 := (by decide); omega) (Or.inr hln)
    rw [key]
    have hng : negX' (!(negN f a == negN f b)) (sO f a) = (!(negN f a == negN f b)) := by unfold negX'; rw [if_neg v1]
    rw [hng] at cQ
    exact r13Div_FF f m a b _ _ _ _ _ _ _ _ _ _ _ _ _ _ _ _ _ w cT cNa cNb cSa cSb cIa cIb cZa cZb cVa cVb cQ cR
  · exact r13Div_FZ f m a b _ 0 _ _ false false false ⟨#[]⟩ ⟨#[]⟩ ⟨#[]⟩ ⟨#[]⟩ ⟨#[]⟩ ⟨#[]⟩ 0 0 0 0 w cT cNa cNb cSa cSb cIa cIb cZa cZb cI
  · exact r13Div_FI f m a b _ 0 _ _ false false false ⟨#[]⟩ ⟨#[]⟩ ⟨#[]⟩ ⟨#[]⟩ ⟨#[]⟩ ⟨#[]⟩ 0 0 0 0 w cT cNa cNb cSa cSb cIa cIb cZa cZb cZ
  · exact absurd iz2 (by decide)
  · exact r13Div_ZF f m a b _ 0 _ _ false false false ⟨#[]⟩ ⟨#[]⟩ ⟨#[]⟩ ⟨#[]⟩ ⟨#[]⟩ ⟨#[]⟩ 0 0 0 0 w cT cNa cNb cSa cSb cIa cIb cZa cZb cZ
  · exact r13Div_ZZ f m a b _ 0 _ _ false false false ⟨#[]⟩ ⟨#[]⟩ ⟨#[]⟩ ⟨#[]⟩ ⟨#[]⟩ ⟨#[]⟩ 0 0 0 0 w cT cNa cNb cSa cSb cIa cIb cZa cZb cN
  · exact r13Div_ZI f m a b _ 0 _ _ false false false ⟨#[]⟩ ⟨#[]⟩ ⟨#[]⟩ ⟨#[]⟩ ⟨#[]⟩ ⟨#[]⟩ 0 0 0 0 w cT cNa cNb cSa cSb cIa cIb cZa cZb cZ
  · exact absurd iz2 (by decide)
  · exact r13Div_IF f m a b _ 0 _ _ false false false ⟨#[]⟩ ⟨#[]⟩ ⟨#[]⟩ ⟨#[]⟩ ⟨#[]⟩ ⟨#[]⟩ 0 0 0 0 w cT cNa cNb cSa cSb cIa cIb cZa cZb cI
  · exact r13Div_IZ f m a b _ 0 _ _ false false false ⟨#[]⟩ ⟨#[]⟩ ⟨#[]⟩ ⟨#[]⟩ ⟨#[]⟩ ⟨#[]⟩ 0 0 0 0 w cT cNa cNb cSa cSb cIa cIb cZa cZb cI
  · exact r13Div_II f m a b _ 0 _ _ false false false ⟨#[]⟩ ⟨#[]⟩ ⟨#[]⟩ ⟨#[]⟩ ⟨#[]⟩ ⟨#[]⟩ 0 0 0 0 w cT cNa cNb cSa cSb cIa cIb cZa cZb cN
  · exact absurd iz2 (by decide)
  · exact absurd iz1 (by decide)
  · exact absurd iz1 (by decide)
  · exact absurd iz1 (by decide)
  · exact absurd iz1 (by decide)
open Go.RowKit Go.Proofs.YtecdpjhifmlahaaGreatDoorW.PrintWords Go.Proofs.YtecdpjhifmlahaaGreatDoor.PDivQuotients
theorem divQuotients_alive (w : World) (hT : Tab w) (cA : CT_ 31 #[.int .u8 2, .int .u8 0, .agg #[.int .u64 0, .int .u64 17920], .agg #[.int .u64 0, .int .u64 16896]] (.tuple #[.agg #[.int .u64 0, .int .u64 16384], .int .u8 0, .int .i64 0])) :
    Calls Tryz.prog 33 #[] w fun e w' => e = .returned (.bool true) ∧ Below w.heap.size w w' := by
  have H := Own.start w
  have HT := Lib.hid hT
  clear hT
  go_enter Tryz.func33, Tryz.ntmps33
  exact walk3
theorem divQuotients_alive_any (w : World) (hT : Tab w) : Calls Tryz.prog 33 #[] w fun e w' => e = .returned (.bool true) ∧ Below w.heap.size w w' := by
  refine divQuotients_alive w hT fun w hT => ?_
  have := divDiv_any 2 0 17920 16896 w (by decide) (by decide) (by decide) (by decide) hT
  rw [show divN 2 0 17920 16896 = (16384, 0, 0) by decide +kernel] at this
  exact this
set_option maxHeartbeats 3200000 in
theorem divQuotients_w (f m a b x : Nat) (fl e0 : Int) (w : World) (hT : Tab w) (cA : CT_ 31 #[.int .u8 f, .int .u8 m, BV a, BV b] (.tuple #[BV x, .int .u8 fl, .int .i64 e0])) (cR : CK_ 32 #[.int .u8 f, .int .u8 m, BV a, BV b] (.tuple #[BV x, .int .u8 fl, .int .i64 e0]))  :
    Calls Tryz.prog 9 #[.int .u8 f, .int .u8 m, BV a, BV b] w fun e w' => e = .returned (.bool true) ∧ Below w.heap.size w w' := by
  have H := Own.start w
  have HT := Lib.hid hT
  clear hT
  go_enter Tryz.func9, Tryz.ntmps9
  exact walk3
theorem divQuotients_any (f m a b : Nat) (w : World) (hf : f < 256) (hm : m < 256) (ha : a < 2 ^ (64 * 2)) (hb : b < 2 ^ (64 * 2)) (hT : Tab w) :
    Calls Tryz.prog 9 #[.int .u8 f, .int .u8 m, BV a, BV b] w fun e w' => e = .returned (.bool true) ∧ Below w.heap.size w w' :=
  divQuotients_w f m a b _ _ _ w hT (fun w hT => divDiv_any f m a b w hf hm ha hb hT) (fun w => r13Div_any f m a b w ha hb)
open Go.ChangeShapes Go.WideShapes Go.ChangeAt Go.RowKit
theorem own : ownKnob Tryz.prog.godebug = none := by kernel_rfl
theorem laidOut : laidOutB Tryz.prog = true := by kernel_rfl
def laidL : List (String × DataW Unit) := [("math/bits.deBruijn64tab", Rows.laid_math_bits_deBruijn64tab)]
theorem gTab : Tryz.prog.globalNamed "math/bits.deBruijn64tab" = some 0 := by kernel_rfl
theorem tTab : (Tryz.prog.globals[0]?).map (·.type) = some 216 := by kernel_rfl
theorem ren1 : Tryz.lays29_ren.g 1 = 0 := rfl
theorem door_met (os : Os) (args : Array Value) : laidMetH Tryz.prog laidL ((World.doorLaid Tryz.prog 400 os).forCall (fun _ _ => 0) ⟨#[], args, []⟩).memory :=
  laidMetH_of_parts3 (fuel := 8) (laidMet_of_run' 8 (by kernel_rfl) (by kernel_rfl)) (by kernel_rfl) (by kernel_rfl)
theorem datum_map {H : Type} : (Rows.laid_math_bits_deBruijn64tab : DataW H) = .agg (Lib.deBruijn64tab.map fun x => .lit (.int .u8 (x : Nat))) := rfl
theorem tab_len : Lib.deBruijn64tab.length = 64 := by decide
theorem tab_of_laid {W : World} (h : laidMetH Tryz.prog laidL W) : Tab W := by
  rw [MakeChecks.laidMetH_plain _ _ _ (by kernel_rfl)] at h
  obtain ⟨ps, ⟨g0, t0, cs0, f0, p0, q0, hg0, ht0, hv0, hd0, _, _⟩, _, _⟩ := h
  obtain rfl := Option.some.inj (gTab.symm.trans hg0)
  obtain rfl := Option.some.inj (tTab.symm.trans ht0)
  obtain ⟨xs, m1, rfl, hx1, hlen, hn, hel⟩ := DataW.trod_array Tryz.underlying216 hd0
  have c1 : Tryz.prog.cellsOf 5 = 1 := by kernel_rfl
  rw [c1] at hel
  simp only [Prod.mk.injEq, datum_map, DataW.agg.injEq] at hx1
  intro j hj
  rw [ren1]
  have hj64 : j < 64 := by rw [tab_len] at hj; exact hj
  have hcell := World.var?_cell hg0 hv0 j
  rw [hcell]
  have h1 := hel j hj64
  have hxj : xs[j]? = some xs[j] := List.getElem?_eq_getElem (by omega)
  rw [hxj, Nat.mul_one] at h1
  obtain ⟨n, e1, e2, _⟩ := DataW.trod_int Tryz.underlying5 h1
  have hm : (xs.map (·.1))[j]? = some (.lit (.int .u8 n)) := by rw [List.getElem?_map, hxj, e2]; rfl
  rw [← hx1.1, List.getElem?_map, List.getElem?_eq_getElem hj] at hm
  simp only [Option.map_some, Option.some.injEq, DataW.lit.injEq, Lit.int.injEq, true_and] at hm
  have hget : cs0[j]? = some (.int .u8 n) := by
    have h2 : ((cs0.toList.drop j).take 1)[0]? = some (.int .u8 n) := by rw [e1]; rfl
    rw [List.getElem?_take_of_lt (by decide), List.getElem?_drop, Nat.add_zero, Array.getElem?_toList] at h2
    exact h2
  rw [hget, ← hm, List.getD_eq_getElem?_getD, List.getElem?_eq_getElem hj]; rfl
theorem two_words (x y : Nat) (hx : x < 18446744073709551616) (hy : y < 18446744073709551616) : ∃ b : Nat, Value.agg #[.int .u64 (x : Nat), .int .u64 (y : Nat)] = BV b ∧ b < 2 ^ (64 * 2) := by
  refine ⟨x * 18446744073709551616 + y, ?_, by omega⟩
  have h1 : limb (x * 18446744073709551616 + y) 1 = (x : Nat) := by
    show ((limbN (x * 18446744073709551616 + y) 1 : Nat) : Int) = x
    unfold limbN; rw [show 2 ^ (64 * 1) = 18446744073709551616 from rfl]; omega
  have h0 : limb (x * 18446744073709551616 + y) 0 = (y : Nat) := by
    show ((limbN (x * 18446744073709551616 + y) 0 : Nat) : Int) = y
    unfold limbN; rw [show 2 ^ (64 * 0) = 1 from rfl]; omega
  show Value.agg #[_, _] = .agg #[.int .u64 (limb _ 1), .int .u64 (limb _ 0)]
  rw [h1, h0]
theorem bits_cells : Tryz.prog.cellsOf 27 = 2 := by kernel_rfl
/-- An argument of 128 bits is the encoding of a number. -/
theorem open_bits {H : Type} {enc : TypeId × Value → H} {W : World} {r : Reach} {base b0 : Nat} {spare : Nat → Bool} {held : Bool} {v : Value} {d : DataW H} {p : List MemPlace}
    (hv : Value.okWide Tryz.prog W r b0 27 v) (h : DataW.Trod enc Tryz.prog W base spare held 27 v d p) : ∃ b : Nat, v = BV b ∧ b < 2 ^ (64 * 2) := by
  obtain ⟨c0, c1, y0, y1, m, rfl, rfl, rfl, hy0, hy1⟩ := Go.Joins.open_agg2 Tryz.underlying27 (by kernel_rfl) bits_cells hv h
  obtain ⟨x, e0, rfl, wx⟩ := DataW.trod_int Tryz.underlying25 hy0
  obtain ⟨y, e1, rfl, wy⟩ := DataW.trod_int Tryz.underlying25 hy1
  simp at e0 e1
  subst e0 e1
  have bx := bounds_u64 wx
  have bY := bounds_u64 wy
  obtain ⟨x, rfl⟩ := Int.eq_ofNat_of_zero_le bx.1
  obtain ⟨y, rfl⟩ := Int.eq_ofNat_of_zero_le bY.1
  exact two_words x y (by omega) (by omega)
theorem nat_u8 {x : Int} (h : (Lit.int .u8 x).wf = true) : ∃ n : Nat, x = n ∧ n < 256 := by
  have b := bounds_u8 h
  obtain ⟨n, rfl⟩ := Int.eq_ofNat_of_zero_le b.1
  exact ⟨n, rfl, by omega⟩
end Go.Proofs.YtecdpjhifmlahaaGreatDoor
