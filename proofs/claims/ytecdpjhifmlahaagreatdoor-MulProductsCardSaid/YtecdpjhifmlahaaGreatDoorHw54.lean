/- Part 54 of what is proved: Rml, Opm. -/
import Derived.Test.YtecdpjhifmlahaaGreatDoorHw5
import Derived.Test.YtecdpjhifmlahaaGreatDoorHw7
import Derived.Test.YtecdpjhifmlahaaGreatDoorHw10
import Derived.Test.YtecdpjhifmlahaaGreatDoorHw41
import Derived.Test.YtecdpjhifmlahaaGreatDoorHw42
import Derived.Test.YtecdpjhifmlahaaGreatDoorHw44
import Derived.Test.YtecdpjhifmlahaaGreatDoorHw45
set_option linter.unusedSimpArgs false
set_option linter.unusedVariables false
set_option linter.unnecessarySimpa false
set_option maxRecDepth 100000
set_option maxHeartbeats 1600000
namespace Go.Proofs.YtecdpjhifmlahaaGreatDoor
open Go.RowKit Go.Proofs.YtecdpjhifmlahaaGreatDoorW.PrintWords Go.Proofs.YtecdpjhifmlahaaGreatDoor.PDivQuotients
theorem r12Mul_no (f m a b z : Nat) (fl : Int) (sa sb na nb nq : Bool) (n1 d1 n2 d2 n3 d3 : ByteArray) (e1 e2 e3 er : Int) (w : World) (cT : ∀ w g, Blk 27 w g (cat2 (bc a) (bc b)) → Calls Tryz.prog 93 #[.int .u8 f, .int .u8 m, .slice (some ⟨g, 0, none⟩) 2 2] w fun e w' => e = .returned (.bool false) ∧ Below w.heap.size w w')  :
    Calls Tryz.prog 26 #[.int .u8 f, .int .u8 m, BV a, BV b] w fun e w' => e = .returned (.tuple #[BV 0, .int .u8 0, .int .i64 2]) ∧ Below w.heap.size w w' := by
  have H := Own.start w
  go_enter Tryz.func26, Tryz.ntmps26
  exact walk4
theorem r12Mul_na (f m a b z : Nat) (fl : Int) (sa sb na nb nq : Bool) (n1 d1 n2 d2 n3 d3 : ByteArray) (e1 e2 e3 er : Int) (w : World) (cT : ∀ w g, Blk 27 w g (cat2 (bc a) (bc b)) → Calls Tryz.prog 93 #[.int .u8 f, .int .u8 m, .slice (some ⟨g, 0, none⟩) 2 2] w fun e w' => e = .returned (.bool true) ∧ Below w.heap.size w w') (cNa : CK_ 51 #[.int .u8 f, BV a] (.bool true)) (cC : ∀ w g, Blk 27 w g (cat2 (bc a) (bc b)) → Calls Tryz.prog 94 #[.int .u8 f, .slice (some ⟨g, 0, none⟩) 2 2] w fun e w' => e = .returned (.tuple #[BV z, .int .u8 fl]) ∧ Below w.heap.size w w')  :
    Calls Tryz.prog 26 #[.int .u8 f, .int .u8 m, BV a, BV b] w fun e w' => e = .returned (.tuple #[BV z, .int .u8 fl, .int .i64 0]) ∧ Below w.heap.size w w' := by
  have H := Own.start w
  go_enter Tryz.func26, Tryz.ntmps26
  exact walk4
theorem r12Mul_nb (f m a b z : Nat) (fl : Int) (sa sb na nb nq : Bool) (n1 d1 n2 d2 n3 d3 : ByteArray) (e1 e2 e3 er : Int) (w : World) (cT : ∀ w g, Blk 27 w g (cat2 (bc a) (bc b)) → Calls Tryz.prog 93 #[.int .u8 f, .int .u8 m, .slice (some ⟨g, 0, none⟩) 2 2] w fun e w' => e = .returned (.bool true) ∧ Below w.heap.size w w') (cNa : CK_ 51 #[.int .u8 f, BV a] (.bool false)) (cNb : CK_ 51 #[.int .u8 f, BV b] (.bool true)) (cC : ∀ w g, Blk 27 w g (cat2 (bc a) (bc b)) → Calls Tryz.prog 94 #[.int .u8 f, .slice (some ⟨g, 0, none⟩) 2 2] w fun e w' => e = .returned (.tuple #[BV z, .int .u8 fl]) ∧ Below w.heap.size w w')  :
    Calls Tryz.prog 26 #[.int .u8 f, .int .u8 m, BV a, BV b] w fun e w' => e = .returned (.tuple #[BV z, .int .u8 fl, .int .i64 0]) ∧ Below w.heap.size w w' := by
  have H := Own.start w
  go_enter Tryz.func26, Tryz.ntmps26
  exact walk4
theorem r12Mul_II (f m a b z : Nat) (fl : Int) (sa sb na nb nq : Bool) (n1 d1 n2 d2 n3 d3 : ByteArray) (e1 e2 e3 er : Int) (w : World) (cT : ∀ w g, Blk 27 w g (cat2 (bc a) (bc b)) → Calls Tryz.prog 93 #[.int .u8 f, .int .u8 m, .slice (some ⟨g, 0, none⟩) 2 2] w fun e w' => e = .returned (.bool true) ∧ Below w.heap.size w w') (cNa : CK_ 51 #[.int .u8 f, BV a] (.bool false)) (cNb : CK_ 51 #[.int .u8 f, BV b] (.bool false)) (cSa : CK_ 50 #[.int .u8 f, BV a] (.bool sa)) (cSb : CK_ 50 #[.int .u8 f, BV b] (.bool sb)) (cIa : CK_ 53 #[.int .u8 f, BV a] (.bool true)) (cIb : CK_ 53 #[.int .u8 f, BV b] (.bool true)) (cZa : CK_ 80 #[.int .u8 f, BV a] (.bool false)) (cZb : CK_ 80 #[.int .u8 f, BV b] (.bool false)) (cI : CK_ 79 #[.int .u8 f, .bool (!(sa == sb))] (BV z)) :
    Calls Tryz.prog 26 #[.int .u8 f, .int .u8 m, BV a, BV b] w fun e w' => e = .returned (.tuple #[BV z, .int .u8 0, .int .i64 0]) ∧ Below w.heap.size w w' := by
  have H := Own.start w
  go_enter Tryz.func26, Tryz.ntmps26
  exact walk4
theorem r12Mul_IZ (f m a b z : Nat) (fl : Int) (sa sb na nb nq : Bool) (n1 d1 n2 d2 n3 d3 : ByteArray) (e1 e2 e3 er : Int) (w : World) (cT : ∀ w g, Blk 27 w g (cat2 (bc a) (bc b)) → Calls Tryz.prog 93 #[.int .u8 f, .int .u8 m, .slice (some ⟨g, 0, none⟩) 2 2] w fun e w' => e = .returned (.bool true) ∧ Below w.heap.size w w') (cNa : CK_ 51 #[.int .u8 f, BV a] (.bool false)) (cNb : CK_ 51 #[.int .u8 f, BV b] (.bool false)) (cSa : CK_ 50 #[.int .u8 f, BV a] (.bool sa)) (cSb : CK_ 50 #[.int .u8 f, BV b] (.bool sb)) (cIa : CK_ 53 #[.int .u8 f, BV a] (.bool true)) (cIb : CK_ 53 #[.int .u8 f, BV b] (.bool false)) (cZa : CK_ 80 #[.int .u8 f, BV a] (.bool false)) (cZb : CK_ 80 #[.int .u8 f, BV b] (.bool true)) (cN : CK_ 78 #[.int .u8 f] (BV z)) :
    Calls Tryz.prog 26 #[.int .u8 f, .int .u8 m, BV a, BV b] w fun e w' => e = .returned (.tuple #[BV z, .int .u8 16, .int .i64 0]) ∧ Below w.heap.size w w' := by
  have H := Own.start w
  go_enter Tryz.func26, Tryz.ntmps26
  exact walk4
theorem r12Mul_IF (f m a b z : Nat) (fl : Int) (sa sb na nb nq : Bool) (n1 d1 n2 d2 n3 d3 : ByteArray) (e1 e2 e3 er : Int) (w : World) (cT : ∀ w g, Blk 27 w g (cat2 (bc a) (bc b)) → Calls Tryz.prog 93 #[.int .u8 f, .int .u8 m, .slice (some ⟨g, 0, none⟩) 2 2] w fun e w' => e = .returned (.bool true) ∧ Below w.heap.size w w') (cNa : CK_ 51 #[.int .u8 f, BV a] (.bool false)) (cNb : CK_ 51 #[.int .u8 f, BV b] (.bool false)) (cSa : CK_ 50 #[.int .u8 f, BV a] (.bool sa)) (cSb : CK_ 50 #[.int .u8 f, BV b] (.bool sb)) (cIa : CK_ 53 #[.int .u8 f, BV a] (.bool true)) (cIb : CK_ 53 #[.int .u8 f, BV b] (.bool false)) (cZa : CK_ 80 #[.int .u8 f, BV a] (.bool false)) (cZb : CK_ 80 #[.int .u8 f, BV b] (.bool false)) (cI : CK_ 79 #[.int .u8 f, .bool (!(sa == sb))] (BV z)) :
    Calls Tryz.prog 26 #[.int .u8 f, .int .u8 m, BV a, BV b] w fun e w' => e = .returned (.tuple #[BV z, .int .u8 0, .int .i64 0]) ∧ Below w.heap.size w w' := by
  have H := Own.start w
  go_enter Tryz.func26, Tryz.ntmps26
  exact walk4
theorem r12Mul_ZI (f m a b z : Nat) (fl : Int) (sa sb na nb nq : Bool) (n1 d1 n2 d2 n3 d3 : ByteArray) (e1 e2 e3 er : Int) (w : World) (cT : ∀ w g, Blk 27 w g (cat2 (bc a) (bc b)) → Calls Tryz.prog 93 #[.int .u8 f, .int .u8 m, .slice (some ⟨g, 0, none⟩) 2 2] w fun e w' => e = .returned (.bool true) ∧ Below w.heap.size w w') (cNa : CK_ 51 #[.int .u8 f, BV a] (.bool false)) (cNb : CK_ 51 #[.int .u8 f, BV b] (.bool false)) (cSa : CK_ 50 #[.int .u8 f, BV a] (.bool sa)) (cSb : CK_ 50 #[.int .u8 f, BV b] (.bool sb)) (cIa : CK_ 53 #[.int .u8 f, BV a] (.bool false)) (cIb : CK_ 53 #[.int .u8 f, BV b] (.bool true)) (cZa : CK_ 80 #[.int .u8 f, BV a] (.bool true)) (cZb : CK_ 80 #[.int .u8 f, BV b] (.bool false)) (cN : CK_ 78 #[.int .u8 f] (BV z)) :
    Calls Tryz.prog 26 #[.int .u8 f, .int .u8 m, BV a, BV b] w fun e w' => e = .returned (.tuple #[BV z, .int .u8 16, .int .i64 0]) ∧ Below w.heap.size w w' := by
  have H := Own.start w
  go_enter Tryz.func26, Tryz.ntmps26
  exact walk4
theorem r12Mul_ZZ (f m a b z : Nat) (fl : Int) (sa sb na nb nq : Bool) (n1 d1 n2 d2 n3 d3 : ByteArray) (e1 e2 e3 er : Int) (w : World) (cT : ∀ w g, Blk 27 w g (cat2 (bc a) (bc b)) → Calls Tryz.prog 93 #[.int .u8 f, .int .u8 m, .slice (some ⟨g, 0, none⟩) 2 2] w fun e w' => e = .returned (.bool true) ∧ Below w.heap.size w w') (cNa : CK_ 51 #[.int .u8 f, BV a] (.bool false)) (cNb : CK_ 51 #[.int .u8 f, BV b] (.bool false)) (cSa : CK_ 50 #[.int .u8 f, BV a] (.bool sa)) (cSb : CK_ 50 #[.int .u8 f, BV b] (.bool sb)) (cIa : CK_ 53 #[.int .u8 f, BV a] (.bool false)) (cIb : CK_ 53 #[.int .u8 f, BV b] (.bool false)) (cZa : CK_ 80 #[.int .u8 f, BV a] (.bool true)) (cZb : CK_ 80 #[.int .u8 f, BV b] (.bool true)) (cZ : CK_ 81 #[.int .u8 f, .bool (!(sa == sb))] (BV z)) :
    Calls Tryz.prog 26 #[.int .u8 f, .int .u8 m, BV a, BV b] w fun e w' => e = .returned (.tuple #[BV z, .int .u8 0, .int .i64 0]) ∧ Below w.heap.size w w' := by
  have H := Own.start w
  go_enter Tryz.func26, Tryz.ntmps26
  exact walk4
theorem r12Mul_ZF (f m a b z : Nat) (fl : Int) (sa sb na nb nq : Bool) (n1 d1 n2 d2 n3 d3 : ByteArray) (e1 e2 e3 er : Int) (w : World) (cT : ∀ w g, Blk 27 w g (cat2 (bc a) (bc b)) → Calls Tryz.prog 93 #[.int .u8 f, .int .u8 m, .slice (some ⟨g, 0, none⟩) 2 2] w fun e w' => e = .returned (.bool true) ∧ Below w.heap.size w w') (cNa : CK_ 51 #[.int .u8 f, BV a] (.bool false)) (cNb : CK_ 51 #[.int .u8 f, BV b] (.bool false)) (cSa : CK_ 50 #[.int .u8 f, BV a] (.bool sa)) (cSb : CK_ 50 #[.int .u8 f, BV b] (.bool sb)) (cIa : CK_ 53 #[.int .u8 f, BV a] (.bool false)) (cIb : CK_ 53 #[.int .u8 f, BV b] (.bool false)) (cZa : CK_ 80 #[.int .u8 f, BV a] (.bool true)) (cZb : CK_ 80 #[.int .u8 f, BV b] (.bool false)) (cZ : CK_ 81 #[.int .u8 f, .bool (!(sa == sb))] (BV z)) :
    Calls Tryz.prog 26 #[.int .u8 f, .int .u8 m, BV a, BV b] w fun e w' => e = .returned (.tuple #[BV z, .int .u8 0, .int .i64 0]) ∧ Below w.heap.size w w' := by
  have H := Own.start w
  go_enter Tryz.func26, Tryz.ntmps26
  exact walk4
theorem r12Mul_FI (f m a b z : Nat) (fl : Int) (sa sb na nb nq : Bool) (n1 d1 n2 d2 n3 d3 : ByteArray) (e1 e2 e3 er : Int) (w : World) (cT : ∀ w g, Blk 27 w g (cat2 (bc a) (bc b)) → Calls Tryz.prog 93 #[.int .u8 f, .int .u8 m, .slice (some ⟨g, 0, none⟩) 2 2] w fun e w' => e = .returned (.bool true) ∧ Below w.heap.size w w') (cNa : CK_ 51 #[.int .u8 f, BV a] (.bool false)) (cNb : CK_ 51 #[.int .u8 f, BV b] (.bool false)) (cSa : CK_ 50 #[.int .u8 f, BV a] (.bool sa)) (cSb : CK_ 50 #[.int .u8 f, BV b] (.bool sb)) (cIa : CK_ 53 #[.int .u8 f, BV a] (.bool false)) (cIb : CK_ 53 #[.int .u8 f, BV b] (.bool true)) (cZa : CK_ 80 #[.int .u8 f, BV a] (.bool false)) (cZb : CK_ 80 #[.int .u8 f, BV b] (.bool false)) (cI : CK_ 79 #[.int .u8 f, .bool (!(sa == sb))] (BV z)) :
    Calls Tryz.prog 26 #[.int .u8 f, .int .u8 m, BV a, BV b] w fun e w' => e = .returned (.tuple #[BV z, .int .u8 0, .int .i64 0]) ∧ Below w.heap.size w w' := by
  have H := Own.start w
  go_enter Tryz.func26, Tryz.ntmps26
  exact walk4
theorem r12Mul_FZ (f m a b z : Nat) (fl : Int) (sa sb na nb nq : Bool) (n1 d1 n2 d2 n3 d3 : ByteArray) (e1 e2 e3 er : Int) (w : World) (cT : ∀ w g, Blk 27 w g (cat2 (bc a) (bc b)) → Calls Tryz.prog 93 #[.int .u8 f, .int .u8 m, .slice (some ⟨g, 0, none⟩) 2 2] w fun e w' => e = .returned (.bool true) ∧ Below w.heap.size w w') (cNa : CK_ 51 #[.int .u8 f, BV a] (.bool false)) (cNb : CK_ 51 #[.int .u8 f, BV b] (.bool false)) (cSa : CK_ 50 #[.int .u8 f, BV a] (.bool sa)) (cSb : CK_ 50 #[.int .u8 f, BV b] (.bool sb)) (cIa : CK_ 53 #[.int .u8 f, BV a] (.bool false)) (cIb : CK_ 53 #[.int .u8 f, BV b] (.bool false)) (cZa : CK_ 80 #[.int .u8 f, BV a] (.bool false)) (cZb : CK_ 80 #[.int .u8 f, BV b] (.bool true)) (cZ : CK_ 81 #[.int .u8 f, .bool (!(sa == sb))] (BV z)) :
    Calls Tryz.prog 26 #[.int .u8 f, .int .u8 m, BV a, BV b] w fun e w' => e = .returned (.tuple #[BV z, .int .u8 0, .int .i64 0]) ∧ Below w.heap.size w w' := by
  have H := Own.start w
  go_enter Tryz.func26, Tryz.ntmps26
  exact walk4
theorem r12Mul_FF (f m a b z : Nat) (fl : Int) (sa sb na nb nq : Bool) (n1 d1 n2 d2 n3 d3 : ByteArray) (e1 e2 e3 er : Int) (w : World) (cT : ∀ w g, Blk 27 w g (cat2 (bc a) (bc b)) → Calls Tryz.prog 93 #[.int .u8 f, .int .u8 m, .slice (some ⟨g, 0, none⟩) 2 2] w fun e w' => e = .returned (.bool true) ∧ Below w.heap.size w w') (cNa : CK_ 51 #[.int .u8 f, BV a] (.bool false)) (cNb : CK_ 51 #[.int .u8 f, BV b] (.bool false)) (cSa : CK_ 50 #[.int .u8 f, BV a] (.bool sa)) (cSb : CK_ 50 #[.int .u8 f, BV b] (.bool sb)) (cIa : CK_ 53 #[.int .u8 f, BV a] (.bool false)) (cIb : CK_ 53 #[.int .u8 f, BV b] (.bool false)) (cZa : CK_ 80 #[.int .u8 f, BV a] (.bool false)) (cZb : CK_ 80 #[.int .u8 f, BV b] (.bool false)) (cVa : CK_ 82 #[.int .u8 f, BV a] (.tuple #[.agg (exC na n1 d1 e1), .int .i64 0])) (cVb : CK_ 82 #[.int .u8 f, BV b] (.tuple #[.agg (exC nb n2 d2 e2), .int .i64 0])) (cQ : CK_ 95 #[.agg (exC na n1 d1 e1), .agg (exC nb n2 d2 e2)] (.tuple #[.agg (exC nq n3 d3 e3), .int .i64 0])) (cR : CK_ 64 #[.int .u8 f, .int .u8 m, .agg (exC nq n3 d3 e3)] (.tuple #[BV z, .int .u8 fl, .int .i64 er])) :
    Calls Tryz.prog 26 #[.int .u8 f, .int .u8 m, BV a, BV b] w fun e w' => e = .returned (.tuple #[BV z, .int .u8 fl, .int .i64 er]) ∧ Below w.heap.size w w' := by
  have H := Own.start w
  go_enter Tryz.func26, Tryz.ntmps26
  exact walk4
theorem r12Mul_any (f m a b : Nat) (w : World) (ha : a < 2 ^ (64 * 2)) (hb : b < 2 ^ (64 * 2)) :
    Calls Tryz.prog 26 #[.int .u8 f, .int .u8 m, BV a, BV b] w fun e w' => e = .returned (.tuple #[BV (mulN f m a b).1, .int .u8 ((mulN f m a b).2.1 : Nat), .int .i64 (mulN f m a b).2.2]) ∧ Below w.heap.size w w' := by
  have cT := fun w g hB => r11Fits2_any f m a b w ha hb g hB
  cases ok : binOk f m a b
  case false =>
    rw [ok] at cT
    have e1 : mulN f m a b = (0, 0, 2) := by unfold mulN; rw [ok]; rfl
    rw [e1]
    exact r12Mul_no f m a b 0 0 false false false false false ⟨#[]⟩ ⟨#[]⟩ ⟨#[]⟩ ⟨#[]⟩ ⟨#[]⟩ ⟨#[]⟩ 0 0 0 0 w cT
  rw [ok] at cT
  have e1 : mulN f m a b = ((mulR f m a b).1, (mulR f m a b).2, 0) := by unfold mulN; rw [ok]; rfl
  rw [e1]
  have ok' := ok
  unfold binOk at ok'
  simp only [Bool.and_eq_true, decide_eq_true_iff] at ok'
  obtain ⟨⟨hf, hm⟩, fa, fb⟩ := ok'
  have cNa := fun w => r8IsNaN_any f a w hf ha
  have cNb := fun w => r8IsNaN_any f b w hf hb
  have cC := fun w g hB => r11Canon2 f (nanN f) a b (decide (clsN f a = 8)) (decide (clsN f b = 8)) w g hB (fun w => r7NaN_any f w hf) (fun w => r8IsSig_any f a w hf ha) (fun w => r8IsSig_any f b w hf hb)
  unfold mulR
  cases h1 : nanB (clsN f a)
  case true =>
    rw [h1] at cNa
    rw [Bool.true_or, if_pos rfl]
    unfold canonR
    refine (r12Mul_na f m a b _ _ false false false false false ⟨#[]⟩ ⟨#[]⟩ ⟨#[]⟩ ⟨#[]⟩ ⟨#[]⟩ ⟨#[]⟩ 0 0 0 0 w cT cNa cC).mono fun e w' h => ⟨h.1.trans ?_, h.2⟩
    cases decide (clsN f a = 8) <;> cases decide (clsN f b = 8) <;> rfl
  rw [h1] at cNa
  cases h2 : nanB (clsN f b)
  case true =>
    rw [h2] at cNb
    rw [Bool.or_true, if_pos rfl]
    unfold canonR
    refine (r12Mul_nb f m a b _ _ false false false false false ⟨#[]⟩ ⟨#[]⟩ ⟨#[]⟩ ⟨#[]⟩ ⟨#[]⟩ ⟨#[]⟩ 0 0 0 0 w cT cNa cNb cC).mono fun e w' h => ⟨h.1.trans ?_, h.2⟩
    cases decide (clsN f a = 8) <;> cases decide (clsN f b = 8) <;> rfl
  rw [h2] at cNb
  rw [Bool.or_self, if_neg (by decide)]
  have n8a : ¬ 8 ≤ clsN f a := by unfold nanB at h1; simpa using h1
  have n8b : ¬ 8 ≤ clsN f b := by unfold nanB at h2; simpa using h2
  rw [below_neg f a n8a, below_neg f b n8b]
  have cSa := fun w => r8Sign_any f a w ha
  have cSb := fun w => r8Sign_any f b w hb
  simp only [fa, fb, Bool.true_and] at cSa cSb
  have cIa := fun w => r8IsInf_nt f a w hf ha
  have cIb := fun w => r8IsInf_nt f b w hf hb
  have cZa := fun w => r8IsZero_nt f a w hf ha
  have cZb := fun w => r8IsZero_nt f b w hf hb
  have cN := fun w => r7NaN_any f w hf
  have cI := fun w => r7Inf_any f (!(negN f a == negN f b)) w hf
  have cZ := fun w => r7Zero_any f (!(negN f a == negN f b)) w hf
  have iz1 := inf_zer (clsN f a)
  have iz2 := inf_zer (clsN f b)
  cases i1 : infB (clsN f a) <;> cases z1 : zerB (clsN f a) <;> cases i2 : infB (clsN f b) <;> cases z2 : zerB (clsN f b) <;> rw [i1, z1] at iz1 <;> rw [i2, z2] at iz2 <;> simp only [Bool.and_true, Bool.true_and, Bool.and_false, Bool.false_and, Bool.or_true, Bool.true_or, Bool.or_false, Bool.false_or, Bool.and_self, Bool.or_self, if_true, Bool.false_eq_true, if_false] <;> rw [i1] at cIa <;> rw [z1] at cZa <;> rw [i2] at cIb <;> rw [z2] at cZb
  · have na := sig_ne f a fa h1 i1 z1
    have nb := sig_ne f b fb h2 i2 z2
    have cVa := fun w => r8ValueF_any f a w fa h1 i1 na
    have cVb := fun w => r8ValueF_any f b w fb h2 i2 nb
    obtain ⟨v1, v2, v3, v4⟩ := oneB f a fa na
    obtain ⟨u1, u2, u3, u4⟩ := oneB f b fb nb
    have cQ := fun w => r6Mul_any (negN f a) (negN f b) (sO f a) 1 (sO f b) 1 (xO f a) (xO f b) w v1 u1 (by decide) (by decide) (by omega) (by omega) (by decide) (by decide) (by omega) (by omega) (by omega) (by omega)
    have hne := Nat.mul_ne_zero v1 u1
    have hlm := mul_len (sO f a) (sO f b) 113 113 v3 u3
    have hO := oneF (sO f a * sO f b) (1 * 1) (xO f a + xO f b) hne (by decide) (by omega) (by decide) (by omega) (by omega)
    have cR := fun w => r9Round_any f m (!(negN f a == negN f b)) _ _ _ w hf hm hO
    rw [rnd_same f m _ _ _ _ hne (by decide), mul_rnd f m _ a b na nb] at cR
    have key := rnd_whole f m (negN f a != negN f b) (sigN f a * sigN f b) (xpN f a + xpN f b) hf (Nat.mul_ne_zero na nb)
    rw [key]
    have hng : negX' (!(negN f a == negN f b)) (sO f a * sO f b) = (!(negN f a == negN f b)) := by unfold negX'; rw [if_neg hne]
    rw [hng] at cQ
    exact r12Mul_FF f m a b _ _ _ _ _ _ _ _ _ _ _ _ _ _ _ _ _ w cT cNa cNb cSa cSb cIa cIb cZa cZb cVa cVb cQ cR
  · exact r12Mul_FZ f m a b _ 0 _ _ false false false ⟨#[]⟩ ⟨#[]⟩ ⟨#[]⟩ ⟨#[]⟩ ⟨#[]⟩ ⟨#[]⟩ 0 0 0 0 w cT cNa cNb cSa cSb cIa cIb cZa cZb cZ
  · exact r12Mul_FI f m a b _ 0 _ _ false false false ⟨#[]⟩ ⟨#[]⟩ ⟨#[]⟩ ⟨#[]⟩ ⟨#[]⟩ ⟨#[]⟩ 0 0 0 0 w cT cNa cNb cSa cSb cIa cIb cZa cZb cI
  · exact absurd iz2 (by decide)
  · exact r12Mul_ZF f m a b _ 0 _ _ false false false ⟨#[]⟩ ⟨#[]⟩ ⟨#[]⟩ ⟨#[]⟩ ⟨#[]⟩ ⟨#[]⟩ 0 0 0 0 w cT cNa cNb cSa cSb cIa cIb cZa cZb cZ
  · exact r12Mul_ZZ f m a b _ 0 _ _ false false false ⟨#[]⟩ ⟨#[]⟩ ⟨#[]⟩ ⟨#[]⟩ ⟨#[]⟩ ⟨#[]⟩ 0 0 0 0 w cT cNa cNb cSa cSb cIa cIb cZa cZb cZ
  · exact r12Mul_ZI f m a b _ 0 _ _ false false false ⟨#[]⟩ ⟨#[]⟩ ⟨#[]⟩ ⟨#[]⟩ ⟨#[]⟩ ⟨#[]⟩ 0 0 0 0 w cT cNa cNb cSa cSb cIa cIb cZa cZb cN
  · exact absurd iz2 (by decide)
  · exact r12Mul_IF f m a b _ 0 _ _ false false false ⟨#[]⟩ ⟨#[]⟩ ⟨#[]⟩ ⟨#[]⟩ ⟨#[]⟩ ⟨#[]⟩ 0 0 0 0 w cT cNa cNb cSa cSb cIa cIb cZa cZb cI
  · exact r12Mul_IZ f m a b _ 0 _ _ false false false ⟨#[]⟩ ⟨#[]⟩ ⟨#[]⟩ ⟨#[]⟩ ⟨#[]⟩ ⟨#[]⟩ 0 0 0 0 w cT cNa cNb cSa cSb cIa cIb cZa cZb cN
  · exact r12Mul_II f m a b _ 0 _ _ false false false ⟨#[]⟩ ⟨#[]⟩ ⟨#[]⟩ ⟨#[]⟩ ⟨#[]⟩ ⟨#[]⟩ 0 0 0 0 w cT cNa cNb cSa cSb cIa cIb cZa cZb cI
  · exact absurd iz2 (by decide)
  · exact absurd iz1 (by decide)
  · exact absurd iz1 (by decide)
  · exact absurd iz1 (by decide)
  · exact absurd iz1 (by decide)
open Go.RowKit
theorem mul_open2_mode (f m a b : Nat) (w0 : World) (g0 : Nat) (hB : Blk 27 w0 g0 (cat2 (bc a) (bc b))) (cM : ∀ w, Calls Tryz.prog 73 #[.int .u8 m] w fun e w' => e = .returned (.int .i64 2) ∧ w = w') :
    Calls Tryz.prog 85 #[.int .u8 f, .int .u8 m, .slice (some ⟨g0, 0, none⟩) 2 2] w0 fun e w' => e = .returned (.tuple #[.agg (tri 0 0 0 0 0 0 0 0 0 0 0 0), .bool false]) ∧ Below w0.heap.size w0 w' := by
  have H := Own.start w0
  go_enter Tryz.func85, Tryz.ntmps85
  exact walk4
theorem mul_open2_form (f m a b : Nat) (w0 : World) (g0 : Nat) (hB : Blk 27 w0 g0 (cat2 (bc a) (bc b))) (cM : ∀ w, Calls Tryz.prog 73 #[.int .u8 m] w fun e w' => e = .returned (.int .i64 0) ∧ w = w') (cF : ∀ w, Calls Tryz.prog 72 #[.int .u8 f] w fun e w' => e = .returned (.int .i64 2) ∧ w = w') :
    Calls Tryz.prog 85 #[.int .u8 f, .int .u8 m, .slice (some ⟨g0, 0, none⟩) 2 2] w0 fun e w' => e = .returned (.tuple #[.agg (tri 0 0 0 0 0 0 0 0 0 0 0 0), .bool false]) ∧ Below w0.heap.size w0 w' := by
  have H := Own.start w0
  go_enter Tryz.func85, Tryz.ntmps85
  exact walk4
theorem mul_open2_no0 (f m a b : Nat) (w0 : World) (hT : Tab w0) (g0 : Nat) (hB : Blk 27 w0 g0 (cat2 (bc a) (bc b))) (cM : ∀ w, Calls Tryz.prog 73 #[.int .u8 m] w fun e w' => e = .returned (.int .i64 0) ∧ w = w') (cF : ∀ w, Calls Tryz.prog 72 #[.int .u8 f] w fun e w' => e = .returned (.int .i64 0) ∧ w = w') (cUa : CT_ 71 #[.int .u8 f, BV a] (.tuple #[.agg PZ, .int .i64 2])) :
    Calls Tryz.prog 85 #[.int .u8 f, .int .u8 m, .slice (some ⟨g0, 0, none⟩) 2 2] w0 fun e w' => e = .returned (.tuple #[.agg (tri 0 0 0 0 0 0 0 0 0 0 0 0), .bool false]) ∧ Below w0.heap.size w0 w' := by
  have H := Own.start w0
  have HT := Lib.hid hT
  clear hT
  go_enter Tryz.func85, Tryz.ntmps85
  go_wp2_with (first
    | ((with_reducible show wpList _ _ _ (⟨_, .box _ _, _, _, _, _⟩ :: _) _ _); refine H.xb ?_; (intro g w H; simp only [Act.put, q1_, q2_, q3_]))
    | ((with_reducible show wpList _ _ _ (⟨_, .alloc _, _, _, _, _⟩ :: _) _ _); refine H.xa ?_; (intro g w H; simp only [Act.put, q1_, q2_, q3_]))
    | ((with_reducible show wpList _ _ _ (⟨_, .load _ _, _, _, _, _⟩ :: _) _ _); (first | refine H.xl ?_ | refine H.xm ?_); simp only [Act.put, q1_, q2_, q3_])
    | ((with_reducible show wpList _ _ _ (⟨_, .store _ _ _, _, _, _, _⟩ :: _) _ _); (first | refine H.xs ?_ | refine H.xt ?_); (intro w H; simp only [Act.put]))
    | ((with_reducible show wpList _ _ _ (⟨_, .load 27 _, _, _, _, _⟩ :: _) _ _); refine H.ldo rfl rB rfl rfl hB v5_ (by rfl) ?_; simp only [Act.put, q1_, q2_, q3_])
    | (go_at_call 73; ((with_reducible refine (cM _).mono ?_); rintro e w' ⟨rfl, rfl⟩))
    | (go_at_call 72; ((with_reducible refine (cF _).mono ?_); rintro e w' ⟨rfl, rfl⟩))
    | (go_at_call 71; ((with_reducible refine (cUa _ (HT.out.below H.below)).mono ?_); rintro e w ⟨rfl, hb⟩; replace H := H.call hb; clear hb))
    )
  go_loopw [23] (fun i wr => (i = .int .i64 0 ∧ Own w0 wr [(g, 115, (tri 0 0 0 0 0 0 0 0 0 0 0 0))])) (fun i _ => 3 - (intOf i).toNat)
  case atStart => exact ⟨rfl, H⟩
  case round =>
    clear H
    obtain ⟨rfl, H⟩ := hrel
    · go_wp2_with (first
    | ((with_reducible show wpList _ _ _ (⟨_, .box _ _, _, _, _, _⟩ :: _) _ _); refine H.xb ?_; (intro g w H; simp only [Act.put, q1_, q2_, q3_]))
    | ((with_reducible show wpList _ _ _ (⟨_, .alloc _, _, _, _, _⟩ :: _) _ _); refine H.xa ?_; (intro g w H; simp only [Act.put, q1_, q2_, q3_]))
    | ((with_reducible show wpList _ _ _ (⟨_, .load _ _, _, _, _, _⟩ :: _) _ _); (first | refine H.xl ?_ | refine H.xm ?_); simp only [Act.put, q1_, q2_, q3_])
    | ((with_reducible show wpList _ _ _ (⟨_, .store _ _ _, _, _, _, _⟩ :: _) _ _); (first | refine H.xs ?_ | refine H.xt ?_); (intro w H; simp only [Act.put]))
    | ((with_reducible show wpList _ _ _ (⟨_, .load 27 _, _, _, _, _⟩ :: _) _ _); refine H.ldo rfl rB rfl rfl hB v5_ (by rfl) ?_; simp only [Act.put, q1_, q2_, q3_])
    | (go_at_call 73; ((with_reducible refine (cM _).mono ?_); rintro e w' ⟨rfl, rfl⟩))
    | (go_at_call 72; ((with_reducible refine (cF _).mono ?_); rintro e w' ⟨rfl, rfl⟩))
    | (go_at_call 71; ((with_reducible refine (cUa _ (HT.out.below H.below)).mono ?_); rintro e w ⟨rfl, hb⟩; replace H := H.call hb; clear hb))
    )
      all_goals
        refine bodyPost_ret (results_ct rfl rfl (H.res rQ v3_ (ext_tri _ _ _ _ _ _ _ _ _ _ _ _) (by rfl))) rfl ⟨?_, H.below⟩
        rfl
theorem mul_open2_no1 (f m a b : Nat) (w0 : World) (hT : Tab w0) (g0 : Nat) (hB : Blk 27 w0 g0 (cat2 (bc a) (bc b))) (cM : ∀ w, Calls Tryz.prog 73 #[.int .u8 m] w fun e w' => e = .returned (.int .i64 0) ∧ w = w') (cF : ∀ w, Calls Tryz.prog 72 #[.int .u8 f] w fun e w' => e = .returned (.int .i64 0) ∧ w = w') (cUa : CT_ 71 #[.int .u8 f, BV a] (.tuple #[.agg (PT f a), .int .i64 0])) (cUb : CT_ 71 #[.int .u8 f, BV b] (.tuple #[.agg PZ, .int .i64 2])) :
    Calls Tryz.prog 85 #[.int .u8 f, .int .u8 m, .slice (some ⟨g0, 0, none⟩) 2 2] w0 fun e w' => e = .returned (.tuple #[.agg (tri (clsN f a) (sigN f a) (xpN f a) (frN f a) 0 0 0 0 0 0 0 0), .bool false]) ∧ Below w0.heap.size w0 w' := by
  have H := Own.start w0
  have HT := Lib.hid hT
  clear hT
  go_enter Tryz.func85, Tryz.ntmps85
  go_wp2_with (first
    | ((with_reducible show wpList _ _ _ (⟨_, .box _ _, _, _, _, _⟩ :: _) _ _); refine H.xb ?_; (intro g w H; simp only [Act.put, q1_, q2_, q3_]))
    | ((with_reducible show wpList _ _ _ (⟨_, .alloc _, _, _, _, _⟩ :: _) _ _); refine H.xa ?_; (intro g w H; simp only [Act.put, q1_, q2_, q3_]))
    | ((with_reducible show wpList _ _ _ (⟨_, .load _ _, _, _, _, _⟩ :: _) _ _); (first | refine H.xl ?_ | refine H.xm ?_); simp only [Act.put, q1_, q2_, q3_])
    | ((with_reducible show wpList _ _ _ (⟨_, .store _ _ _, _, _, _, _⟩ :: _) _ _); (first | refine H.xs ?_ | refine H.xt ?_); (intro w H; simp only [Act.put]))
    | ((with_reducible show wpList _ _ _ (⟨_, .load 27 _, _, _, _, _⟩ :: _) _ _); refine H.ldo rfl rB rfl rfl hB v5_ (by rfl) ?_; simp only [Act.put, q1_, q2_, q3_])
    | (go_at_call 73; ((with_reducible refine (cM _).mono ?_); rintro e w' ⟨rfl, rfl⟩))
    | (go_at_call 72; ((with_reducible refine (cF _).mono ?_); rintro e w' ⟨rfl, rfl⟩))
    | (go_at_call 71; ((with_reducible refine (cUa _ (HT.out.below H.below)).mono ?_); rintro e w ⟨rfl, hb⟩; replace H := H.call hb; clear hb))
    | (go_at_call 71; ((with_reducible refine (cUb _ (HT.out.below H.below)).mono ?_); rintro e w ⟨rfl, hb⟩; replace H := H.call hb; clear hb))
    )
  go_loopw [23] (fun i wr => (i = .int .i64 0 ∧ Own w0 wr [(g, 115, (tri 0 0 0 0 0 0 0 0 0 0 0 0))]) ∨ (i = .int .i64 1 ∧ Own w0 wr [(g, 115, (tri (clsN f a) (sigN f a) (xpN f a) (frN f a) 0 0 0 0 0 0 0 0))])) (fun i _ => 3 - (intOf i).toNat)
  case atStart => exact Or.inl ⟨rfl, H⟩
  case round =>
    clear H
    rcases hrel with ⟨rfl, H⟩ | ⟨rfl, H⟩
    · go_wp2_with (first
    | ((with_reducible show wpList _ _ _ (⟨_, .box _ _, _, _, _, _⟩ :: _) _ _); refine H.xb ?_; (intro g w H; simp only [Act.put, q1_, q2_, q3_]))
    | ((with_reducible show wpList _ _ _ (⟨_, .alloc _, _, _, _, _⟩ :: _) _ _); refine H.xa ?_; (intro g w H; simp only [Act.put, q1_, q2_, q3_]))
    | ((with_reducible show wpList _ _ _ (⟨_, .load _ _, _, _, _, _⟩ :: _) _ _); (first | refine H.xl ?_ | refine H.xm ?_); simp only [Act.put, q1_, q2_, q3_])
    | ((with_reducible show wpList _ _ _ (⟨_, .store _ _ _, _, _, _, _⟩ :: _) _ _); (first | refine H.xs ?_ | refine H.xt ?_); (intro w H; simp only [Act.put]))
    | ((with_reducible show wpList _ _ _ (⟨_, .load 27 _, _, _, _, _⟩ :: _) _ _); refine H.ldo rfl rB rfl rfl hB v5_ (by rfl) ?_; simp only [Act.put, q1_, q2_, q3_])
    | (go_at_call 73; ((with_reducible refine (cM _).mono ?_); rintro e w' ⟨rfl, rfl⟩))
    | (go_at_call 72; ((with_reducible refine (cF _).mono ?_); rintro e w' ⟨rfl, rfl⟩))
    | (go_at_call 71; ((with_reducible refine (cUa _ (HT.out.below H.below)).mono ?_); rintro e w ⟨rfl, hb⟩; replace H := H.call hb; clear hb))
    | (go_at_call 71; ((with_reducible refine (cUb _ (HT.out.below H.below)).mono ?_); rintro e w ⟨rfl, hb⟩; replace H := H.call hb; clear hb))
    )
      all_goals
        go_roundw
        case rel => exact Or.inr (⟨by go_num, H.sub v6_⟩)
        case measure => simp [intOf]
    · go_wp2_with (first
    | ((with_reducible show wpList _ _ _ (⟨_, .box _ _, _, _, _, _⟩ :: _) _ _); refine H.xb ?_; (intro g w H; simp only [Act.put, q1_, q2_, q3_]))
    | ((with_reducible show wpList _ _ _ (⟨_, .alloc _, _, _, _, _⟩ :: _) _ _); refine H.xa ?_; (intro g w H; simp only [Act.put, q1_, q2_, q3_]))
    | ((with_reducible show wpList _ _ _ (⟨_, .load _ _, _, _, _, _⟩ :: _) _ _); (first | refine H.xl ?_ | refine H.xm ?_); simp only [Act.put, q1_, q2_, q3_])
    | ((with_reducible show wpList _ _ _ (⟨_, .store _ _ _, _, _, _, _⟩ :: _) _ _); (first | refine H.xs ?_ | refine H.xt ?_); (intro w H; simp only [Act.put]))
    | ((with_reducible show wpList _ _ _ (⟨_, .load 27 _, _, _, _, _⟩ :: _) _ _); refine H.ldo rfl rB rfl rfl hB v5_ (by rfl) ?_; simp only [Act.put, q1_, q2_, q3_])
    | (go_at_call 73; ((with_reducible refine (cM _).mono ?_); rintro e w' ⟨rfl, rfl⟩))
    | (go_at_call 72; ((with_reducible refine (cF _).mono ?_); rintro e w' ⟨rfl, rfl⟩))
    | (go_at_call 71; ((with_reducible refine (cUa _ (HT.out.below H.below)).mono ?_); rintro e w ⟨rfl, hb⟩; replace H := H.call hb; clear hb))
    | (go_at_call 71; ((with_reducible refine (cUb _ (HT.out.below H.below)).mono ?_); rintro e w ⟨rfl, hb⟩; replace H := H.call hb; clear hb))
    )
      all_goals
        refine bodyPost_ret (results_ct rfl rfl (H.res rQ v3_ (ext_tri _ _ _ _ _ _ _ _ _ _ _ _) (by rfl))) rfl ⟨?_, H.below⟩
        rfl
theorem mul_open2_ok (f m a b : Nat) (w0 : World) (hT : Tab w0) (g0 : Nat) (hB : Blk 27 w0 g0 (cat2 (bc a) (bc b))) (cM : ∀ w, Calls Tryz.prog 73 #[.int .u8 m] w fun e w' => e = .returned (.int .i64 0) ∧ w = w') (cF : ∀ w, Calls Tryz.prog 72 #[.int .u8 f] w fun e w' => e = .returned (.int .i64 0) ∧ w = w') (cUa : CT_ 71 #[.int .u8 f, BV a] (.tuple #[.agg (PT f a), .int .i64 0])) (cUb : CT_ 71 #[.int .u8 f, BV b] (.tuple #[.agg (PT f b), .int .i64 0])) :
    Calls Tryz.prog 85 #[.int .u8 f, .int .u8 m, .slice (some ⟨g0, 0, none⟩) 2 2] w0 fun e w' => e = .returned (.tuple #[.agg (tri (clsN f a) (sigN f a) (xpN f a) (frN f a) (clsN f b) (sigN f b) (xpN f b) (frN f b) 0 0 0 0), .bool true]) ∧ Below w0.heap.size w0 w' := by
  have H := Own.start w0
  have HT := Lib.hid hT
  clear hT
  go_enter Tryz.func85, Tryz.ntmps85
  go_wp2_with (first
    | ((with_reducible show wpList _ _ _ (⟨_, .box _ _, _, _, _, _⟩ :: _) _ _); refine H.xb ?_; (intro g w H; simp only [Act.put, q1_, q2_, q3_]))
    | ((with_reducible show wpList _ _ _ (⟨_, .alloc _, _, _, _, _⟩ :: _) _ _); refine H.xa ?_; (intro g w H; simp only [Act.put, q1_, q2_, q3_]))
    | ((with_reducible show wpList _ _ _ (⟨_, .load _ _, _, _, _, _⟩ :: _) _ _); (first | refine H.xl ?_ | refine H.xm ?_); simp only [Act.put, q1_, q2_, q3_])
    | ((with_reducible show wpList _ _ _ (⟨_, .store _ _ _, _, _, _, _⟩ :: _) _ _); (first | refine H.xs ?_ | refine H.xt ?_); (intro w H; simp only [Act.put]))
    | ((with_reducible show wpList _ _ _ (⟨_, .load 27 _, _, _, _, _⟩ :: _) _ _); refine H.ldo rfl rB rfl rfl hB v5_ (by rfl) ?_; simp only [Act.put, q1_, q2_, q3_])
    | (go_at_call 73; ((with_reducible refine (cM _).mono ?_); rintro e w' ⟨rfl, rfl⟩))
    | (go_at_call 72; ((with_reducible refine (cF _).mono ?_); rintro e w' ⟨rfl, rfl⟩))
    | (go_at_call 71; ((with_reducible refine (cUa _ (HT.out.below H.below)).mono ?_); rintro e w ⟨rfl, hb⟩; replace H := H.call hb; clear hb))
    | (go_at_call 71; ((with_reducible refine (cUb _ (HT.out.below H.below)).mono ?_); rintro e w ⟨rfl, hb⟩; replace H := H.call hb; clear hb))
    )
  go_loopw [23] (fun i wr => (i = .int .i64 0 ∧ Own w0 wr [(g, 115, (tri 0 0 0 0 0 0 0 0 0 0 0 0))]) ∨ (i = .int .i64 1 ∧ Own w0 wr [(g, 115, (tri (clsN f a) (sigN f a) (xpN f a) (frN f a) 0 0 0 0 0 0 0 0))]) ∨ (i = .int .i64 2 ∧ Own w0 wr [(g, 115, (tri (clsN f a) (sigN f a) (xpN f a) (frN f a) (clsN f b) (sigN f b) (xpN f b) (frN f b) 0 0 0 0))])) (fun i _ => 3 - (intOf i).toNat)
  case atStart => exact Or.inl ⟨rfl, H⟩
  case round =>
    clear H
    rcases hrel with ⟨rfl, H⟩ | ⟨rfl, H⟩ | ⟨rfl, H⟩
    · go_wp2_with (first
    | ((with_reducible show wpList _ _ _ (⟨_, .box _ _, _, _, _, _⟩ :: _) _ _); refine H.xb ?_; (intro g w H; simp only [Act.put, q1_, q2_, q3_]))
    | ((with_reducible show wpList _ _ _ (⟨_, .alloc _, _, _, _, _⟩ :: _) _ _); refine H.xa ?_; (intro g w H; simp only [Act.put, q1_, q2_, q3_]))
    | ((with_reducible show wpList _ _ _ (⟨_, .load _ _, _, _, _, _⟩ :: _) _ _); (first | refine H.xl ?_ | refine H.xm ?_); simp only [Act.put, q1_, q2_, q3_])
    | ((with_reducible show wpList _ _ _ (⟨_, .store _ _ _, _, _, _, _⟩ :: _) _ _); (first | refine H.xs ?_ | refine H.xt ?_); (intro w H; simp only [Act.put]))
    | ((with_reducible show wpList _ _ _ (⟨_, .load 27 _, _, _, _, _⟩ :: _) _ _); refine H.ldo rfl rB rfl rfl hB v5_ (by rfl) ?_; simp only [Act.put, q1_, q2_, q3_])
    | (go_at_call 73; ((with_reducible refine (cM _).mono ?_); rintro e w' ⟨rfl, rfl⟩))
    | (go_at_call 72; ((with_reducible refine (cF _).mono ?_); rintro e w' ⟨rfl, rfl⟩))
    | (go_at_call 71; ((with_reducible refine (cUa _ (HT.out.below H.below)).mono ?_); rintro e w ⟨rfl, hb⟩; replace H := H.call hb; clear hb))
    | (go_at_call 71; ((with_reducible refine (cUb _ (HT.out.below H.below)).mono ?_); rintro e w ⟨rfl, hb⟩; replace H := H.call hb; clear hb))
    )
      all_goals
        go_roundw
        case rel => exact Or.inr (Or.inl ⟨by go_num, H.sub v6_⟩)
        case measure => simp [intOf]
    · go_wp2_with (first
    | ((with_reducible show wpList _ _ _ (⟨_, .box _ _, _, _, _, _⟩ :: _) _ _); refine H.xb ?_; (intro g w H; simp only [Act.put, q1_, q2_, q3_]))
    | ((with_reducible show wpList _ _ _ (⟨_, .alloc _, _, _, _, _⟩ :: _) _ _); refine H.xa ?_; (intro g w H; simp only [Act.put, q1_, q2_, q3_]))
    | ((with_reducible show wpList _ _ _ (⟨_, .load _ _, _, _, _, _⟩ :: _) _ _); (first | refine H.xl ?_ | refine H.xm ?_); simp only [Act.put, q1_, q2_, q3_])
    | ((with_reducible show wpList _ _ _ (⟨_, .store _ _ _, _, _, _, _⟩ :: _) _ _); (first | refine H.xs ?_ | refine H.xt ?_); (intro w H; simp only [Act.put]))
    | ((with_reducible show wpList _ _ _ (⟨_, .load 27 _, _, _, _, _⟩ :: _) _ _); refine H.ldo rfl rB rfl rfl hB v5_ (by rfl) ?_; simp only [Act.put, q1_, q2_, q3_])
    | (go_at_call 73; ((with_reducible refine (cM _).mono ?_); rintro e w' ⟨rfl, rfl⟩))
    | (go_at_call 72; ((with_reducible refine (cF _).mono ?_); rintro e w' ⟨rfl, rfl⟩))
    | (go_at_call 71; ((with_reducible refine (cUa _ (HT.out.below H.below)).mono ?_); rintro e w ⟨rfl, hb⟩; replace H := H.call hb; clear hb))
    | (go_at_call 71; ((with_reducible refine (cUb _ (HT.out.below H.below)).mono ?_); rintro e w ⟨rfl, hb⟩; replace H := H.call hb; clear hb))
    )
      all_goals
        go_roundw
        case rel => exact Or.inr (Or.inr (⟨by go_num, H.sub v6_⟩))
        case measure => simp [intOf]
    · go_wp2_with (first
    | ((with_reducible show wpList _ _ _ (⟨_, .box _ _, _, _, _, _⟩ :: _) _ _); refine H.xb ?_; (intro g w H; simp only [Act.put, q1_, q2_, q3_]))
    | ((with_reducible show wpList _ _ _ (⟨_, .alloc _, _, _, _, _⟩ :: _) _ _); refine H.xa ?_; (intro g w H; simp only [Act.put, q1_, q2_, q3_]))
    | ((with_reducible show wpList _ _ _ (⟨_, .load _ _, _, _, _, _⟩ :: _) _ _); (first | refine H.xl ?_ | refine H.xm ?_); simp only [Act.put, q1_, q2_, q3_])
    | ((with_reducible show wpList _ _ _ (⟨_, .store _ _ _, _, _, _, _⟩ :: _) _ _); (first | refine H.xs ?_ | refine H.xt ?_); (intro w H; simp only [Act.put]))
    | ((with_reducible show wpList _ _ _ (⟨_, .load 27 _, _, _, _, _⟩ :: _) _ _); refine H.ldo rfl rB rfl rfl hB v5_ (by rfl) ?_; simp only [Act.put, q1_, q2_, q3_])
    | (go_at_call 73; ((with_reducible refine (cM _).mono ?_); rintro e w' ⟨rfl, rfl⟩))
    | (go_at_call 72; ((with_reducible refine (cF _).mono ?_); rintro e w' ⟨rfl, rfl⟩))
    | (go_at_call 71; ((with_reducible refine (cUa _ (HT.out.below H.below)).mono ?_); rintro e w ⟨rfl, hb⟩; replace H := H.call hb; clear hb))
    | (go_at_call 71; ((with_reducible refine (cUb _ (HT.out.below H.below)).mono ?_); rintro e w ⟨rfl, hb⟩; replace H := H.call hb; clear hb))
    )
      all_goals
        refine bodyPost_ret (results_ct rfl rfl (H.res rQ v3_ (ext_tri _ _ _ _ _ _ _ _ _ _ _ _) (by rfl))) rfl ⟨?_, H.below⟩
        rfl
theorem mul_canon (f : Nat) (c0 s0 f0 : Nat) (x0 : Int) (c1 s1 f1 : Nat) (x1 : Int) (w0 : World) (g0 : Nat) (hB : Blk 103 w0 g0 (cat2 (parts c0 s0 x0 f0) (parts c1 s1 x1 f1))) (cN : CK_ 74 #[.int .u8 f] (BV (nanN f))) :
    Calls Tryz.prog 88 #[.int .u8 f, .slice (some ⟨g0, 0, none⟩) 2 2] w0 fun e w' => e = .returned (.tuple #[BV (nanN f), .int .u8 (cond (decide (c0 = 8) || decide (c1 = 8)) 16 0), .int .i64 0]) ∧ Below w0.heap.size w0 w' := by
  have H := Own.start w0
  go_enter Tryz.func88, Tryz.ntmps88
  go_wp2_with (first
    | ((with_reducible show wpList _ _ _ (⟨_, .box _ _, _, _, _, _⟩ :: _) _ _); refine H.xb ?_; (intro g w H; simp only [Act.put, q1_, q2_, q3_]))
    | ((with_reducible show wpList _ _ _ (⟨_, .alloc _, _, _, _, _⟩ :: _) _ _); refine H.xa ?_; (intro g w H; simp only [Act.put, q1_, q2_, q3_]))
    | ((with_reducible show wpList _ _ _ (⟨_, .load _ _, _, _, _, _⟩ :: _) _ _); (first | refine H.xl ?_ | refine H.xm ?_); simp only [Act.put, q1_, q2_, q3_])
    | ((with_reducible show wpList _ _ _ (⟨_, .store _ _ _, _, _, _, _⟩ :: _) _ _); (first | refine H.xs ?_ | refine H.xt ?_); (intro w H; simp only [Act.put]))
    | ((with_reducible show wpList _ _ _ (⟨_, .load 103 _, _, _, _, _⟩ :: _) _ _); refine H.ldo rfl rP rfl rfl hB v9_ (by rfl) ?_; simp only [Act.put, q1_, q2_, q3_])
    | (go_at_call 74; ((with_reducible refine (cN _).mono ?_); rintro e w ⟨rfl, hb⟩; replace H := H.call hb; clear hb))
    )
  go_loopw [7, 12] (fun v i wr => (i = .int .i64 0 ∧ v = .int .u8 0 ∧ Own w0 wr [(g, 27, #[.int .u64 0, .int .u64 0])]) ∨ (i = .int .i64 1 ∧ v = .int .u8 (cond (decide (c0 = 8)) 16 0) ∧ Own w0 wr [(g, 27, #[.int .u64 0, .int .u64 0])]) ∨ (i = .int .i64 2 ∧ v = .int .u8 (cond (decide (c0 = 8) || decide (c1 = 8)) 16 0) ∧ Own w0 wr [(g, 27, #[.int .u64 0, .int .u64 0])])) (fun _ i _ => 3 - (intOf i).toNat)
  case atStart => exact Or.inl ⟨rfl, rfl, H⟩
  case round =>
    clear H
    rcases hrel with ⟨rfl, rfl, H⟩ | ⟨rfl, rfl, H⟩ | ⟨rfl, rfl, H⟩
    · by_cases hc : c0 = 8
      · have e1 : ((c0 : Int) == 8) = true := int_eq_true c0 8 hc
        go_wp2_with (first
    | ((with_reducible show wpList _ _ _ (⟨_, .box _ _, _, _, _, _⟩ :: _) _ _); refine H.xb ?_; (intro g w H; simp only [Act.put, q1_, q2_, q3_]))
    | ((with_reducible show wpList _ _ _ (⟨_, .alloc _, _, _, _, _⟩ :: _) _ _); refine H.xa ?_; (intro g w H; simp only [Act.put, q1_, q2_, q3_]))
    | ((with_reducible show wpList _ _ _ (⟨_, .load _ _, _, _, _, _⟩ :: _) _ _); (first | refine H.xl ?_ | refine H.xm ?_); simp only [Act.put, q1_, q2_, q3_])
    | ((with_reducible show wpList _ _ _ (⟨_, .store _ _ _, _, _, _, _⟩ :: _) _ _); (first | refine H.xs ?_ | refine H.xt ?_); (intro w H; simp only [Act.put]))
    | ((with_reducible show wpList _ _ _ (⟨_, .load 103 _, _, _, _, _⟩ :: _) _ _); refine H.ldo rfl rP rfl rfl hB v9_ (by rfl) ?_; simp only [Act.put, q1_, q2_, q3_])
    | (go_at_call 74; ((with_reducible refine (cN _).mono ?_); rintro e w ⟨rfl, hb⟩; replace H := H.call hb; clear hb))
    )
        all_goals
          go_roundw
          case rel => exact Or.inr (Or.inl ⟨by go_num, (by with_reducible exact flag_on0 _ (by rw [decide_eq_true hc])), H.sub v6_⟩)
          case measure => simp [intOf]
      · have e1 : ((c0 : Int) == 8) = false := int_eq_false c0 8 hc
        go_wp2_with (first
    | ((with_reducible show wpList _ _ _ (⟨_, .box _ _, _, _, _, _⟩ :: _) _ _); refine H.xb ?_; (intro g w H; simp only [Act.put, q1_, q2_, q3_]))
    | ((with_reducible show wpList _ _ _ (⟨_, .alloc _, _, _, _, _⟩ :: _) _ _); refine H.xa ?_; (intro g w H; simp only [Act.put, q1_, q2_, q3_]))
    | ((with_reducible show wpList _ _ _ (⟨_, .load _ _, _, _, _, _⟩ :: _) _ _); (first | refine H.xl ?_ | refine H.xm ?_); simp only [Act.put, q1_, q2_, q3_])
    | ((with_reducible show wpList _ _ _ (⟨_, .store _ _ _, _, _, _, _⟩ :: _) _ _); (first | refine H.xs ?_ | refine H.xt ?_); (intro w H; simp only [Act.put]))
    | ((with_reducible show wpList _ _ _ (⟨_, .load 103 _, _, _, _, _⟩ :: _) _ _); refine H.ldo rfl rP rfl rfl hB v9_ (by rfl) ?_; simp only [Act.put, q1_, q2_, q3_])
    | (go_at_call 74; ((with_reducible refine (cN _).mono ?_); rintro e w ⟨rfl, hb⟩; replace H := H.call hb; clear hb))
    )
        all_goals
          go_roundw
          case rel => exact Or.inr (Or.inl ⟨by go_num, (by with_reducible exact flag_off0 _ (by rw [decide_eq_false hc])), H.sub v6_⟩)
          case measure => simp [intOf]
    · by_cases hc : c1 = 8
      · have e1 : ((c1 : Int) == 8) = true := int_eq_true c1 8 hc
        go_wp2_with (first
    | ((with_reducible show wpList _ _ _ (⟨_, .box _ _, _, _, _, _⟩ :: _) _ _); refine H.xb ?_; (intro g w H; simp only [Act.put, q1_, q2_, q3_]))
    | ((with_reducible show wpList _ _ _ (⟨_, .alloc _, _, _, _, _⟩ :: _) _ _); refine H.xa ?_; (intro g w H; simp only [Act.put, q1_, q2_, q3_]))
    | ((with_reducible show wpList _ _ _ (⟨_, .load _ _, _, _, _, _⟩ :: _) _ _); (first | refine H.xl ?_ | refine H.xm ?_); simp only [Act.put, q1_, q2_, q3_])
    | ((with_reducible show wpList _ _ _ (⟨_, .store _ _ _, _, _, _, _⟩ :: _) _ _); (first | refine H.xs ?_ | refine H.xt ?_); (intro w H; simp only [Act.put]))
    | ((with_reducible show wpList _ _ _ (⟨_, .load 103 _, _, _, _, _⟩ :: _) _ _); refine H.ldo rfl rP rfl rfl hB v9_ (by rfl) ?_; simp only [Act.put, q1_, q2_, q3_])
    | (go_at_call 74; ((with_reducible refine (cN _).mono ?_); rintro e w ⟨rfl, hb⟩; replace H := H.call hb; clear hb))
    )
        all_goals
          go_roundw
          case rel => exact Or.inr (Or.inr (⟨by go_num, (by with_reducible exact flag_on _ _ (by rw [decide_eq_true hc]; simp)), H.sub v6_⟩))
          case measure => simp [intOf]
      · have e1 : ((c1 : Int) == 8) = false := int_eq_false c1 8 hc
        go_wp2_with (first
    | ((with_reducible show wpList _ _ _ (⟨_, .box _ _, _, _, _, _⟩ :: _) _ _); refine H.xb ?_; (intro g w H; simp only [Act.put, q1_, q2_, q3_]))
    | ((with_reducible show wpList _ _ _ (⟨_, .alloc _, _, _, _, _⟩ :: _) _ _); refine H.xa ?_; (intro g w H; simp only [Act.put, q1_, q2_, q3_]))
    | ((with_reducible show wpList _ _ _ (⟨_, .load _ _, _, _, _, _⟩ :: _) _ _); (first | refine H.xl ?_ | refine H.xm ?_); simp only [Act.put, q1_, q2_, q3_])
    | ((with_reducible show wpList _ _ _ (⟨_, .store _ _ _, _, _, _, _⟩ :: _) _ _); (first | refine H.xs ?_ | refine H.xt ?_); (intro w H; simp only [Act.put]))
    | ((with_reducible show wpList _ _ _ (⟨_, .load 103 _, _, _, _, _⟩ :: _) _ _); refine H.ldo rfl rP rfl rfl hB v9_ (by rfl) ?_; simp only [Act.put, q1_, q2_, q3_])
    | (go_at_call 74; ((with_reducible refine (cN _).mono ?_); rintro e w ⟨rfl, hb⟩; replace H := H.call hb; clear hb))
    )
        all_goals
          go_roundw
          case rel => exact Or.inr (Or.inr (⟨by go_num, (by with_reducible exact flag_off _ _ (by rw [decide_eq_false hc]; simp)), H.sub v6_⟩))
          case measure => simp [intOf]
    · go_wp2_with (first
    | ((with_reducible show wpList _ _ _ (⟨_, .box _ _, _, _, _, _⟩ :: _) _ _); refine H.xb ?_; (intro g w H; simp only [Act.put, q1_, q2_, q3_]))
    | ((with_reducible show wpList _ _ _ (⟨_, .alloc _, _, _, _, _⟩ :: _) _ _); refine H.xa ?_; (intro g w H; simp only [Act.put, q1_, q2_, q3_]))
    | ((with_reducible show wpList _ _ _ (⟨_, .load _ _, _, _, _, _⟩ :: _) _ _); (first | refine H.xl ?_ | refine H.xm ?_); simp only [Act.put, q1_, q2_, q3_])
    | ((with_reducible show wpList _ _ _ (⟨_, .store _ _ _, _, _, _, _⟩ :: _) _ _); (first | refine H.xs ?_ | refine H.xt ?_); (intro w H; simp only [Act.put]))
    | ((with_reducible show wpList _ _ _ (⟨_, .load 103 _, _, _, _, _⟩ :: _) _ _); refine H.ldo rfl rP rfl rfl hB v9_ (by rfl) ?_; simp only [Act.put, q1_, q2_, q3_])
    | (go_at_call 74; ((with_reducible refine (cN _).mono ?_); rintro e w ⟨rfl, hb⟩; replace H := H.call hb; clear hb))
    )
      all_goals
        refine bodyPost_ret (results_ctt rfl rfl (H.res rB v3_ v7_ (by rfl))) rfl ⟨?_, H.below⟩
        rfl
end Go.Proofs.YtecdpjhifmlahaaGreatDoor
