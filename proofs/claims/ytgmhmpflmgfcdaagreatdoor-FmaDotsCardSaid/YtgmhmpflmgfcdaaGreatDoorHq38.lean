/- Part 38 of the proof. -/
import Derived.Test.YtgmhmpflmgfcdaaGreatDoorHq4
import Derived.Test.YtgmhmpflmgfcdaaGreatDoorHq5
import Derived.Test.YtgmhmpflmgfcdaaGreatDoorHq6
import Derived.Test.YtgmhmpflmgfcdaaGreatDoorHq8
import Derived.Test.YtgmhmpflmgfcdaaGreatDoorHq9
import Derived.Test.YtgmhmpflmgfcdaaGreatDoorHq32
import Derived.Test.YtgmhmpflmgfcdaaGreatDoorHq33
import Derived.Test.YtgmhmpflmgfcdaaGreatDoorHq37
set_option linter.unusedSimpArgs false
set_option linter.unusedVariables false
set_option linter.unnecessarySimpa false
set_option maxRecDepth 100000
set_option maxHeartbeats 3200000
namespace Go.Proofs.YtgmhmpflmgfcdaaGreatDoor
open Go.RowKit Go.Proofs.YtgmhmpflmgfcdaaGreatDoorW.PrintWords Go.Proofs.YtgmhmpflmgfcdaaGreatDoor.PDivQuotients
theorem r11Nought_t (f z : Nat) (w : World) (cZ : CK_ 87 #[.int .u8 f, .bool true] (BV z)) :
  CR_ 106 #[.int .u8 f, .int .u8 2] w (BV z) := by
 have H := Own.start w
 go_enter Tryz.func106, Tryz.ntmps106
 exact walk1
theorem r11Nought_f (f m z : Nat) (w : World) (q : ((m : Int) == 2) = false) (cZ : CK_ 87 #[.int .u8 f, .bool false] (BV z)) :
  CR_ 106 #[.int .u8 f, .int .u8 m] w (BV z) := by
 have H := Own.start w
 go_enter Tryz.func106, Tryz.ntmps106
 exact walk1
theorem r6Mul_z1 (n1 n2 : Bool) (s1 d1 s2 d2 : ByteArray) (e1 e2 : Int) (w : World) (h1 : -400000 ≤ e1) (h2 : e1 ≤ 400000) (h3 : -400000 ≤ e2) (h4 : e2 ≤ 400000) (f_s1 : s1.toList.isEmpty = true) (f_s1' : s1.toList = [])  :
  CR_ 118 #[.agg (exC n1 s1 d1 e1), .agg (exC n2 s2 d2 e2)] w (.tuple #[.agg (exC false ⟨#[]⟩ ⟨#[1]⟩ 0), .int .i64 0]) := by
 have H := Own.start w
 go_enter Tryz.func118, Tryz.ntmps118
 exact walk4
theorem r6Mul_z2 (n1 n2 : Bool) (s1 d1 s2 d2 : ByteArray) (e1 e2 : Int) (w : World) (h1 : -400000 ≤ e1) (h2 : e1 ≤ 400000) (h3 : -400000 ≤ e2) (h4 : e2 ≤ 400000) (f_s1 : s1.toList.isEmpty = false) (f_s1' : ¬ (s1.toList = [])) (f_s2 : s2.toList.isEmpty = true) (f_s2' : s2.toList = [])  :
  CR_ 118 #[.agg (exC n1 s1 d1 e1), .agg (exC n2 s2 d2 e2)] w (.tuple #[.agg (exC false ⟨#[]⟩ ⟨#[1]⟩ 0), .int .i64 0]) := by
 have H := Own.start w
 go_enter Tryz.func118, Tryz.ntmps118
 exact walk4
theorem r15_no (f m a b c z : Nat) (fl : Int) (sa sb sc : Bool) (w : World) (cT : ∀ w g, Blk 27 w g (cat3 (bc a) (bc b) (bc c)) → CR_ 82 #[.int .u8 f, .int .u8 m, .slice (some ⟨g, 0, none⟩) 3 3] w (.bool false))  :
  CR_ 34 #[.int .u8 f, .int .u8 m, BV a, BV b, BV c] w (.tuple #[BV 0, .int .u8 0, .int .i64 2]) := by
 have H := Own.start w
 go_enter Tryz.func34, Tryz.ntmps34
 exact walk1
theorem r15_IZ (f m a b c z : Nat) (fl : Int) (sa sb sc : Bool) (w : World) (cT : ∀ w g, Blk 27 w g (cat3 (bc a) (bc b) (bc c)) → CR_ 82 #[.int .u8 f, .int .u8 m, .slice (some ⟨g, 0, none⟩) 3 3] w (.bool true)) (cIa : CK_ 53 #[.int .u8 f, BV a] (.bool true)) (cZa : CK_ 84 #[.int .u8 f, BV a] (.bool false)) (cZb : CK_ 84 #[.int .u8 f, BV b] (.bool true)) (cN : CK_ 85 #[.int .u8 f] (BV z)) :
  CR_ 34 #[.int .u8 f, .int .u8 m, BV a, BV b, BV c] w (.tuple #[BV z, .int .u8 16, .int .i64 0]) := by
 have H := Own.start w
 go_enter Tryz.func34, Tryz.ntmps34
 exact walk1
theorem r15_ZI (f m a b c z : Nat) (fl : Int) (sa sb sc : Bool) (w : World) (cT : ∀ w g, Blk 27 w g (cat3 (bc a) (bc b) (bc c)) → CR_ 82 #[.int .u8 f, .int .u8 m, .slice (some ⟨g, 0, none⟩) 3 3] w (.bool true)) (cIa : CK_ 53 #[.int .u8 f, BV a] (.bool false)) (cIb : CK_ 53 #[.int .u8 f, BV b] (.bool true)) (cZa : CK_ 84 #[.int .u8 f, BV a] (.bool true)) (cN : CK_ 85 #[.int .u8 f] (BV z)) :
  CR_ 34 #[.int .u8 f, .int .u8 m, BV a, BV b, BV c] w (.tuple #[BV z, .int .u8 16, .int .i64 0]) := by
 have H := Own.start w
 go_enter Tryz.func34, Tryz.ntmps34
 exact walk1
theorem r15_Inb (f m a b c z : Nat) (fl : Int) (sa sb sc : Bool) (w : World) (cT : ∀ w g, Blk 27 w g (cat3 (bc a) (bc b) (bc c)) → CR_ 82 #[.int .u8 f, .int .u8 m, .slice (some ⟨g, 0, none⟩) 3 3] w (.bool true)) (cIa : CK_ 53 #[.int .u8 f, BV a] (.bool true)) (cZa : CK_ 84 #[.int .u8 f, BV a] (.bool false)) (cZb : CK_ 84 #[.int .u8 f, BV b] (.bool false)) (cNa : CK_ 51 #[.int .u8 f, BV a] (.bool false)) (cNb : CK_ 51 #[.int .u8 f, BV b] (.bool true)) (cC : ∀ w g, Blk 27 w g (cat3 (bc a) (bc b) (bc c)) → CR_ 83 #[.int .u8 f, .slice (some ⟨g, 0, none⟩) 3 3] w (.tuple #[BV z, .int .u8 fl]))  :
  CR_ 34 #[.int .u8 f, .int .u8 m, BV a, BV b, BV c] w (.tuple #[BV z, .int .u8 fl, .int .i64 0]) := by
 have H := Own.start w
 go_enter Tryz.func34, Tryz.ntmps34
 exact walk1
theorem r15_Inc (f m a b c z : Nat) (fl : Int) (sa sb sc : Bool) (w : World) (cT : ∀ w g, Blk 27 w g (cat3 (bc a) (bc b) (bc c)) → CR_ 82 #[.int .u8 f, .int .u8 m, .slice (some ⟨g, 0, none⟩) 3 3] w (.bool true)) (cIa : CK_ 53 #[.int .u8 f, BV a] (.bool true)) (cZa : CK_ 84 #[.int .u8 f, BV a] (.bool false)) (cZb : CK_ 84 #[.int .u8 f, BV b] (.bool false)) (cNa : CK_ 51 #[.int .u8 f, BV a] (.bool false)) (cNb : CK_ 51 #[.int .u8 f, BV b] (.bool false)) (cNc : CK_ 51 #[.int .u8 f, BV c] (.bool true)) (cC : ∀ w g, Blk 27 w g (cat3 (bc a) (bc b) (bc c)) → CR_ 83 #[.int .u8 f, .slice (some ⟨g, 0, none⟩) 3 3] w (.tuple #[BV z, .int .u8 fl]))  :
  CR_ 34 #[.int .u8 f, .int .u8 m, BV a, BV b, BV c] w (.tuple #[BV z, .int .u8 fl, .int .i64 0]) := by
 have H := Own.start w
 go_enter Tryz.func34, Tryz.ntmps34
 exact walk1
theorem r15_IId (f m a b c z : Nat) (fl : Int) (sa sb sc : Bool) (w : World) (cT : ∀ w g, Blk 27 w g (cat3 (bc a) (bc b) (bc c)) → CR_ 82 #[.int .u8 f, .int .u8 m, .slice (some ⟨g, 0, none⟩) 3 3] w (.bool true)) (cIa : CK_ 53 #[.int .u8 f, BV a] (.bool true)) (cZa : CK_ 84 #[.int .u8 f, BV a] (.bool false)) (cZb : CK_ 84 #[.int .u8 f, BV b] (.bool false)) (cNa : CK_ 51 #[.int .u8 f, BV a] (.bool false)) (cNb : CK_ 51 #[.int .u8 f, BV b] (.bool false)) (cNc : CK_ 51 #[.int .u8 f, BV c] (.bool false)) (cSa : CK_ 50 #[.int .u8 f, BV a] (.bool sa)) (cSb : CK_ 50 #[.int .u8 f, BV b] (.bool sb)) (cIc : CK_ 53 #[.int .u8 f, BV c] (.bool true)) (cSc : CK_ 50 #[.int .u8 f, BV c] (.bool sc)) (qs : (sc == (!(sa == sb))) = false) (cN : CK_ 85 #[.int .u8 f] (BV z)) :
  CR_ 34 #[.int .u8 f, .int .u8 m, BV a, BV b, BV c] w (.tuple #[BV z, .int .u8 16, .int .i64 0]) := by
 have H := Own.start w
 go_enter Tryz.func34, Tryz.ntmps34
 exact walk1
theorem r15_IIs (f m a b c z : Nat) (fl : Int) (sa sb sc : Bool) (w : World) (cT : ∀ w g, Blk 27 w g (cat3 (bc a) (bc b) (bc c)) → CR_ 82 #[.int .u8 f, .int .u8 m, .slice (some ⟨g, 0, none⟩) 3 3] w (.bool true)) (cIa : CK_ 53 #[.int .u8 f, BV a] (.bool true)) (cZa : CK_ 84 #[.int .u8 f, BV a] (.bool false)) (cZb : CK_ 84 #[.int .u8 f, BV b] (.bool false)) (cNa : CK_ 51 #[.int .u8 f, BV a] (.bool false)) (cNb : CK_ 51 #[.int .u8 f, BV b] (.bool false)) (cNc : CK_ 51 #[.int .u8 f, BV c] (.bool false)) (cSa : CK_ 50 #[.int .u8 f, BV a] (.bool sa)) (cSb : CK_ 50 #[.int .u8 f, BV b] (.bool sb)) (cIc : CK_ 53 #[.int .u8 f, BV c] (.bool true)) (cSc : CK_ 50 #[.int .u8 f, BV c] (.bool sc)) (qs : (sc == (!(sa == sb))) = true) (cI : CK_ 86 #[.int .u8 f, .bool (!(sa == sb))] (BV z)) :
  CR_ 34 #[.int .u8 f, .int .u8 m, BV a, BV b, BV c] w (.tuple #[BV z, .int .u8 0, .int .i64 0]) := by
 have H := Own.start w
 go_enter Tryz.func34, Tryz.ntmps34
 exact walk1
theorem r15_If (f m a b c z : Nat) (fl : Int) (sa sb sc : Bool) (w : World) (cT : ∀ w g, Blk 27 w g (cat3 (bc a) (bc b) (bc c)) → CR_ 82 #[.int .u8 f, .int .u8 m, .slice (some ⟨g, 0, none⟩) 3 3] w (.bool true)) (cIa : CK_ 53 #[.int .u8 f, BV a] (.bool true)) (cZa : CK_ 84 #[.int .u8 f, BV a] (.bool false)) (cZb : CK_ 84 #[.int .u8 f, BV b] (.bool false)) (cNa : CK_ 51 #[.int .u8 f, BV a] (.bool false)) (cNb : CK_ 51 #[.int .u8 f, BV b] (.bool false)) (cNc : CK_ 51 #[.int .u8 f, BV c] (.bool false)) (cSa : CK_ 50 #[.int .u8 f, BV a] (.bool sa)) (cSb : CK_ 50 #[.int .u8 f, BV b] (.bool sb)) (cIc : CK_ 53 #[.int .u8 f, BV c] (.bool false)) (cI : CK_ 86 #[.int .u8 f, .bool (!(sa == sb))] (BV z)) :
  CR_ 34 #[.int .u8 f, .int .u8 m, BV a, BV b, BV c] w (.tuple #[BV z, .int .u8 0, .int .i64 0]) := by
 have H := Own.start w
 go_enter Tryz.func34, Tryz.ntmps34
 exact walk1
theorem r15_Jna (f m a b c z : Nat) (fl : Int) (sa sb sc : Bool) (w : World) (cT : ∀ w g, Blk 27 w g (cat3 (bc a) (bc b) (bc c)) → CR_ 82 #[.int .u8 f, .int .u8 m, .slice (some ⟨g, 0, none⟩) 3 3] w (.bool true)) (cIa : CK_ 53 #[.int .u8 f, BV a] (.bool false)) (cIb : CK_ 53 #[.int .u8 f, BV b] (.bool true)) (cZa : CK_ 84 #[.int .u8 f, BV a] (.bool false)) (cZb : CK_ 84 #[.int .u8 f, BV b] (.bool false)) (cNa : CK_ 51 #[.int .u8 f, BV a] (.bool true)) (cC : ∀ w g, Blk 27 w g (cat3 (bc a) (bc b) (bc c)) → CR_ 83 #[.int .u8 f, .slice (some ⟨g, 0, none⟩) 3 3] w (.tuple #[BV z, .int .u8 fl]))  :
  CR_ 34 #[.int .u8 f, .int .u8 m, BV a, BV b, BV c] w (.tuple #[BV z, .int .u8 fl, .int .i64 0]) := by
 have H := Own.start w
 go_enter Tryz.func34, Tryz.ntmps34
 exact walk1
theorem r15_Jnc (f m a b c z : Nat) (fl : Int) (sa sb sc : Bool) (w : World) (cT : ∀ w g, Blk 27 w g (cat3 (bc a) (bc b) (bc c)) → CR_ 82 #[.int .u8 f, .int .u8 m, .slice (some ⟨g, 0, none⟩) 3 3] w (.bool true)) (cIa : CK_ 53 #[.int .u8 f, BV a] (.bool false)) (cIb : CK_ 53 #[.int .u8 f, BV b] (.bool true)) (cZa : CK_ 84 #[.int .u8 f, BV a] (.bool false)) (cZb : CK_ 84 #[.int .u8 f, BV b] (.bool false)) (cNa : CK_ 51 #[.int .u8 f, BV a] (.bool false)) (cNb : CK_ 51 #[.int .u8 f, BV b] (.bool false)) (cNc : CK_ 51 #[.int .u8 f, BV c] (.bool true)) (cC : ∀ w g, Blk 27 w g (cat3 (bc a) (bc b) (bc c)) → CR_ 83 #[.int .u8 f, .slice (some ⟨g, 0, none⟩) 3 3] w (.tuple #[BV z, .int .u8 fl]))  :
  CR_ 34 #[.int .u8 f, .int .u8 m, BV a, BV b, BV c] w (.tuple #[BV z, .int .u8 fl, .int .i64 0]) := by
 have H := Own.start w
 go_enter Tryz.func34, Tryz.ntmps34
 exact walk1
theorem r15_JId (f m a b c z : Nat) (fl : Int) (sa sb sc : Bool) (w : World) (cT : ∀ w g, Blk 27 w g (cat3 (bc a) (bc b) (bc c)) → CR_ 82 #[.int .u8 f, .int .u8 m, .slice (some ⟨g, 0, none⟩) 3 3] w (.bool true)) (cIa : CK_ 53 #[.int .u8 f, BV a] (.bool false)) (cIb : CK_ 53 #[.int .u8 f, BV b] (.bool true)) (cZa : CK_ 84 #[.int .u8 f, BV a] (.bool false)) (cZb : CK_ 84 #[.int .u8 f, BV b] (.bool false)) (cNa : CK_ 51 #[.int .u8 f, BV a] (.bool false)) (cNb : CK_ 51 #[.int .u8 f, BV b] (.bool false)) (cNc : CK_ 51 #[.int .u8 f, BV c] (.bool false)) (cSa : CK_ 50 #[.int .u8 f, BV a] (.bool sa)) (cSb : CK_ 50 #[.int .u8 f, BV b] (.bool sb)) (cIc : CK_ 53 #[.int .u8 f, BV c] (.bool true)) (cSc : CK_ 50 #[.int .u8 f, BV c] (.bool sc)) (qs : (sc == (!(sa == sb))) = false) (cN : CK_ 85 #[.int .u8 f] (BV z)) :
  CR_ 34 #[.int .u8 f, .int .u8 m, BV a, BV b, BV c] w (.tuple #[BV z, .int .u8 16, .int .i64 0]) := by
 have H := Own.start w
 go_enter Tryz.func34, Tryz.ntmps34
 exact walk1
theorem r15_JIs (f m a b c z : Nat) (fl : Int) (sa sb sc : Bool) (w : World) (cT : ∀ w g, Blk 27 w g (cat3 (bc a) (bc b) (bc c)) → CR_ 82 #[.int .u8 f, .int .u8 m, .slice (some ⟨g, 0, none⟩) 3 3] w (.bool true)) (cIa : CK_ 53 #[.int .u8 f, BV a] (.bool false)) (cIb : CK_ 53 #[.int .u8 f, BV b] (.bool true)) (cZa : CK_ 84 #[.int .u8 f, BV a] (.bool false)) (cZb : CK_ 84 #[.int .u8 f, BV b] (.bool false)) (cNa : CK_ 51 #[.int .u8 f, BV a] (.bool false)) (cNb : CK_ 51 #[.int .u8 f, BV b] (.bool false)) (cNc : CK_ 51 #[.int .u8 f, BV c] (.bool false)) (cSa : CK_ 50 #[.int .u8 f, BV a] (.bool sa)) (cSb : CK_ 50 #[.int .u8 f, BV b] (.bool sb)) (cIc : CK_ 53 #[.int .u8 f, BV c] (.bool true)) (cSc : CK_ 50 #[.int .u8 f, BV c] (.bool sc)) (qs : (sc == (!(sa == sb))) = true) (cI : CK_ 86 #[.int .u8 f, .bool (!(sa == sb))] (BV z)) :
  CR_ 34 #[.int .u8 f, .int .u8 m, BV a, BV b, BV c] w (.tuple #[BV z, .int .u8 0, .int .i64 0]) := by
 have H := Own.start w
 go_enter Tryz.func34, Tryz.ntmps34
 exact walk1
theorem r15_Jf (f m a b c z : Nat) (fl : Int) (sa sb sc : Bool) (w : World) (cT : ∀ w g, Blk 27 w g (cat3 (bc a) (bc b) (bc c)) → CR_ 82 #[.int .u8 f, .int .u8 m, .slice (some ⟨g, 0, none⟩) 3 3] w (.bool true)) (cIa : CK_ 53 #[.int .u8 f, BV a] (.bool false)) (cIb : CK_ 53 #[.int .u8 f, BV b] (.bool true)) (cZa : CK_ 84 #[.int .u8 f, BV a] (.bool false)) (cZb : CK_ 84 #[.int .u8 f, BV b] (.bool false)) (cNa : CK_ 51 #[.int .u8 f, BV a] (.bool false)) (cNb : CK_ 51 #[.int .u8 f, BV b] (.bool false)) (cNc : CK_ 51 #[.int .u8 f, BV c] (.bool false)) (cSa : CK_ 50 #[.int .u8 f, BV a] (.bool sa)) (cSb : CK_ 50 #[.int .u8 f, BV b] (.bool sb)) (cIc : CK_ 53 #[.int .u8 f, BV c] (.bool false)) (cI : CK_ 86 #[.int .u8 f, .bool (!(sa == sb))] (BV z)) :
  CR_ 34 #[.int .u8 f, .int .u8 m, BV a, BV b, BV c] w (.tuple #[BV z, .int .u8 0, .int .i64 0]) := by
 have H := Own.start w
 go_enter Tryz.func34, Tryz.ntmps34
 exact walk1
theorem r15_Znb (f m a b c z : Nat) (fl : Int) (sa sb sc : Bool) (w : World) (cT : ∀ w g, Blk 27 w g (cat3 (bc a) (bc b) (bc c)) → CR_ 82 #[.int .u8 f, .int .u8 m, .slice (some ⟨g, 0, none⟩) 3 3] w (.bool true)) (cIa : CK_ 53 #[.int .u8 f, BV a] (.bool false)) (cIb : CK_ 53 #[.int .u8 f, BV b] (.bool false)) (cZa : CK_ 84 #[.int .u8 f, BV a] (.bool true)) (cNa : CK_ 51 #[.int .u8 f, BV a] (.bool false)) (cNb : CK_ 51 #[.int .u8 f, BV b] (.bool true)) (cC : ∀ w g, Blk 27 w g (cat3 (bc a) (bc b) (bc c)) → CR_ 83 #[.int .u8 f, .slice (some ⟨g, 0, none⟩) 3 3] w (.tuple #[BV z, .int .u8 fl]))  :
  CR_ 34 #[.int .u8 f, .int .u8 m, BV a, BV b, BV c] w (.tuple #[BV z, .int .u8 fl, .int .i64 0]) := by
 have H := Own.start w
 go_enter Tryz.func34, Tryz.ntmps34
 exact walk1
theorem r15_Znc (f m a b c z : Nat) (fl : Int) (sa sb sc : Bool) (w : World) (cT : ∀ w g, Blk 27 w g (cat3 (bc a) (bc b) (bc c)) → CR_ 82 #[.int .u8 f, .int .u8 m, .slice (some ⟨g, 0, none⟩) 3 3] w (.bool true)) (cIa : CK_ 53 #[.int .u8 f, BV a] (.bool false)) (cIb : CK_ 53 #[.int .u8 f, BV b] (.bool false)) (cZa : CK_ 84 #[.int .u8 f, BV a] (.bool true)) (cNa : CK_ 51 #[.int .u8 f, BV a] (.bool false)) (cNb : CK_ 51 #[.int .u8 f, BV b] (.bool false)) (cNc : CK_ 51 #[.int .u8 f, BV c] (.bool true)) (cC : ∀ w g, Blk 27 w g (cat3 (bc a) (bc b) (bc c)) → CR_ 83 #[.int .u8 f, .slice (some ⟨g, 0, none⟩) 3 3] w (.tuple #[BV z, .int .u8 fl]))  :
  CR_ 34 #[.int .u8 f, .int .u8 m, BV a, BV b, BV c] w (.tuple #[BV z, .int .u8 fl, .int .i64 0]) := by
 have H := Own.start w
 go_enter Tryz.func34, Tryz.ntmps34
 exact walk1
theorem r15_Zi (f m a b c z : Nat) (fl : Int) (sa sb sc : Bool) (w : World) (cT : ∀ w g, Blk 27 w g (cat3 (bc a) (bc b) (bc c)) → CR_ 82 #[.int .u8 f, .int .u8 m, .slice (some ⟨g, 0, none⟩) 3 3] w (.bool true)) (cIa : CK_ 53 #[.int .u8 f, BV a] (.bool false)) (cIb : CK_ 53 #[.int .u8 f, BV b] (.bool false)) (cZa : CK_ 84 #[.int .u8 f, BV a] (.bool true)) (cNa : CK_ 51 #[.int .u8 f, BV a] (.bool false)) (cNb : CK_ 51 #[.int .u8 f, BV b] (.bool false)) (cNc : CK_ 51 #[.int .u8 f, BV c] (.bool false)) (cSa : CK_ 50 #[.int .u8 f, BV a] (.bool sa)) (cSb : CK_ 50 #[.int .u8 f, BV b] (.bool sb)) (cIc : CK_ 53 #[.int .u8 f, BV c] (.bool true))  :
  CR_ 34 #[.int .u8 f, .int .u8 m, BV a, BV b, BV c] w (.tuple #[BV c, .int .u8 0, .int .i64 0]) := by
 have H := Own.start w
 go_enter Tryz.func34, Tryz.ntmps34
 exact walk1
theorem r15_ZZs (f m a b c z : Nat) (fl : Int) (sa sb sc : Bool) (w : World) (cT : ∀ w g, Blk 27 w g (cat3 (bc a) (bc b) (bc c)) → CR_ 82 #[.int .u8 f, .int .u8 m, .slice (some ⟨g, 0, none⟩) 3 3] w (.bool true)) (cIa : CK_ 53 #[.int .u8 f, BV a] (.bool false)) (cIb : CK_ 53 #[.int .u8 f, BV b] (.bool false)) (cZa : CK_ 84 #[.int .u8 f, BV a] (.bool true)) (cNa : CK_ 51 #[.int .u8 f, BV a] (.bool false)) (cNb : CK_ 51 #[.int .u8 f, BV b] (.bool false)) (cNc : CK_ 51 #[.int .u8 f, BV c] (.bool false)) (cSa : CK_ 50 #[.int .u8 f, BV a] (.bool sa)) (cSb : CK_ 50 #[.int .u8 f, BV b] (.bool sb)) (cIc : CK_ 53 #[.int .u8 f, BV c] (.bool false)) (cZc : CK_ 84 #[.int .u8 f, BV c] (.bool true)) (cSc : CK_ 50 #[.int .u8 f, BV c] (.bool sc)) (qs : (sc == (!(sa == sb))) = true)  :
  CR_ 34 #[.int .u8 f, .int .u8 m, BV a, BV b, BV c] w (.tuple #[BV c, .int .u8 0, .int .i64 0]) := by
 have H := Own.start w
 go_enter Tryz.func34, Tryz.ntmps34
 exact walk1
theorem r15_ZZd (f m a b c z : Nat) (fl : Int) (sa sb sc : Bool) (w : World) (cT : ∀ w g, Blk 27 w g (cat3 (bc a) (bc b) (bc c)) → CR_ 82 #[.int .u8 f, .int .u8 m, .slice (some ⟨g, 0, none⟩) 3 3] w (.bool true)) (cIa : CK_ 53 #[.int .u8 f, BV a] (.bool false)) (cIb : CK_ 53 #[.int .u8 f, BV b] (.bool false)) (cZa : CK_ 84 #[.int .u8 f, BV a] (.bool true)) (cNa : CK_ 51 #[.int .u8 f, BV a] (.bool false)) (cNb : CK_ 51 #[.int .u8 f, BV b] (.bool false)) (cNc : CK_ 51 #[.int .u8 f, BV c] (.bool false)) (cSa : CK_ 50 #[.int .u8 f, BV a] (.bool sa)) (cSb : CK_ 50 #[.int .u8 f, BV b] (.bool sb)) (cIc : CK_ 53 #[.int .u8 f, BV c] (.bool false)) (cZc : CK_ 84 #[.int .u8 f, BV c] (.bool true)) (cSc : CK_ 50 #[.int .u8 f, BV c] (.bool sc)) (qs : (sc == (!(sa == sb))) = false) (cO : CK_ 106 #[.int .u8 f, .int .u8 m] (BV z)) :
  CR_ 34 #[.int .u8 f, .int .u8 m, BV a, BV b, BV c] w (.tuple #[BV z, .int .u8 0, .int .i64 0]) := by
 have H := Own.start w
 go_enter Tryz.func34, Tryz.ntmps34
 exact walk1
theorem r15_Zv (f m a b c z : Nat) (fl : Int) (sa sb sc na nb nc np nq : Bool) (n1 d1 n2 d2 n4 d4 n5 d5 n3 d3 : ByteArray) (e1 e2 e4 e5 e3 er : Int) (w : World) (cT : ∀ w g, Blk 27 w g (cat3 (bc a) (bc b) (bc c)) → CR_ 82 #[.int .u8 f, .int .u8 m, .slice (some ⟨g, 0, none⟩) 3 3] w (.bool true)) (cIa : CK_ 53 #[.int .u8 f, BV a] (.bool false)) (cIb : CK_ 53 #[.int .u8 f, BV b] (.bool false)) (cZa : CK_ 84 #[.int .u8 f, BV a] (.bool true)) (cNa : CK_ 51 #[.int .u8 f, BV a] (.bool false)) (cNb : CK_ 51 #[.int .u8 f, BV b] (.bool false)) (cNc : CK_ 51 #[.int .u8 f, BV c] (.bool false)) (cSa : CK_ 50 #[.int .u8 f, BV a] (.bool sa)) (cSb : CK_ 50 #[.int .u8 f, BV b] (.bool sb)) (cIc : CK_ 53 #[.int .u8 f, BV c] (.bool false)) (cZc : CK_ 84 #[.int .u8 f, BV c] (.bool false)) (cVa : CK_ 88 #[.int .u8 f, BV a] (.tuple #[.agg (exC na n1 d1 e1), .int .i64 0])) (cVb : CK_ 88 #[.int .u8 f, BV b] (.tuple #[.agg (exC nb n2 d2 e2), .int .i64 0])) (cVc : CK_ 88 #[.int .u8 f, BV c] (.tuple #[.agg (exC nc n4 d4 e4), .int .i64 0])) (cP : CK_ 118 #[.agg (exC na n1 d1 e1), .agg (exC nb n2 d2 e2)] (.tuple #[.agg (exC np n5 d5 e5), .int .i64 0])) (cQ : CK_ 107 #[.agg (exC np n5 d5 e5), .agg (exC nc n4 d4 e4)] (.tuple #[.agg (exC nq n3 d3 e3), .int .i64 0])) (f_n : n3.toList.isEmpty = false) (f_n' : ¬ (n3.toList = [])) (cR : CK_ 64 #[.int .u8 f, .int .u8 m, .agg (exC nq n3 d3 e3)] (.tuple #[BV z, .int .u8 fl, .int .i64 er]))  :
  CR_ 34 #[.int .u8 f, .int .u8 m, BV a, BV b, BV c] w (.tuple #[BV z, .int .u8 fl, .int .i64 er]) := by
 have H := Own.start w
 go_enter Tryz.func34, Tryz.ntmps34
 exact walk1
theorem r15_Yna (f m a b c z : Nat) (fl : Int) (sa sb sc : Bool) (w : World) (cT : ∀ w g, Blk 27 w g (cat3 (bc a) (bc b) (bc c)) → CR_ 82 #[.int .u8 f, .int .u8 m, .slice (some ⟨g, 0, none⟩) 3 3] w (.bool true)) (cIa : CK_ 53 #[.int .u8 f, BV a] (.bool false)) (cIb : CK_ 53 #[.int .u8 f, BV b] (.bool false)) (cZa : CK_ 84 #[.int .u8 f, BV a] (.bool false)) (cZb : CK_ 84 #[.int .u8 f, BV b] (.bool true)) (cNa : CK_ 51 #[.int .u8 f, BV a] (.bool true)) (cC : ∀ w g, Blk 27 w g (cat3 (bc a) (bc b) (bc c)) → CR_ 83 #[.int .u8 f, .slice (some ⟨g, 0, none⟩) 3 3] w (.tuple #[BV z, .int .u8 fl]))  :
  CR_ 34 #[.int .u8 f, .int .u8 m, BV a, BV b, BV c] w (.tuple #[BV z, .int .u8 fl, .int .i64 0]) := by
 have H := Own.start w
 go_enter Tryz.func34, Tryz.ntmps34
 exact walk1
theorem r15_Ync (f m a b c z : Nat) (fl : Int) (sa sb sc : Bool) (w : World) (cT : ∀ w g, Blk 27 w g (cat3 (bc a) (bc b) (bc c)) → CR_ 82 #[.int .u8 f, .int .u8 m, .slice (some ⟨g, 0, none⟩) 3 3] w (.bool true)) (cIa : CK_ 53 #[.int .u8 f, BV a] (.bool false)) (cIb : CK_ 53 #[.int .u8 f, BV b] (.bool false)) (cZa : CK_ 84 #[.int .u8 f, BV a] (.bool false)) (cZb : CK_ 84 #[.int .u8 f, BV b] (.bool true)) (cNa : CK_ 51 #[.int .u8 f, BV a] (.bool false)) (cNb : CK_ 51 #[.int .u8 f, BV b] (.bool false)) (cNc : CK_ 51 #[.int .u8 f, BV c] (.bool true)) (cC : ∀ w g, Blk 27 w g (cat3 (bc a) (bc b) (bc c)) → CR_ 83 #[.int .u8 f, .slice (some ⟨g, 0, none⟩) 3 3] w (.tuple #[BV z, .int .u8 fl]))  :
  CR_ 34 #[.int .u8 f, .int .u8 m, BV a, BV b, BV c] w (.tuple #[BV z, .int .u8 fl, .int .i64 0]) := by
 have H := Own.start w
 go_enter Tryz.func34, Tryz.ntmps34
 exact walk1
theorem r15_Yi (f m a b c z : Nat) (fl : Int) (sa sb sc : Bool) (w : World) (cT : ∀ w g, Blk 27 w g (cat3 (bc a) (bc b) (bc c)) → CR_ 82 #[.int .u8 f, .int .u8 m, .slice (some ⟨g, 0, none⟩) 3 3] w (.bool true)) (cIa : CK_ 53 #[.int .u8 f, BV a] (.bool false)) (cIb : CK_ 53 #[.int .u8 f, BV b] (.bool false)) (cZa : CK_ 84 #[.int .u8 f, BV a] (.bool false)) (cZb : CK_ 84 #[.int .u8 f, BV b] (.bool true)) (cNa : CK_ 51 #[.int .u8 f, BV a] (.bool false)) (cNb : CK_ 51 #[.int .u8 f, BV b] (.bool false)) (cNc : CK_ 51 #[.int .u8 f, BV c] (.bool false)) (cSa : CK_ 50 #[.int .u8 f, BV a] (.bool sa)) (cSb : CK_ 50 #[.int .u8 f, BV b] (.bool sb)) (cIc : CK_ 53 #[.int .u8 f, BV c] (.bool true))  :
  CR_ 34 #[.int .u8 f, .int .u8 m, BV a, BV b, BV c] w (.tuple #[BV c, .int .u8 0, .int .i64 0]) := by
 have H := Own.start w
 go_enter Tryz.func34, Tryz.ntmps34
 exact walk1
theorem r15_YZs (f m a b c z : Nat) (fl : Int) (sa sb sc : Bool) (w : World) (cT : ∀ w g, Blk 27 w g (cat3 (bc a) (bc b) (bc c)) → CR_ 82 #[.int .u8 f, .int .u8 m, .slice (some ⟨g, 0, none⟩) 3 3] w (.bool true)) (cIa : CK_ 53 #[.int .u8 f, BV a] (.bool false)) (cIb : CK_ 53 #[.int .u8 f, BV b] (.bool false)) (cZa : CK_ 84 #[.int .u8 f, BV a] (.bool false)) (cZb : CK_ 84 #[.int .u8 f, BV b] (.bool true)) (cNa : CK_ 51 #[.int .u8 f, BV a] (.bool false)) (cNb : CK_ 51 #[.int .u8 f, BV b] (.bool false)) (cNc : CK_ 51 #[.int .u8 f, BV c] (.bool false)) (cSa : CK_ 50 #[.int .u8 f, BV a] (.bool sa)) (cSb : CK_ 50 #[.int .u8 f, BV b] (.bool sb)) (cIc : CK_ 53 #[.int .u8 f, BV c] (.bool false)) (cZc : CK_ 84 #[.int .u8 f, BV c] (.bool true)) (cSc : CK_ 50 #[.int .u8 f, BV c] (.bool sc)) (qs : (sc == (!(sa == sb))) = true)  :
  CR_ 34 #[.int .u8 f, .int .u8 m, BV a, BV b, BV c] w (.tuple #[BV c, .int .u8 0, .int .i64 0]) := by
 have H := Own.start w
 go_enter Tryz.func34, Tryz.ntmps34
 exact walk1
theorem r15_YZd (f m a b c z : Nat) (fl : Int) (sa sb sc : Bool) (w : World) (cT : ∀ w g, Blk 27 w g (cat3 (bc a) (bc b) (bc c)) → CR_ 82 #[.int .u8 f, .int .u8 m, .slice (some ⟨g, 0, none⟩) 3 3] w (.bool true)) (cIa : CK_ 53 #[.int .u8 f, BV a] (.bool false)) (cIb : CK_ 53 #[.int .u8 f, BV b] (.bool false)) (cZa : CK_ 84 #[.int .u8 f, BV a] (.bool false)) (cZb : CK_ 84 #[.int .u8 f, BV b] (.bool true)) (cNa : CK_ 51 #[.int .u8 f, BV a] (.bool false)) (cNb : CK_ 51 #[.int .u8 f, BV b] (.bool false)) (cNc : CK_ 51 #[.int .u8 f, BV c] (.bool false)) (cSa : CK_ 50 #[.int .u8 f, BV a] (.bool sa)) (cSb : CK_ 50 #[.int .u8 f, BV b] (.bool sb)) (cIc : CK_ 53 #[.int .u8 f, BV c] (.bool false)) (cZc : CK_ 84 #[.int .u8 f, BV c] (.bool true)) (cSc : CK_ 50 #[.int .u8 f, BV c] (.bool sc)) (qs : (sc == (!(sa == sb))) = false) (cO : CK_ 106 #[.int .u8 f, .int .u8 m] (BV z)) :
  CR_ 34 #[.int .u8 f, .int .u8 m, BV a, BV b, BV c] w (.tuple #[BV z, .int .u8 0, .int .i64 0]) := by
 have H := Own.start w
 go_enter Tryz.func34, Tryz.ntmps34
 exact walk1
theorem r15_Yv (f m a b c z : Nat) (fl : Int) (sa sb sc na nb nc np nq : Bool) (n1 d1 n2 d2 n4 d4 n5 d5 n3 d3 : ByteArray) (e1 e2 e4 e5 e3 er : Int) (w : World) (cT : ∀ w g, Blk 27 w g (cat3 (bc a) (bc b) (bc c)) → CR_ 82 #[.int .u8 f, .int .u8 m, .slice (some ⟨g, 0, none⟩) 3 3] w (.bool true)) (cIa : CK_ 53 #[.int .u8 f, BV a] (.bool false)) (cIb : CK_ 53 #[.int .u8 f, BV b] (.bool false)) (cZa : CK_ 84 #[.int .u8 f, BV a] (.bool false)) (cZb : CK_ 84 #[.int .u8 f, BV b] (.bool true)) (cNa : CK_ 51 #[.int .u8 f, BV a] (.bool false)) (cNb : CK_ 51 #[.int .u8 f, BV b] (.bool false)) (cNc : CK_ 51 #[.int .u8 f, BV c] (.bool false)) (cSa : CK_ 50 #[.int .u8 f, BV a] (.bool sa)) (cSb : CK_ 50 #[.int .u8 f, BV b] (.bool sb)) (cIc : CK_ 53 #[.int .u8 f, BV c] (.bool false)) (cZc : CK_ 84 #[.int .u8 f, BV c] (.bool false)) (cVa : CK_ 88 #[.int .u8 f, BV a] (.tuple #[.agg (exC na n1 d1 e1), .int .i64 0])) (cVb : CK_ 88 #[.int .u8 f, BV b] (.tuple #[.agg (exC nb n2 d2 e2), .int .i64 0])) (cVc : CK_ 88 #[.int .u8 f, BV c] (.tuple #[.agg (exC nc n4 d4 e4), .int .i64 0])) (cP : CK_ 118 #[.agg (exC na n1 d1 e1), .agg (exC nb n2 d2 e2)] (.tuple #[.agg (exC np n5 d5 e5), .int .i64 0])) (cQ : CK_ 107 #[.agg (exC np n5 d5 e5), .agg (exC nc n4 d4 e4)] (.tuple #[.agg (exC nq n3 d3 e3), .int .i64 0])) (f_n : n3.toList.isEmpty = false) (f_n' : ¬ (n3.toList = [])) (cR : CK_ 64 #[.int .u8 f, .int .u8 m, .agg (exC nq n3 d3 e3)] (.tuple #[BV z, .int .u8 fl, .int .i64 er]))  :
  CR_ 34 #[.int .u8 f, .int .u8 m, BV a, BV b, BV c] w (.tuple #[BV z, .int .u8 fl, .int .i64 er]) := by
 have H := Own.start w
 go_enter Tryz.func34, Tryz.ntmps34
 exact walk1
theorem r15_Fna (f m a b c z : Nat) (fl : Int) (sa sb sc : Bool) (w : World) (cT : ∀ w g, Blk 27 w g (cat3 (bc a) (bc b) (bc c)) → CR_ 82 #[.int .u8 f, .int .u8 m, .slice (some ⟨g, 0, none⟩) 3 3] w (.bool true)) (cIa : CK_ 53 #[.int .u8 f, BV a] (.bool false)) (cIb : CK_ 53 #[.int .u8 f, BV b] (.bool false)) (cZa : CK_ 84 #[.int .u8 f, BV a] (.bool false)) (cZb : CK_ 84 #[.int .u8 f, BV b] (.bool false)) (cNa : CK_ 51 #[.int .u8 f, BV a] (.bool true)) (cC : ∀ w g, Blk 27 w g (cat3 (bc a) (bc b) (bc c)) → CR_ 83 #[.int .u8 f, .slice (some ⟨g, 0, none⟩) 3 3] w (.tuple #[BV z, .int .u8 fl]))  :
  CR_ 34 #[.int .u8 f, .int .u8 m, BV a, BV b, BV c] w (.tuple #[BV z, .int .u8 fl, .int .i64 0]) := by
 have H := Own.start w
 go_enter Tryz.func34, Tryz.ntmps34
 exact walk1
theorem r15_Fnb (f m a b c z : Nat) (fl : Int) (sa sb sc : Bool) (w : World) (cT : ∀ w g, Blk 27 w g (cat3 (bc a) (bc b) (bc c)) → CR_ 82 #[.int .u8 f, .int .u8 m, .slice (some ⟨g, 0, none⟩) 3 3] w (.bool true)) (cIa : CK_ 53 #[.int .u8 f, BV a] (.bool false)) (cIb : CK_ 53 #[.int .u8 f, BV b] (.bool false)) (cZa : CK_ 84 #[.int .u8 f, BV a] (.bool false)) (cZb : CK_ 84 #[.int .u8 f, BV b] (.bool false)) (cNa : CK_ 51 #[.int .u8 f, BV a] (.bool false)) (cNb : CK_ 51 #[.int .u8 f, BV b] (.bool true)) (cC : ∀ w g, Blk 27 w g (cat3 (bc a) (bc b) (bc c)) → CR_ 83 #[.int .u8 f, .slice (some ⟨g, 0, none⟩) 3 3] w (.tuple #[BV z, .int .u8 fl]))  :
  CR_ 34 #[.int .u8 f, .int .u8 m, BV a, BV b, BV c] w (.tuple #[BV z, .int .u8 fl, .int .i64 0]) := by
 have H := Own.start w
 go_enter Tryz.func34, Tryz.ntmps34
 exact walk1
theorem r15_Fnc (f m a b c z : Nat) (fl : Int) (sa sb sc : Bool) (w : World) (cT : ∀ w g, Blk 27 w g (cat3 (bc a) (bc b) (bc c)) → CR_ 82 #[.int .u8 f, .int .u8 m, .slice (some ⟨g, 0, none⟩) 3 3] w (.bool true)) (cIa : CK_ 53 #[.int .u8 f, BV a] (.bool false)) (cIb : CK_ 53 #[.int .u8 f, BV b] (.bool false)) (cZa : CK_ 84 #[.int .u8 f, BV a] (.bool false)) (cZb : CK_ 84 #[.int .u8 f, BV b] (.bool false)) (cNa : CK_ 51 #[.int .u8 f, BV a] (.bool false)) (cNb : CK_ 51 #[.int .u8 f, BV b] (.bool false)) (cNc : CK_ 51 #[.int .u8 f, BV c] (.bool true)) (cC : ∀ w g, Blk 27 w g (cat3 (bc a) (bc b) (bc c)) → CR_ 83 #[.int .u8 f, .slice (some ⟨g, 0, none⟩) 3 3] w (.tuple #[BV z, .int .u8 fl]))  :
  CR_ 34 #[.int .u8 f, .int .u8 m, BV a, BV b, BV c] w (.tuple #[BV z, .int .u8 fl, .int .i64 0]) := by
 have H := Own.start w
 go_enter Tryz.func34, Tryz.ntmps34
 exact walk1
theorem r15_Fi (f m a b c z : Nat) (fl : Int) (sa sb sc : Bool) (w : World) (cT : ∀ w g, Blk 27 w g (cat3 (bc a) (bc b) (bc c)) → CR_ 82 #[.int .u8 f, .int .u8 m, .slice (some ⟨g, 0, none⟩) 3 3] w (.bool true)) (cIa : CK_ 53 #[.int .u8 f, BV a] (.bool false)) (cIb : CK_ 53 #[.int .u8 f, BV b] (.bool false)) (cZa : CK_ 84 #[.int .u8 f, BV a] (.bool false)) (cZb : CK_ 84 #[.int .u8 f, BV b] (.bool false)) (cNa : CK_ 51 #[.int .u8 f, BV a] (.bool false)) (cNb : CK_ 51 #[.int .u8 f, BV b] (.bool false)) (cNc : CK_ 51 #[.int .u8 f, BV c] (.bool false)) (cSa : CK_ 50 #[.int .u8 f, BV a] (.bool sa)) (cSb : CK_ 50 #[.int .u8 f, BV b] (.bool sb)) (cIc : CK_ 53 #[.int .u8 f, BV c] (.bool true))  :
  CR_ 34 #[.int .u8 f, .int .u8 m, BV a, BV b, BV c] w (.tuple #[BV c, .int .u8 0, .int .i64 0]) := by
 have H := Own.start w
 go_enter Tryz.func34, Tryz.ntmps34
 exact walk1
theorem r15_Fv (f m a b c z : Nat) (fl : Int) (sa sb sc na nb nc np nq : Bool) (n1 d1 n2 d2 n4 d4 n5 d5 n3 d3 : ByteArray) (e1 e2 e4 e5 e3 er : Int) (w : World) (cT : ∀ w g, Blk 27 w g (cat3 (bc a) (bc b) (bc c)) → CR_ 82 #[.int .u8 f, .int .u8 m, .slice (some ⟨g, 0, none⟩) 3 3] w (.bool true)) (cIa : CK_ 53 #[.int .u8 f, BV a] (.bool false)) (cIb : CK_ 53 #[.int .u8 f, BV b] (.bool false)) (cZa : CK_ 84 #[.int .u8 f, BV a] (.bool false)) (cZb : CK_ 84 #[.int .u8 f, BV b] (.bool false)) (cNa : CK_ 51 #[.int .u8 f, BV a] (.bool false)) (cNb : CK_ 51 #[.int .u8 f, BV b] (.bool false)) (cNc : CK_ 51 #[.int .u8 f, BV c] (.bool false)) (cSa : CK_ 50 #[.int .u8 f, BV a] (.bool sa)) (cSb : CK_ 50 #[.int .u8 f, BV b] (.bool sb)) (cIc : CK_ 53 #[.int .u8 f, BV c] (.bool false)) (cVa : CK_ 88 #[.int .u8 f, BV a] (.tuple #[.agg (exC na n1 d1 e1), .int .i64 0])) (cVb : CK_ 88 #[.int .u8 f, BV b] (.tuple #[.agg (exC nb n2 d2 e2), .int .i64 0])) (cVc : CK_ 88 #[.int .u8 f, BV c] (.tuple #[.agg (exC nc n4 d4 e4), .int .i64 0])) (cP : CK_ 118 #[.agg (exC na n1 d1 e1), .agg (exC nb n2 d2 e2)] (.tuple #[.agg (exC np n5 d5 e5), .int .i64 0])) (cQ : CK_ 107 #[.agg (exC np n5 d5 e5), .agg (exC nc n4 d4 e4)] (.tuple #[.agg (exC nq n3 d3 e3), .int .i64 0])) (f_n : n3.toList.isEmpty = false) (f_n' : ¬ (n3.toList = [])) (cR : CK_ 64 #[.int .u8 f, .int .u8 m, .agg (exC nq n3 d3 e3)] (.tuple #[BV z, .int .u8 fl, .int .i64 er]))  :
  CR_ 34 #[.int .u8 f, .int .u8 m, BV a, BV b, BV c] w (.tuple #[BV z, .int .u8 fl, .int .i64 er]) := by
 have H := Own.start w
 go_enter Tryz.func34, Tryz.ntmps34
 exact walk1
theorem r15_Fo (f m a b c z : Nat) (fl : Int) (sa sb sc na nb nc np nq : Bool) (n1 d1 n2 d2 n4 d4 n5 d5 n3 d3 : ByteArray) (e1 e2 e4 e5 e3 er : Int) (w : World) (cT : ∀ w g, Blk 27 w g (cat3 (bc a) (bc b) (bc c)) → CR_ 82 #[.int .u8 f, .int .u8 m, .slice (some ⟨g, 0, none⟩) 3 3] w (.bool true)) (cIa : CK_ 53 #[.int .u8 f, BV a] (.bool false)) (cIb : CK_ 53 #[.int .u8 f, BV b] (.bool false)) (cZa : CK_ 84 #[.int .u8 f, BV a] (.bool false)) (cZb : CK_ 84 #[.int .u8 f, BV b] (.bool false)) (cNa : CK_ 51 #[.int .u8 f, BV a] (.bool false)) (cNb : CK_ 51 #[.int .u8 f, BV b] (.bool false)) (cNc : CK_ 51 #[.int .u8 f, BV c] (.bool false)) (cSa : CK_ 50 #[.int .u8 f, BV a] (.bool sa)) (cSb : CK_ 50 #[.int .u8 f, BV b] (.bool sb)) (cIc : CK_ 53 #[.int .u8 f, BV c] (.bool false)) (cVa : CK_ 88 #[.int .u8 f, BV a] (.tuple #[.agg (exC na n1 d1 e1), .int .i64 0])) (cVb : CK_ 88 #[.int .u8 f, BV b] (.tuple #[.agg (exC nb n2 d2 e2), .int .i64 0])) (cVc : CK_ 88 #[.int .u8 f, BV c] (.tuple #[.agg (exC nc n4 d4 e4), .int .i64 0])) (cP : CK_ 118 #[.agg (exC na n1 d1 e1), .agg (exC nb n2 d2 e2)] (.tuple #[.agg (exC np n5 d5 e5), .int .i64 0])) (cQ : CK_ 107 #[.agg (exC np n5 d5 e5), .agg (exC nc n4 d4 e4)] (.tuple #[.agg (exC nq n3 d3 e3), .int .i64 0])) (f_n : n3.toList.isEmpty = true) (f_n' : n3.toList = []) (cO : CK_ 106 #[.int .u8 f, .int .u8 m] (BV z)) :
  CR_ 34 #[.int .u8 f, .int .u8 m, BV a, BV b, BV c] w (.tuple #[BV z, .int .u8 0, .int .i64 0]) := by
 have H := Own.start w
 go_enter Tryz.func34, Tryz.ntmps34
 exact walk1
theorem r15Turned_no (f m a b c x z t : Nat) (fl er : Int) (g1 g3 : Bool) (w : World) (cT : ∀ w g, Blk 27 w g (cat3 (bc a) (bc b) (bc c)) → CR_ 82 #[.int .u8 f, .int .u8 m, .slice (some ⟨g, 0, none⟩) 3 3] w (.bool false))  :
  CR_ 39 #[.int .u8 f, .int .u8 m, BV a, BV b, BV c, .bool g1, .bool g3] w (.tuple #[BV 0, .int .u8 0, .int .i64 2]) := by
 have H := Own.start w
 go_enter Tryz.func39, Tryz.ntmps39
 exact walk3
theorem r15Turned_ft (f m a b c x z t : Nat) (fl er : Int) (w : World) (cT : ∀ w g, Blk 27 w g (cat3 (bc a) (bc b) (bc c)) → CR_ 82 #[.int .u8 f, .int .u8 m, .slice (some ⟨g, 0, none⟩) 3 3] w (.bool true)) (cFc : CK_ 109 #[.int .u8 f, BV c] (BV z)) (cM : CK_ 34 #[.int .u8 f, .int .u8 m, BV a, BV b, BV z] (.tuple #[BV t, .int .u8 fl, .int .i64 er]))  :
  CR_ 39 #[.int .u8 f, .int .u8 m, BV a, BV b, BV c, .bool false, .bool true] w (.tuple #[BV t, .int .u8 fl, .int .i64 er]) := by
 have H := Own.start w
 go_enter Tryz.func39, Tryz.ntmps39
 exact walk3
theorem r15Turned_tf (f m a b c x z t : Nat) (fl er : Int) (w : World) (cT : ∀ w g, Blk 27 w g (cat3 (bc a) (bc b) (bc c)) → CR_ 82 #[.int .u8 f, .int .u8 m, .slice (some ⟨g, 0, none⟩) 3 3] w (.bool true)) (cFa : CK_ 109 #[.int .u8 f, BV a] (BV x)) (cM : CK_ 34 #[.int .u8 f, .int .u8 m, BV x, BV b, BV c] (.tuple #[BV t, .int .u8 fl, .int .i64 er]))  :
  CR_ 39 #[.int .u8 f, .int .u8 m, BV a, BV b, BV c, .bool true, .bool false] w (.tuple #[BV t, .int .u8 fl, .int .i64 er]) := by
 have H := Own.start w
 go_enter Tryz.func39, Tryz.ntmps39
 exact walk3
theorem r15Turned_tt (f m a b c x z t : Nat) (fl er : Int) (w : World) (cT : ∀ w g, Blk 27 w g (cat3 (bc a) (bc b) (bc c)) → CR_ 82 #[.int .u8 f, .int .u8 m, .slice (some ⟨g, 0, none⟩) 3 3] w (.bool true)) (cFa : CK_ 109 #[.int .u8 f, BV a] (BV x)) (cFc : CK_ 109 #[.int .u8 f, BV c] (BV z)) (cM : CK_ 34 #[.int .u8 f, .int .u8 m, BV x, BV b, BV z] (.tuple #[BV t, .int .u8 fl, .int .i64 er]))  :
  CR_ 39 #[.int .u8 f, .int .u8 m, BV a, BV b, BV c, .bool true, .bool true] w (.tuple #[BV t, .int .u8 fl, .int .i64 er]) := by
 have H := Own.start w
 go_enter Tryz.func39, Tryz.ntmps39
 exact walk3
theorem r5Sub_any (a b : Nat) (w : World) (h : b ≤ a) (ha : nb a ≤ 100000) : CR_ 184 #[.string (strB a), .string (strB b)] w (.tuple #[.string (strB (a - b)), .int .i64 0]) :=
 r5Sub_w (strB a) (strB b) (strB (a - b)) (cmpN a b) w (decide_eq_false (by unfold cmpN; rw [if_neg (by omega)]; split <;> omega)) (fun w => r5Cmp_any a b w) (fun w => z05_sub.calls _ _ _ _ w (sub_strB a b _ h (by omega) (Nat.le_refl _)))
theorem len_shl (n k p : Nat) (h : lenN n ≤ p) : lenN (n * 2 ^ k) ≤ p + k := by
 refine (lenN_le _ _).2 ?_
 rw [Nat.pow_add]
 exact Nat.mul_lt_mul_of_pos_right ((lenN_le _ _).1 h) (Nat.two_pow_pos k)
theorem r6Two_any (x y : Bool) (n1 n2 : Nat) (e1 e2 : Int) (w : World) (l1 : lenN n1 ≤ 300) (l2 : lenN n2 ≤ 300) (q1 : -40000 ≤ e1) (q2 : e1 ≤ 40000) (q3 : -40000 ≤ e2) (q4 : e2 ≤ 40000) :
  CR_ 183 #[exV x n1 1 e1, exV y n2 1 e2] w (.tuple #[.string (strB (n1 * 2 ^ (e1 - min e1 e2).toNat)), .string (strB (n2 * 2 ^ (e2 - min e1 e2).toNat)), .int .i64 (min e1 e2), .int .i64 0]) := by
 have b1 : nb n1 ≤ 40 := by unfold nb; omega
 have b2 : nb n2 ≤ 40 := by unfold nb; omega
 have cA := fun w => r5Mul_any n1 1 w (by have : nb 1 ≤ 1 := (by decide); omega)
 have cB := fun w => r5Mul_any n2 1 w (by have : nb 1 ≤ 1 := (by decide); omega)
 rw [Nat.mul_one] at cA cB
 obtain ⟨k1, hk1⟩ : ∃ k1 : Nat, (k1 : Int) = e1 - min e1 e2 := ⟨(e1 - min e1 e2).toNat, by omega⟩
 obtain ⟨k2, hk2⟩ : ∃ k2 : Nat, (k2 : Int) = e2 - min e1 e2 := ⟨(e2 - min e1 e2).toNat, by omega⟩
 rw [← hk1, ← hk2, Int.toNat_natCast, Int.toNat_natCast]
 have cL := fun w => r5Left_any n1 k1 w (by omega) (Or.inr (by omega)) (by omega)
 have cl := fun w => r5Left_any n2 k2 w (by omega) (Or.inr (by omega)) (by omega)
 by_cases h : e2 < e1
 ·have hm : min e1 e2 = e2 := by omega
  rw [hm] at hk1 hk2 ⊢
  rw [hk1] at cL
  rw [hk2, Int.sub_self] at cl
  exact r6Two_t x y false _ _ _ _ _ _ _ _ ⟨#[]⟩ ⟨#[]⟩ ⟨#[]⟩ ⟨#[]⟩ e1 e2 0 0 w (by omega) (by omega) (by omega) (by omega) (decide_eq_true h) cA cB cL cl
 ·have hm : min e1 e2 = e1 := by omega
  rw [hm] at hk1 hk2 ⊢
  rw [hk1, Int.sub_self] at cL
  rw [hk2] at cl
  exact r6Two_f x y false _ _ _ _ _ _ _ _ ⟨#[]⟩ ⟨#[]⟩ ⟨#[]⟩ ⟨#[]⟩ e1 e2 0 0 w (by omega) (by omega) (by omega) (by omega) (decide_eq_false h) cA cB cL cl
def sumS (x y : Bool) (A B : Nat) : Bool := if x = y then x else if B ≤ A then x else y
def sumM (x y : Bool) (A B : Nat) : Nat := if x = y then A + B else if B ≤ A then A - B else B - A
theorem r6Add_any (x y : Bool) (n1 n2 : Nat) (e1 e2 : Int) (w : World) (h1 : n1 ≠ 0) (h2 : n2 ≠ 0) (l1 : lenN n1 ≤ 300) (l2 : lenN n2 ≤ 300) (q1 : -40000 ≤ e1) (q2 : e1 ≤ 40000) (q3 : -40000 ≤ e2) (q4 : e2 ≤ 40000) (A B : Nat) (hA : A = n1 * 2 ^ (e1 - min e1 e2).toNat) (hB : B = n2 * 2 ^ (e2 - min e1 e2).toNat) :
  CR_ 107 #[exV x n1 1 e1, exV y n2 1 e2] w (.tuple #[exV (negX' (sumS x y A B) (sumM x y A B)) (numX (sumM x y A B) 1) (denX (sumM x y A B) 1) (expX (sumM x y A B) 1 (min e1 e2)), .int .i64 0]) := by
 have cT := fun w => r6Two_any x y n1 n2 e1 e2 w l1 l2 q1 q2 q3 q4
 rw [← hA, ← hB] at cT
 have lA : lenN A ≤ 300 + (e1 - min e1 e2).toNat := by rw [hA]; exact len_shl _ _ _ l1
 have lB : lenN B ≤ 300 + (e2 - min e1 e2).toNat := by rw [hB]; exact len_shl _ _ _ l2
 have bA : nb A ≤ 16000 := by unfold nb; omega
 have bB : nb B ≤ 16000 := by unfold nb; omega
 have b1 : nb 1 ≤ 1 := by decide
 have cM := fun w => r5Mul_any 1 1 w (by omega)
 obtain ⟨f1, f1'⟩ := strE_full n1 h1
 obtain ⟨f2, f2'⟩ := strE_full n2 h2
 have mk := fun g n w hn => r6Make_any g n 1 (min e1 e2) w hn (by omega) (by decide) (by omega) (by omega)
 cases x <;> cases y
 ·have cA := fun w => r5Add_any A B w (by omega) (by omega)
  exact r6Add_sf _ _ _ _ _ _ _ ⟨#[]⟩ ⟨#[]⟩ _ _ _ _ e1 e2 _ _ w (by omega) (by omega) (by omega) (by omega) f1 f1' f2 f2' cT cM cA (fun w => mk false (A + B) w (Nat.le_trans (nb_add A B 16000 bA bB) (by decide)))
 ·by_cases h : B ≤ A
  ·have e0 : sumS false true A B = false ∧ sumM false true A B = A - B := ⟨by unfold sumS; rw [if_neg (by decide), if_pos h], by unfold sumM; rw [if_neg (by decide), if_pos h]⟩
   rw [e0.1, e0.2]
   exact r6Add_fy _ _ _ _ _ _ _ ⟨#[]⟩ ⟨#[]⟩ _ _ _ _ e1 e2 _ _ w (by omega) (by omega) (by omega) (by omega) f1 f1' f2 f2' cT cM _ (fun w => r5Cmp_any A B w) (decide_eq_true (by unfold cmpN; rw [if_neg (by omega)]; split <;> omega)) (fun w => r5Sub_any A B w h (by omega)) (fun w => mk false (A - B) w (Nat.le_trans (nb_mono _ _ (Nat.sub_le _ _)) (by omega)))
  ·have e0 : sumS false true A B = true ∧ sumM false true A B = B - A := ⟨by unfold sumS; rw [if_neg (by decide), if_neg h], by unfold sumM; rw [if_neg (by decide), if_neg h]⟩
   rw [e0.1, e0.2]
   exact r6Add_fn _ _ _ _ _ _ _ ⟨#[]⟩ ⟨#[]⟩ _ _ _ _ e1 e2 _ _ w (by omega) (by omega) (by omega) (by omega) f1 f1' f2 f2' cT cM _ (fun w => r5Cmp_any A B w) (decide_eq_false (by unfold cmpN; rw [if_pos (by omega)]; omega)) (fun w => r5Sub_any B A w (by omega) (by omega)) (fun w => mk true (B - A) w (Nat.le_trans (nb_mono _ _ (Nat.sub_le _ _)) (by omega)))
 ·by_cases h : B ≤ A
  ·have e0 : sumS true false A B = true ∧ sumM true false A B = A - B := ⟨by unfold sumS; rw [if_neg (by decide), if_pos h], by unfold sumM; rw [if_neg (by decide), if_pos h]⟩
   rw [e0.1, e0.2]
   exact r6Add_ty _ _ _ _ _ _ _ ⟨#[]⟩ ⟨#[]⟩ _ _ _ _ e1 e2 _ _ w (by omega) (by omega) (by omega) (by omega) f1 f1' f2 f2' cT cM _ (fun w => r5Cmp_any A B w) (decide_eq_true (by unfold cmpN; rw [if_neg (by omega)]; split <;> omega)) (fun w => r5Sub_any A B w h (by omega)) (fun w => mk true (A - B) w (Nat.le_trans (nb_mono _ _ (Nat.sub_le _ _)) (by omega)))
  ·have e0 : sumS true false A B = false ∧ sumM true false A B = B - A := ⟨by unfold sumS; rw [if_neg (by decide), if_neg h], by unfold sumM; rw [if_neg (by decide), if_neg h]⟩
   rw [e0.1, e0.2]
   exact r6Add_tn _ _ _ _ _ _ _ ⟨#[]⟩ ⟨#[]⟩ _ _ _ _ e1 e2 _ _ w (by omega) (by omega) (by omega) (by omega) f1 f1' f2 f2' cT cM _ (fun w => r5Cmp_any A B w) (decide_eq_false (by unfold cmpN; rw [if_pos (by omega)]; omega)) (fun w => r5Sub_any B A w (by omega) (by omega)) (fun w => mk false (B - A) w (Nat.le_trans (nb_mono _ _ (Nat.sub_le _ _)) (by omega)))
 ·have cA := fun w => r5Add_any A B w (by omega) (by omega)
  exact r6Add_st _ _ _ _ _ _ _ ⟨#[]⟩ ⟨#[]⟩ _ _ _ _ e1 e2 _ _ w (by omega) (by omega) (by omega) (by omega) f1 f1' f2 f2' cT cM cA (fun w => mk true (A + B) w (Nat.le_trans (nb_add A B 16000 bA bB) (by decide)))
theorem xp_tight (f a : Nat) (hf : fitsB f a = true) (hc : Fin0 f a) : -16494 ≤ xpN f a ∧ xpN f a ≤ 16384 := by
 obtain ⟨h1, h2, h3, h5, h6, h7, h8, h9⟩ := formK f ((fits_iff f a).1 hf).1
 have k := (can_of f a hf hc).1
 have := k.ge; have := k.le; omega
theorem oneS (n : Nat) (e : Int) (hn : n ≠ 0) (h1 : lenN n ≤ 60000) (h3 : -130000 ≤ e) (h4 : e ≤ 130000) : OneF (numX n 1) (denX n 1) (expX n 1 e) := by
 obtain ⟨o1, o2, o3⟩ := mkx_odd n 1 hn (by decide)
 obtain ⟨-, -, x3, -⟩ := mkx_parts n 1 hn (by decide)
 obtain ⟨a1, a2, a3⟩ := numX_one n hn e
 have z1 := lowZ_lt n hn
 have l1 : lenN (numX n 1) ≤ lenN n := by rw [a1]; exact lenN_div_le _ _
 have l2 : lenN 1 ≤ 1 := (lenN_le 1 1).2 (by decide)
 exact ⟨x3, o1, o2, o3, by omega, by rw [a2]; omega, by rw [a3]; omega, by rw [a3]; omega⟩
theorem rndS (f m : Nat) (g : Bool) (n : Nat) (e : Int) (hf : f < 4) (hn : n ≠ 0) : rndX f m g (numX n 1) (denX n 1) (expX n 1 e) = packB f m g n e false := by
 obtain ⟨a1, a2, a3⟩ := numX_one n hn e
 rw [a1, a2, a3, rnd_odd f m g n e hn, rnd_whole f m g n e hf hn]
theorem sumX_SM (f m : Nat) (x y : Bool) (s t : Nat) (e d : Int) (hs : s ≠ 0) (A B : Nat) (hA : A = s * 2 ^ (e - min e d).toNat) (hB : B = t * 2 ^ (d - min e d).toNat) :
  sumX f m x s e y t d = if sumM x y A B = 0 then (zeroN f (decide (m = 2)), 0) else packB f m (sumS x y A B) (sumM x y A B) (min e d) false := by
 have hA0 : A ≠ 0 := by rw [hA]; exact Nat.mul_ne_zero hs (Nat.ne_of_gt (Nat.two_pow_pos _))
 unfold sumX sumM sumS
 rw [← hA, ← hB]
 by_cases h : x = y
 ·rw [if_pos h, if_pos h, if_pos h, if_neg (by omega)]
 ·rw [if_neg h, if_neg h, if_neg h]
  rcases Nat.lt_trichotomy A B with h1 | h1 | h1
  ·rw [if_neg (show ¬ A = B by omega), if_neg (show ¬ B < A by omega), if_neg (show ¬ B ≤ A by omega), if_neg (show ¬ B ≤ A by omega), if_neg (show ¬ B - A = 0 by omega)]
  ·rw [if_pos h1, if_pos (show B ≤ A by omega), if_pos (show A - B = 0 by omega)]
  ·rw [if_neg (show ¬ A = B by omega), if_pos h1, if_pos (show B ≤ A by omega), if_pos (show B ≤ A by omega), if_neg (show ¬ A - B = 0 by omega)]
theorem r8ValueZ_any (f a : Nat) (w : World) (fa : fitsB f a = true) (h1 : nanB (clsN f a) = false) (i1 : infB (clsN f a) = false) (na : sigN f a = 0) :
  CR_ 88 #[.int .u8 f, BV a] w (.tuple #[.agg (exC false ⟨#[]⟩ ⟨#[1]⟩ 0), .int .i64 0]) := by
 have h := r8Value_any f a w fa h1 i1
 have e1 : exV (negX' (negN f a) (sigN f a)) (numX (sigN f a) 1) (denX (sigN f a) 1) (expX (sigN f a) 1 (xpN f a)) = .agg (exC false ⟨#[]⟩ ⟨#[1]⟩ 0) := by
  show Value.agg (exC _ (strB _) (strB _) _) = _
  unfold negX' numX denX expX
  rw [if_pos na, if_pos na, if_pos na, if_pos na, strB_one, strB_zero]
 rw [e1] at h
 exact h
theorem sig_zer (f a : Nat) (h : zerB (clsN f a) = true) : sigN f a = 0 := by
 unfold zerB at h
 simp only [Bool.or_eq_true, decide_eq_true_iff] at h
 unfold sigN; rw [if_neg (by omega), if_neg (by omega)]
theorem fin0_of (f a : Nat) (h1 : nanB (clsN f a) = false) (i1 : infB (clsN f a) = false) (z1 : zerB (clsN f a) = false) : Fin0 f a := by
 unfold nanB at h1
 unfold infB at i1
 unfold zerB at z1
 simp only [Bool.or_eq_false_iff, decide_eq_false_iff_not] at h1 i1 z1
 rcases cls_sort f a with c | c | c | c
 ·omega
 ·omega
 ·omega
 ·exact c
theorem len_sum (S A B p : Nat) (h : S ≤ A + B) (hA : lenN A ≤ p) (hB : lenN B ≤ p) : lenN S ≤ p + 1 := by
 have h1 := (lenN_le A p).1 hA
 have h2 := (lenN_le B p).1 hB
 refine (lenN_le _ _).2 ?_
 rw [Nat.pow_succ]; omega
theorem rnd_self (f m a : Nat) (fa : fitsB f a = true) (hc : Fin0 f a) (na : sigN f a ≠ 0) : rndX f m (negN f a) (sO f a) 1 (xO f a) = (a, 0) := by
 have hf := ((fits_iff f a).1 fa).1
 obtain ⟨c1, c2⟩ := can_of f a fa hc
 rw [show rndX f m (negN f a) (sO f a) 1 (xO f a) = rndX f m (negN f a) (sigN f a) 1 (xpN f a) from rnd_odd f m (negN f a) (sigN f a) (xpN f a) na, ← rnd_whole f m _ _ _ hf na, pack_can f m _ _ _ hf c1, c2]
theorem flip_fits (f b : Nat) (h : fitsB f b = true) : fitsB f (flipN f b) = true := by
 unfold flipN; rw [h]
 exact (mkN_fields f ((fits_iff f b).1 h).1 (!negN f b) (expN f b) (b % 2 ^ (pF f - 1)) (Nat.mod_lt _ (two_pos _)) (expN_lt f b ((fits_iff f b).1 h).1)).2.2.2
theorem r11Nought_any (f m : Nat) (w : World) (hf : f < 4) : CR_ 106 #[.int .u8 f, .int .u8 m] w (BV (zeroN f (decide (m = 2)))) := by
 by_cases h : m = 2
 ·subst h
  rw [decide_eq_true rfl]
  exact r11Nought_t f _ w (fun w => r7Zero_any f true w hf)
 ·rw [decide_eq_false h]
  exact r11Nought_f f m _ w (by rw [beq_eq_false_iff_ne]; omega) (fun w => r7Zero_any f false w hf)
def canon3 (f c d e : Nat) : Nat × Nat := (nanN f, cond (decide (c = 8) || decide (d = 8) || decide (e = 8)) 16 0)
def fmaR (f m a b c : Nat) : Nat × Nat :=
 if (infB (clsN f a) && zerB (clsN f b) || infB (clsN f b) && zerB (clsN f a)) = true then (nanN f, 16)
 else if (nanB (clsN f a) || nanB (clsN f b) || nanB (clsN f c)) = true then canon3 f (clsN f a) (clsN f b) (clsN f c)
 else if (infB (clsN f a) || infB (clsN f b)) = true then
  (if (infB (clsN f c) && (belowN4 (clsN f c) != (belowN4 (clsN f a) != belowN4 (clsN f b)))) = true then (nanN f, 16) else (infN f (belowN4 (clsN f a) != belowN4 (clsN f b)), 0))
 else if infB (clsN f c) = true then (c, 0)
 else if ((zerB (clsN f a) || zerB (clsN f b)) && zerB (clsN f c)) = true then
  (if belowN4 (clsN f c) = (belowN4 (clsN f a) != belowN4 (clsN f b)) then (c, 0) else (zeroN f (decide (m = 2)), 0))
 else if (zerB (clsN f a) || zerB (clsN f b)) = true then (c, 0)
 else if zerB (clsN f c) = true then packB f m (belowN4 (clsN f a) != belowN4 (clsN f b)) (sigN f a * sigN f b) (xpN f a + xpN f b) false
 else sumX f m (belowN4 (clsN f a) != belowN4 (clsN f b)) (sigN f a * sigN f b) (xpN f a + xpN f b) (belowN4 (clsN f c)) (sigN f c) (xpN f c)
def triOk (f m a b c : Nat) : Bool := decide (f < 4) && decide (m < 5) && (fitsB f a && fitsB f b && fitsB f c)
def fmaN (f m a b c : Nat) : Nat × Nat × Int := cond (triOk f m a b c) ((fmaR f m a b c).1, (fmaR f m a b c).2, 0) (0, 0, 2)
theorem sum_core (f m : Nat) (nx : Bool) (sx : Nat) (ex : Int) (ny : Bool) (sy : Nat) (ey : Int) (hf : f < 4) (hx : sx ≠ 0) (hy : sy ≠ 0) (hxl : sx < 2 ^ 226) (hyl : sy < 2 ^ 226) :
  (ey < ex - (381 - lenN sx) → sumJ f m nx (sx * 2 ^ (381 - lenN sx)) ny (jamN sy (ex - (381 - lenN sx : Int) - ey).toNat) (ex - (381 - lenN sx)) = sumX f m nx sx ex ny sy ey) ∧
  (ex - (381 - lenN sx) ≤ ey → sumJ f m nx (sx * 2 ^ (381 - lenN sx)) ny (sy * 2 ^ (ey - (ex - (381 - lenN sx : Int))).toNat) (ex - (381 - lenN sx)) = sumX f m nx sx ex ny sy ey) := by
 obtain ⟨h1, h2, h3, h4, h5, h6, h7, h8⟩ := formK f hf
 have hl1 := (lenN_le sx 226).2 hxl
 have hl2 := lenN_pos sx hx
 obtain ⟨n, hn⟩ : ∃ n, 381 - lenN sx = n := ⟨_, rfl⟩
 have hni : (381 - (lenN sx : Int)) = n := by omega
 rw [hni, hn]
 have hS0 : sx * 2 ^ n ≠ 0 := fun h => by rcases Nat.mul_eq_zero.1 h with h | h; exact hx h; exact absurd h (Nat.ne_of_gt (two_pos _))
 constructor
 ·intro hlt
  obtain ⟨k, hk⟩ : ∃ k, (ex - (n : Int) - ey).toNat = k := ⟨_, rfl⟩
  rw [hk, sumJ_eq f m nx _ ny sy k _ hf hS0 hy ?_]
  ·rw [← sumX_scale f m nx sx ex ny sy ey ey (by omega) hx hy, show ex - (n : Int) - k = ey by omega, Nat.mul_assoc, ← Nat.pow_add, show n + k = (ex - ey).toNat by omega, show (ey - ey).toNat = 0 by omega, Nat.pow_zero, Nat.mul_one]
  ·intro _
   obtain ⟨q, hq⟩ : ∃ q : Nat, lenN sx - 1 + n = q := ⟨_, rfl⟩
   have hbig : 2 ^ q ≤ sx * 2 ^ n := by
    have := lenN_ge sx hx
    have h2 : 2 ^ (lenN sx - 1) * 2 ^ n ≤ sx * 2 ^ n := Nat.mul_le_mul_right _ this
    rw [← Nat.pow_add, hq] at h2; exact h2
   have hT : sy / 2 ^ k ≤ sy := Nat.div_le_self _ _
   have hev : sx * 2 ^ n % 2 = 0 := by
    obtain ⟨j, hj⟩ : ∃ j, n = j + 1 := ⟨n - 1, by omega⟩
    rw [hj, Nat.pow_succ, ← Nat.mul_assoc]; exact Nat.mul_mod_left _ _
   have hp : 2 ^ 227 ≤ 2 ^ q := Nat.pow_le_pow_right (by decide) (by omega)
   have hp2 : 2 ^ 227 = 2 ^ 226 * 2 := Nat.pow_succ 2 226
   have hp3 : 2 ^ 116 ≤ 2 ^ 226 := Nat.pow_le_pow_right (by decide) (by decide)
   generalize sy / 2 ^ k = T at *
   generalize sx * 2 ^ n = Z at *
   generalize 2 ^ q = A at *
   generalize 2 ^ 227 = B at *
   refine ⟨hev, ?_, ?_⟩
   ·rcases Nat.lt_or_ge (lenN (Z - T - 1)) 116 with h | h
    ·have h9 := (lenN_le (Z - T - 1) 115).1 (by omega)
     have hp4 : 2 ^ 116 = 2 ^ 115 * 2 := Nat.pow_succ 2 115
     generalize 2 ^ 226 = C at *
     generalize 2 ^ 116 = D at *
     generalize 2 ^ 115 = F at *
     omega
    ·omega
   ·have : 1 ≤ 2 ^ 116 := two_pos 116
    generalize 2 ^ 226 = C at *
    generalize 2 ^ 116 = D at *
    omega
 ·intro hge
  obtain ⟨k, hk⟩ : ∃ k, (ey - (ex - (n : Int))).toNat = k := ⟨_, rfl⟩
  rw [hk]
  have hy0 : sy * 2 ^ k ≠ 0 := fun h => by rcases Nat.mul_eq_zero.1 h with h | h; exact hy h; exact absurd h (Nat.ne_of_gt (two_pos _))
  have hj : jamN (sy * 2 ^ k) 0 = sy * 2 ^ k := by unfold jamN; rw [Nat.pow_zero, Nat.mod_one, if_pos rfl, Nat.div_one]
  have := sumJ_eq f m nx (sx * 2 ^ n) ny (sy * 2 ^ k) 0 (ex - n) hf hS0 hy0 (fun h => by rw [Nat.pow_zero, Nat.mod_one] at h; exact absurd rfl h)
  rw [hj] at this
  rw [this, Nat.pow_zero, Nat.mul_one, Int.natCast_zero, Int.sub_zero, ← sumX_scale f m nx sx ex ny sy ey (ex - n) (by omega) hx hy, hk, show (ex - (ex - (n : Int))).toNat = n by omega]
theorem kd_four (c : Nat) : (nanB c = true ∧ infB c = false ∧ zerB c = false) ∨ (nanB c = false ∧ infB c = true ∧ zerB c = false) ∨ (nanB c = false ∧ infB c = false ∧ zerB c = true) ∨ (nanB c = false ∧ infB c = false ∧ zerB c = false) := by
 unfold nanB infB zerB
 by_cases h8 : 8 ≤ c
 ·left; simp; omega
 ·by_cases h0 : c = 0 ∨ c = 7
  ·right; left; rcases h0 with rfl | rfl <;> decide
  ·by_cases h3 : c = 3 ∨ c = 4
   ·right; right; left; rcases h3 with rfl | rfl <;> decide
   ·right; right; right; simp; omega
theorem below_nn (f a : Nat) (h : nanB (clsN f a) = false) : belowN4 (clsN f a) = negN f a := below_neg f a (by unfold nanB at h; simpa using h)
theorem sumX_low (f m : Nat) (x y : Bool) (s t i j : Nat) (e d : Int) (hs : s ≠ 0) (ht : t ≠ 0) : sumX f m x s (e + i) y t (d + j) = sumX f m x (s * 2 ^ i) e y (t * 2 ^ j) d := by
 have p : ∀ k : Nat, (2 : Nat) ^ k ≠ 0 := fun k => Nat.ne_of_gt (Nat.two_pow_pos k)
 have e1 := sumX_scale f m x s (e + i) y t (d + j) (min e d) (by omega) hs ht
 have e2 := sumX_scale f m x (s * 2 ^ i) e y (t * 2 ^ j) d (min e d) (by omega) (Nat.mul_ne_zero hs (p i)) (Nat.mul_ne_zero ht (p j))
 have k1 : (e + i - min e d).toNat = i + (e - min e d).toNat := by omega
 have k2 : (d + j - min e d).toNat = j + (d - min e d).toNat := by omega
 rw [k1, k2, Nat.pow_add, Nat.pow_add, ← Nat.mul_assoc, ← Nat.mul_assoc] at e1
 rw [← e1, e2]
theorem prod_parts (f a b : Nat) (na : sigN f a ≠ 0) (nb : sigN f b ≠ 0) : ∃ P k i : Nat, P ≠ 0 ∧ P % 2 = 1 ∧ sO f a * sO f b = P * 2 ^ k ∧ k = lowZ (sO f a * sO f b) ∧ P = sO f a * sO f b / 2 ^ lowZ (sO f a * sO f b) ∧ sigN f a * sigN f b = P * 2 ^ (k + i) ∧ xO f a + xO f b = xpN f a + xpN f b + i := by
 obtain ⟨a1, a2, a3⟩ := sO_split f a na
 obtain ⟨b1, b2, b3⟩ := sO_split f b nb
 have hn := Nat.mul_ne_zero a3 b3
 obtain ⟨p1, p2, p3⟩ := low_split _ hn
 refine ⟨_, _, lowZ (sigN f a) + lowZ (sigN f b), p3, p2, p1, rfl, rfl, ?_, by unfold xO; omega⟩
 rw [Nat.pow_add, ← Nat.mul_assoc, ← p1, Nat.pow_add, Nat.mul_mul_mul_comm, ← a1, ← b1]
theorem r15_zZZ (f m a b c : Nat) (w : World) (cT : ∀ w g, Blk 27 w g (cat3 (bc a) (bc b) (bc c)) → CR_ 82 #[.int .u8 f, .int .u8 m, .slice (some ⟨g, 0, none⟩) 3 3] w (.bool true)) (cIa : CK_ 53 #[.int .u8 f, BV a] (.bool false)) (cIb : CK_ 53 #[.int .u8 f, BV b] (.bool false)) (cZa : CK_ 84 #[.int .u8 f, BV a] (.bool true)) (cNa : CK_ 51 #[.int .u8 f, BV a] (.bool false)) (cNb : CK_ 51 #[.int .u8 f, BV b] (.bool false)) (cNc : CK_ 51 #[.int .u8 f, BV c] (.bool false)) (cSa : CK_ 50 #[.int .u8 f, BV a] (.bool (negN f a))) (cSb : CK_ 50 #[.int .u8 f, BV b] (.bool (negN f b))) (cIc : CK_ 53 #[.int .u8 f, BV c] (.bool false)) (cZc : CK_ 84 #[.int .u8 f, BV c] (.bool false)) (cO : CK_ 106 #[.int .u8 f, .int .u8 m] (BV (zeroN f (decide (m = 2))))) (hf : f < 4) (hm : m < 5) (fa : fitsB f a = true) (fb : fitsB f b = true) (fc : fitsB f c = true) (hc : c < 2 ^ (64 * 2)) (k1 : nanB (clsN f a) = false) (i1 : infB (clsN f a) = false) (k2 : nanB (clsN f b) = false) (i2 : infB (clsN f b) = false) (k3 : nanB (clsN f c) = false) (i3 : infB (clsN f c) = false) (z3 : zerB (clsN f c) = false) (s1 : sigN f a = 0) (s2 : sigN f b = 0) :
  CR_ 34 #[.int .u8 f, .int .u8 m, BV a, BV b, BV c] w (.tuple #[BV (((c, 0) : Nat × Nat)).1, .int .u8 ((((c, 0) : Nat × Nat)).2 : Nat), .int .i64 0]) := by
 have nz := sig_ne f c fc k3 i3 z3
 have fin := fin0_of f c k3 i3 z3
 obtain ⟨u1, u2, u3, u4⟩ := oneB f c fc nz
 obtain ⟨-, u5, -⟩ := sO_split f c nz
 have cVc := fun w => r8ValueF_any f c w fc k3 i3 nz
 obtain ⟨q1, q2⟩ := strE_none 0 rfl
 rw [strB_zero] at q1 q2
 obtain ⟨p1, p2⟩ := strE_full (sO f c) u1
 have cVa := fun w => r8ValueZ_any f a w fa k1 i1 s1
 have cVb := fun w => r8ValueZ_any f b w fb k2 i2 s2
 have cP := fun w => r6Mul_z1 false false ⟨#[]⟩ ⟨#[1]⟩ ⟨#[]⟩ ⟨#[1]⟩ 0 0 w (by omega) (by omega) (by omega) (by omega) q1 q2
 have cQ := fun w => r6Add_z1 false (negN f c) false ⟨#[]⟩ ⟨#[1]⟩ (strB (sO f c)) (strB 1) ⟨#[]⟩ ⟨#[]⟩ ⟨#[]⟩ ⟨#[]⟩ ⟨#[]⟩ ⟨#[]⟩ ⟨#[]⟩ ⟨#[]⟩ 0 (xO f c) 0 0 w (by omega) (by omega) (by omega) (by omega) q1 q2
 have hO : OneF (sO f c) 1 (xO f c) := ⟨u1, u5, by decide, Nat.gcd_one_right _, by omega, by decide, by omega, by omega⟩
 have cR := fun w => r9Round_any f m (negN f c) _ _ _ w hf hm hO
 rw [rnd_self f m c fc fin nz] at cR
 exact r15_Zv f m a b c _ _ _ _ false _ _ _ _ _ _ _ _ _ _ _ _ _ _ _ _ _ _ _ _ _ w cT cIa cIb cZa cNa cNb cNc cSa cSb cIc cZc cVa cVb cVc cP cQ p1 p2 cR
theorem r15_zZF (f m a b c : Nat) (w : World) (cT : ∀ w g, Blk 27 w g (cat3 (bc a) (bc b) (bc c)) → CR_ 82 #[.int .u8 f, .int .u8 m, .slice (some ⟨g, 0, none⟩) 3 3] w (.bool true)) (cIa : CK_ 53 #[.int .u8 f, BV a] (.bool false)) (cIb : CK_ 53 #[.int .u8 f, BV b] (.bool false)) (cZa : CK_ 84 #[.int .u8 f, BV a] (.bool true)) (cNa : CK_ 51 #[.int .u8 f, BV a] (.bool false)) (cNb : CK_ 51 #[.int .u8 f, BV b] (.bool false)) (cNc : CK_ 51 #[.int .u8 f, BV c] (.bool false)) (cSa : CK_ 50 #[.int .u8 f, BV a] (.bool (negN f a))) (cSb : CK_ 50 #[.int .u8 f, BV b] (.bool (negN f b))) (cIc : CK_ 53 #[.int .u8 f, BV c] (.bool false)) (cZc : CK_ 84 #[.int .u8 f, BV c] (.bool false)) (cO : CK_ 106 #[.int .u8 f, .int .u8 m] (BV (zeroN f (decide (m = 2))))) (hf : f < 4) (hm : m < 5) (fa : fitsB f a = true) (fb : fitsB f b = true) (fc : fitsB f c = true) (hc : c < 2 ^ (64 * 2)) (k1 : nanB (clsN f a) = false) (i1 : infB (clsN f a) = false) (k2 : nanB (clsN f b) = false) (i2 : infB (clsN f b) = false) (k3 : nanB (clsN f c) = false) (i3 : infB (clsN f c) = false) (z3 : zerB (clsN f c) = false) (s1 : sigN f a = 0) (s2 : sigN f b ≠ 0) :
  CR_ 34 #[.int .u8 f, .int .u8 m, BV a, BV b, BV c] w (.tuple #[BV (((c, 0) : Nat × Nat)).1, .int .u8 ((((c, 0) : Nat × Nat)).2 : Nat), .int .i64 0]) := by
 have nz := sig_ne f c fc k3 i3 z3
 have fin := fin0_of f c k3 i3 z3
 obtain ⟨u1, u2, u3, u4⟩ := oneB f c fc nz
 obtain ⟨-, u5, -⟩ := sO_split f c nz
 have cVc := fun w => r8ValueF_any f c w fc k3 i3 nz
 obtain ⟨q1, q2⟩ := strE_none 0 rfl
 rw [strB_zero] at q1 q2
 obtain ⟨p1, p2⟩ := strE_full (sO f c) u1
 have cVa := fun w => r8ValueZ_any f a w fa k1 i1 s1
 have cVb := fun w => r8ValueF_any f b w fb k2 i2 s2
 obtain ⟨-, -, -, v4⟩ := oneB f b fb s2
 have cP := fun w => r6Mul_z1 false (negN f b) ⟨#[]⟩ ⟨#[1]⟩ (strB (sO f b)) (strB 1) 0 (xO f b) w (by omega) (by omega) (by omega) (by omega) q1 q2
 have cQ := fun w => r6Add_z1 false (negN f c) false ⟨#[]⟩ ⟨#[1]⟩ (strB (sO f c)) (strB 1) ⟨#[]⟩ ⟨#[]⟩ ⟨#[]⟩ ⟨#[]⟩ ⟨#[]⟩ ⟨#[]⟩ ⟨#[]⟩ ⟨#[]⟩ 0 (xO f c) 0 0 w (by omega) (by omega) (by omega) (by omega) q1 q2
 have hO : OneF (sO f c) 1 (xO f c) := ⟨u1, u5, by decide, Nat.gcd_one_right _, by omega, by decide, by omega, by omega⟩
 have cR := fun w => r9Round_any f m (negN f c) _ _ _ w hf hm hO
 rw [rnd_self f m c fc fin nz] at cR
 exact r15_Zv f m a b c _ _ _ _ false _ _ _ _ _ _ _ _ _ _ _ _ _ _ _ _ _ _ _ _ _ w cT cIa cIb cZa cNa cNb cNc cSa cSb cIc cZc cVa cVb cVc cP cQ p1 p2 cR
theorem r15_zY (f m a b c : Nat) (w : World) (cT : ∀ w g, Blk 27 w g (cat3 (bc a) (bc b) (bc c)) → CR_ 82 #[.int .u8 f, .int .u8 m, .slice (some ⟨g, 0, none⟩) 3 3] w (.bool true)) (cIa : CK_ 53 #[.int .u8 f, BV a] (.bool false)) (cIb : CK_ 53 #[.int .u8 f, BV b] (.bool false)) (cZa : CK_ 84 #[.int .u8 f, BV a] (.bool false)) (cZb : CK_ 84 #[.int .u8 f, BV b] (.bool true)) (cNa : CK_ 51 #[.int .u8 f, BV a] (.bool false)) (cNb : CK_ 51 #[.int .u8 f, BV b] (.bool false)) (cNc : CK_ 51 #[.int .u8 f, BV c] (.bool false)) (cSa : CK_ 50 #[.int .u8 f, BV a] (.bool (negN f a))) (cSb : CK_ 50 #[.int .u8 f, BV b] (.bool (negN f b))) (cIc : CK_ 53 #[.int .u8 f, BV c] (.bool false)) (cZc : CK_ 84 #[.int .u8 f, BV c] (.bool false)) (cO : CK_ 106 #[.int .u8 f, .int .u8 m] (BV (zeroN f (decide (m = 2))))) (hf : f < 4) (hm : m < 5) (fa : fitsB f a = true) (fb : fitsB f b = true) (fc : fitsB f c = true) (hc : c < 2 ^ (64 * 2)) (k1 : nanB (clsN f a) = false) (i1 : infB (clsN f a) = false) (k2 : nanB (clsN f b) = false) (i2 : infB (clsN f b) = false) (k3 : nanB (clsN f c) = false) (i3 : infB (clsN f c) = false) (z3 : zerB (clsN f c) = false) (s1 : sigN f a ≠ 0) (s2 : sigN f b = 0) :
  CR_ 34 #[.int .u8 f, .int .u8 m, BV a, BV b, BV c] w (.tuple #[BV (((c, 0) : Nat × Nat)).1, .int .u8 ((((c, 0) : Nat × Nat)).2 : Nat), .int .i64 0]) := by
 have nz := sig_ne f c fc k3 i3 z3
 have fin := fin0_of f c k3 i3 z3
 obtain ⟨u1, u2, u3, u4⟩ := oneB f c fc nz
 obtain ⟨-, u5, -⟩ := sO_split f c nz
 have cVc := fun w => r8ValueF_any f c w fc k3 i3 nz
 obtain ⟨q1, q2⟩ := strE_none 0 rfl
 rw [strB_zero] at q1 q2
 obtain ⟨p1, p2⟩ := strE_full (sO f c) u1
 have cVa := fun w => r8ValueF_any f a w fa k1 i1 s1
 have cVb := fun w => r8ValueZ_any f b w fb k2 i2 s2
 obtain ⟨v1, -, -, v4⟩ := oneB f a fa s1
 obtain ⟨t1, t2⟩ := strE_full (sO f a) v1
 have cP := fun w => r6Mul_z2 (negN f a) false (strB (sO f a)) (strB 1) ⟨#[]⟩ ⟨#[1]⟩ (xO f a) 0 w (by omega) (by omega) (by omega) (by omega) t1 t2 q1 q2
 have cQ := fun w => r6Add_z1 false (negN f c) false ⟨#[]⟩ ⟨#[1]⟩ (strB (sO f c)) (strB 1) ⟨#[]⟩ ⟨#[]⟩ ⟨#[]⟩ ⟨#[]⟩ ⟨#[]⟩ ⟨#[]⟩ ⟨#[]⟩ ⟨#[]⟩ 0 (xO f c) 0 0 w (by omega) (by omega) (by omega) (by omega) q1 q2
 have hO : OneF (sO f c) 1 (xO f c) := ⟨u1, u5, by decide, Nat.gcd_one_right _, by omega, by decide, by omega, by omega⟩
 have cR := fun w => r9Round_any f m (negN f c) _ _ _ w hf hm hO
 rw [rnd_self f m c fc fin nz] at cR
 exact r15_Yv f m a b c _ _ _ _ false _ _ _ _ _ _ _ _ _ _ _ _ _ _ _ _ _ _ _ _ _ w cT cIa cIb cZa cZb cNa cNb cNc cSa cSb cIc cZc cVa cVb cVc cP cQ p1 p2 cR
theorem r15_FZ (f m a b c : Nat) (w : World) (cT : ∀ w g, Blk 27 w g (cat3 (bc a) (bc b) (bc c)) → CR_ 82 #[.int .u8 f, .int .u8 m, .slice (some ⟨g, 0, none⟩) 3 3] w (.bool true)) (cIa : CK_ 53 #[.int .u8 f, BV a] (.bool false)) (cIb : CK_ 53 #[.int .u8 f, BV b] (.bool false)) (cZa : CK_ 84 #[.int .u8 f, BV a] (.bool false)) (cZb : CK_ 84 #[.int .u8 f, BV b] (.bool false)) (cNa : CK_ 51 #[.int .u8 f, BV a] (.bool false)) (cNb : CK_ 51 #[.int .u8 f, BV b] (.bool false)) (cNc : CK_ 51 #[.int .u8 f, BV c] (.bool false)) (cSa : CK_ 50 #[.int .u8 f, BV a] (.bool (negN f a))) (cSb : CK_ 50 #[.int .u8 f, BV b] (.bool (negN f b))) (cIc : CK_ 53 #[.int .u8 f, BV c] (.bool false)) (hf : f < 4) (hm : m < 5) (fa : fitsB f a = true) (fb : fitsB f b = true) (fc : fitsB f c = true) (k1 : nanB (clsN f a) = false) (i1 : infB (clsN f a) = false) (k2 : nanB (clsN f b) = false) (i2 : infB (clsN f b) = false) (k3 : nanB (clsN f c) = false) (i3 : infB (clsN f c) = false) (s1 : sigN f a ≠ 0) (s2 : sigN f b ≠ 0) (s3 : sigN f c = 0) :
  CR_ 34 #[.int .u8 f, .int .u8 m, BV a, BV b, BV c] w (.tuple #[BV (packB f m (negN f a != negN f b) (sigN f a * sigN f b) (xpN f a + xpN f b) false).1, .int .u8 ((packB f m (negN f a != negN f b) (sigN f a * sigN f b) (xpN f a + xpN f b) false).2 : Nat), .int .i64 0]) := by
 obtain ⟨v1, v2, v3, v4⟩ := oneB f a fa s1
 obtain ⟨u1, u2, u3, u4⟩ := oneB f b fb s2
 have cVa := fun w => r8ValueF_any f a w fa k1 i1 s1
 have cVb := fun w => r8ValueF_any f b w fb k2 i2 s2
 have cP := fun w => r6Mul_any (negN f a) (negN f b) (sO f a) 1 (sO f b) 1 (xO f a) (xO f b) w v1 u1 (by decide) (by decide) (by omega) (by omega) (by decide) (by decide) (by omega) (by omega) (by omega) (by omega)
 have hne := Nat.mul_ne_zero v1 u1
 have hlm := mul_len (sO f a) (sO f b) 113 113 v3 u3
 have hng : negX' (!(negN f a == negN f b)) (sO f a * sO f b) = (!(negN f a == negN f b)) := by unfold negX'; rw [if_neg hne]
 obtain ⟨n1, n2, n3⟩ := numX_one (sO f a * sO f b) hne (xO f a + xO f b)
 rw [hng, show (1 : Nat) * 1 = 1 from rfl, n1, n2, n3] at cP
 obtain ⟨P, k, i, p1, p2, p3, p4, p5, p6, p7⟩ := prod_parts f a b s1 s2
 have lk := lowZ_lt _ hne
 rw [← p5, ← p4] at cP
 rw [← p4] at lk
 have lP : lenN P ≤ 226 := by rw [p5]; exact Nat.le_trans (lenN_div_le _ _) hlm
 clear p4 p5 n1 n2 n3 hng
 have cVc := fun w => r8ValueZ_any f c w fc k3 i3 s3
 obtain ⟨q1, q2⟩ := strE_none 0 rfl
 rw [strB_zero] at q1 q2
 obtain ⟨t1, t2⟩ := strE_full P p1
 have hO : OneF P 1 (xO f a + xO f b + k) := ⟨p1, p2, by decide, Nat.gcd_one_right _, by omega, by decide, by omega, by omega⟩
 have cQ := fun w => r6Add_z2 (!(negN f a == negN f b)) false false (strB P) (strB 1) ⟨#[]⟩ ⟨#[1]⟩ ⟨#[]⟩ ⟨#[]⟩ ⟨#[]⟩ ⟨#[]⟩ ⟨#[]⟩ ⟨#[]⟩ ⟨#[]⟩ ⟨#[]⟩ (xO f a + xO f b + k) 0 0 0 w (by omega) (by omega) (by omega) (by omega) t1 t2 q1 q2
 have cR := fun w => r9Round_any f m (!(negN f a == negN f b)) _ _ _ w hf hm hO
 have key : rndX f m (!(negN f a == negN f b)) P 1 (xO f a + xO f b + k) = packB f m (negN f a != negN f b) (sigN f a * sigN f b) (xpN f a + xpN f b) false := by
  rw [← rnd_whole f m _ _ _ hf p1, p6]
  have := pack_shift f m (negN f a != negN f b) P (k + i) (xpN f a + xpN f b + ((k + i : Nat) : Int)) p1
  rw [show xpN f a + xpN f b + ((k + i : Nat) : Int) - ((k + i : Nat) : Int) = xpN f a + xpN f b by omega] at this
  rw [this, show xO f a + xO f b + (k : Int) = xpN f a + xpN f b + ((k + i : Nat) : Int) by omega]
  rfl
 rw [key] at cR
 exact r15_Fv f m a b c _ _ _ _ false _ _ _ _ _ _ _ _ _ _ _ _ _ _ _ _ _ _ _ _ _ w cT cIa cIb cZa cZb cNa cNb cNc cSa cSb cIc cVa cVb cVc cP cQ t1 t2 cR
theorem r15_FF (f m a b c : Nat) (w : World) (cT : ∀ w g, Blk 27 w g (cat3 (bc a) (bc b) (bc c)) → CR_ 82 #[.int .u8 f, .int .u8 m, .slice (some ⟨g, 0, none⟩) 3 3] w (.bool true)) (cIa : CK_ 53 #[.int .u8 f, BV a] (.bool false)) (cIb : CK_ 53 #[.int .u8 f, BV b] (.bool false)) (cZa : CK_ 84 #[.int .u8 f, BV a] (.bool false)) (cZb : CK_ 84 #[.int .u8 f, BV b] (.bool false)) (cNa : CK_ 51 #[.int .u8 f, BV a] (.bool false)) (cNb : CK_ 51 #[.int .u8 f, BV b] (.bool false)) (cNc : CK_ 51 #[.int .u8 f, BV c] (.bool false)) (cSa : CK_ 50 #[.int .u8 f, BV a] (.bool (negN f a))) (cSb : CK_ 50 #[.int .u8 f, BV b] (.bool (negN f b))) (cIc : CK_ 53 #[.int .u8 f, BV c] (.bool false)) (cO : CK_ 106 #[.int .u8 f, .int .u8 m] (BV (zeroN f (decide (m = 2))))) (hf : f < 4) (hm : m < 5) (fa : fitsB f a = true) (fb : fitsB f b = true) (fc : fitsB f c = true) (k1 : nanB (clsN f a) = false) (i1 : infB (clsN f a) = false) (k2 : nanB (clsN f b) = false) (i2 : infB (clsN f b) = false) (k3 : nanB (clsN f c) = false) (i3 : infB (clsN f c) = false) (z1 : zerB (clsN f a) = false) (z2 : zerB (clsN f b) = false) (z3 : zerB (clsN f c) = false) (s1 : sigN f a ≠ 0) (s2 : sigN f b ≠ 0) (s3 : sigN f c ≠ 0) :
  CR_ 34 #[.int .u8 f, .int .u8 m, BV a, BV b, BV c] w (.tuple #[BV (sumX f m (negN f a != negN f b) (sigN f a * sigN f b) (xpN f a + xpN f b) (negN f c) (sigN f c) (xpN f c)).1, .int .u8 ((sumX f m (negN f a != negN f b) (sigN f a * sigN f b) (xpN f a + xpN f b) (negN f c) (sigN f c) (xpN f c)).2 : Nat), .int .i64 0]) := by
 obtain ⟨v1, v2, v3, v4⟩ := oneB f a fa s1
 obtain ⟨u1, u2, u3, u4⟩ := oneB f b fb s2
 have cVa := fun w => r8ValueF_any f a w fa k1 i1 s1
 have cVb := fun w => r8ValueF_any f b w fb k2 i2 s2
 have cP := fun w => r6Mul_any (negN f a) (negN f b) (sO f a) 1 (sO f b) 1 (xO f a) (xO f b) w v1 u1 (by decide) (by decide) (by omega) (by omega) (by decide) (by decide) (by omega) (by omega) (by omega) (by omega)
 have hne := Nat.mul_ne_zero v1 u1
 have hlm := mul_len (sO f a) (sO f b) 113 113 v3 u3
 have hng : negX' (!(negN f a == negN f b)) (sO f a * sO f b) = (!(negN f a == negN f b)) := by unfold negX'; rw [if_neg hne]
 obtain ⟨n1, n2, n3⟩ := numX_one (sO f a * sO f b) hne (xO f a + xO f b)
 rw [hng, show (1 : Nat) * 1 = 1 from rfl, n1, n2, n3] at cP
 obtain ⟨P, k, i, p1, p2, p3, p4, p5, p6, p7⟩ := prod_parts f a b s1 s2
 have lk := lowZ_lt _ hne
 rw [← p5, ← p4] at cP
 rw [← p4] at lk
 have lP : lenN P ≤ 226 := by rw [p5]; exact Nat.le_trans (lenN_div_le _ _) hlm
 clear p4 p5 n1 n2 n3 hng
 have cVc := fun w => r8ValueF_any f c w fc k3 i3 s3
 obtain ⟨c1, c2, c3, c4⟩ := oneB f c fc s3
 obtain ⟨c5, c6, -⟩ := sO_split f c s3
 have ta := xp_tight f a fa (fin0_of f a k1 i1 z1)
 have tb := xp_tight f b fb (fin0_of f b k2 i2 z2)
 have tc := xp_tight f c fc (fin0_of f c k3 i3 z3)
 have la := lowZ_lt (sigN f a) s1
 have lb := lowZ_lt (sigN f b) s2
 have lc := lowZ_lt (sigN f c) s3
 have sa : lenN (sigN f a) ≤ 113 := (lenN_le _ 113).2 (sigN_113 f a fa)
 have sb : lenN (sigN f b) ≤ 113 := (lenN_le _ 113).2 (sigN_113 f b fb)
 have sc : lenN (sigN f c) ≤ 113 := (lenN_le _ 113).2 (sigN_113 f c fc)
 have xa : -16494 ≤ xO f a ∧ xO f a ≤ 16500 := by unfold xO; omega
 have xb : -16494 ≤ xO f b ∧ xO f b ≤ 16500 := by unfold xO; omega
 have xc : -16494 ≤ xO f c ∧ xO f c ≤ 16500 := by unfold xO; omega
 have hx : sumX f m (negN f a != negN f b) (sigN f a * sigN f b) (xpN f a + xpN f b) (negN f c) (sigN f c) (xpN f c) = sumX f m (!(negN f a == negN f b)) P (xO f a + xO f b + k) (negN f c) (sO f c) (xO f c) := by
  have := sumX_low f m (!(negN f a == negN f b)) (negN f c) P (sO f c) (k + i) (lowZ (sigN f c)) (xpN f a + xpN f b) (xpN f c) p1 c1
  rw [← p6, ← c5] at this
  rw [show xO f a + xO f b + (k : Int) = xpN f a + xpN f b + ((k + i : Nat) : Int) by omega]
  exact this.symm
 rw [hx]
 clear hx
 generalize hE : xO f a + xO f b + (k : Int) = E at *
 have eE : -33000 ≤ E ∧ E ≤ 33300 := by omega
 obtain ⟨A, hA⟩ : ∃ A, A = P * 2 ^ (E - min E (xO f c)).toNat := ⟨_, rfl⟩
 obtain ⟨B, hB⟩ : ∃ B, B = sO f c * 2 ^ (xO f c - min E (xO f c)).toNat := ⟨_, rfl⟩
 have cQ := fun w => r6Add_any (!(negN f a == negN f b)) (negN f c) P (sO f c) E (xO f c) w p1 c1 (by omega) (by omega) (by omega) (by omega) (by omega) (by omega) A B hA hB
 have hS := sumX_SM f m (!(negN f a == negN f b)) (negN f c) P (sO f c) E (xO f c) p1 A B hA hB
 rw [hS]
 have lA : lenN A ≤ 226 + (E - min E (xO f c)).toNat := by rw [hA]; exact len_shl _ _ _ lP
 have lB : lenN B ≤ 226 + (xO f c - min E (xO f c)).toNat := by rw [hB]; exact len_shl _ _ _ (by omega)
 by_cases h0 : sumM (!(negN f a == negN f b)) (negN f c) A B = 0
 ·rw [if_pos h0]
  rw [h0] at cQ
  obtain ⟨q1, q2⟩ := strE_none (numX 0 1) (by unfold numX; rw [if_pos rfl])
  exact r15_Fo f m a b c _ 0 _ _ false _ _ _ _ _ _ _ _ _ _ _ _ _ _ _ _ _ _ _ _ 0 w cT cIa cIb cZa cZb cNa cNb cNc cSa cSb cIc cVa cVb cVc cP cQ q1 q2 cO
 ·rw [if_neg h0]
  have lS : lenN (sumM (!(negN f a == negN f b)) (negN f c) A B) ≤ 60000 := by
   have hl : sumM (!(negN f a == negN f b)) (negN f c) A B ≤ A + B := by unfold sumM; split; omega; split <;> omega
   exact Nat.le_trans (len_sum _ A B 50100 hl (by omega) (by omega)) (by decide)
  have hO := oneS _ (min E (xO f c)) h0 lS (by omega) (by omega)
  have hg : negX' (sumS (!(negN f a == negN f b)) (negN f c) A B) (sumM (!(negN f a == negN f b)) (negN f c) A B) = sumS (!(negN f a == negN f b)) (negN f c) A B := by unfold negX'; rw [if_neg h0]
  rw [hg] at cQ
  have cR := fun w => r9Round_any f m (sumS (!(negN f a == negN f b)) (negN f c) A B) _ _ _ w hf hm hO
  rw [rndS f m _ _ _ hf h0] at cR
  obtain ⟨t1, t2⟩ := strE_full _ hO.num
  exact r15_Fv f m a b c _ _ _ _ false _ _ _ _ _ _ _ _ _ _ _ _ _ _ _ _ _ _ _ _ _ w cT cIa cIb cZa cZb cNa cNb cNc cSa cSb cIc cVa cVb cVc cP cQ t1 t2 cR
theorem canon_ret (f a b c : Nat) : Ending.returned (.tuple #[BV (nanN f), .int .u8 (cond (decide (clsN f a = 8) || decide (clsN f b = 8) || decide (clsN f c = 8)) 16 0), .int .i64 0]) = .returned (.tuple #[BV (canon3 f (clsN f a) (clsN f b) (clsN f c)).1, .int .u8 ((canon3 f (clsN f a) (clsN f b) (clsN f c)).2 : Nat), .int .i64 0]) := by
 unfold canon3
 cases decide (clsN f a = 8) <;> cases decide (clsN f b = 8) <;> cases decide (clsN f c = 8) <;> rfl
theorem r15MulAdd_any (f m a b c : Nat) (w : World) (ha : a < 2 ^ (64 * 2)) (hb : b < 2 ^ (64 * 2)) (hc : c < 2 ^ (64 * 2)) :
  CR_ 34 #[.int .u8 f, .int .u8 m, BV a, BV b, BV c] w (.tuple #[BV (fmaN f m a b c).1, .int .u8 ((fmaN f m a b c).2.1 : Nat), .int .i64 (fmaN f m a b c).2.2]) := by
 have cT := fun w g hB => r11Fits3_any f m a b c w ha hb hc g hB
 have hk : (decide (f < 4) && decide (m < 5) && (fitsB f a && (fitsB f b && fitsB f c))) = triOk f m a b c := by unfold triOk; rw [Bool.and_assoc (fitsB f a)]
 rw [hk] at cT
 clear hk
 cases ok : triOk f m a b c
 case false =>
  rw [ok] at cT
  have e1 : fmaN f m a b c = (0, 0, 2) := by unfold fmaN; rw [ok]; rfl
  rw [e1]
  exact r15_no f m a b c 0 0 false false false  w cT
 rw [ok] at cT
 have e1 : fmaN f m a b c = ((fmaR f m a b c).1, (fmaR f m a b c).2, 0) := by unfold fmaN; rw [ok]; rfl
 rw [e1]
 have ok' := ok
 unfold triOk at ok'
 simp only [Bool.and_eq_true, decide_eq_true_iff] at ok'
 obtain ⟨⟨hf, hm⟩, ⟨fa, fb⟩, fc⟩ := ok'
 clear e1 ok
 have cNa := fun w => r8IsNaN_any f a w hf ha
 have cIa := fun w => r8IsInf_nt f a w hf ha
 have cZa := fun w => r8IsZero_nt f a w hf ha
 have cSa := fun w => r8Sign_any f a w ha
 simp only [fa, Bool.true_and] at cSa
 have cNb := fun w => r8IsNaN_any f b w hf hb
 have cIb := fun w => r8IsInf_nt f b w hf hb
 have cZb := fun w => r8IsZero_nt f b w hf hb
 have cSb := fun w => r8Sign_any f b w hb
 simp only [fb, Bool.true_and] at cSb
 have cNc := fun w => r8IsNaN_any f c w hf hc
 have cIc := fun w => r8IsInf_nt f c w hf hc
 have cZc := fun w => r8IsZero_nt f c w hf hc
 have cSc := fun w => r8Sign_any f c w hc
 simp only [fc, Bool.true_and] at cSc
 have cC := fun w g hB => r11Canon3 f (nanN f) a b c (decide (clsN f a = 8)) (decide (clsN f b = 8)) (decide (clsN f c = 8)) w g hB (fun w => r7NaN_any f w hf) (fun w => r8IsSig_any f a w hf ha) (fun w => r8IsSig_any f b w hf hb) (fun w => r8IsSig_any f c w hf hc)
 have cN := fun w => r7NaN_any f w hf
 have cI := fun w => r7Inf_any f (!(negN f a == negN f b)) w hf
 have cO := fun w => r11Nought_any f m w hf
 rcases kd_four (clsN f a) with ⟨k1, i1, z1⟩ | ⟨k1, i1, z1⟩ | ⟨k1, i1, z1⟩ | ⟨k1, i1, z1⟩ <;> rw [k1] at cNa <;> rw [i1] at cIa <;> rw [z1] at cZa
 ·rcases kd_four (clsN f b) with ⟨k2, i2, z2⟩ | ⟨k2, i2, z2⟩ | ⟨k2, i2, z2⟩ | ⟨k2, i2, z2⟩ <;> rw [k2] at cNb <;> rw [i2] at cIb <;> rw [z2] at cZb
  ·skip
   have e2 : fmaR f m a b c = canon3 f (clsN f a) (clsN f b) (clsN f c) := by unfold fmaR; simp [k1, i1, z1, k2, i2, z2]
   rw [e2]
   exact (r15_Fna f m a b c _ _ false false false  w cT cIa cIb cZa cZb cNa cC).mono fun e w' h => ⟨h.1.trans (canon_ret f a b c), h.2⟩
  ·skip
   have e2 : fmaR f m a b c = canon3 f (clsN f a) (clsN f b) (clsN f c) := by unfold fmaR; simp [k1, i1, z1, k2, i2, z2]
   rw [e2]
   exact (r15_Jna f m a b c _ _ false false false  w cT cIa cIb cZa cZb cNa cC).mono fun e w' h => ⟨h.1.trans (canon_ret f a b c), h.2⟩
  ·skip
   have e2 : fmaR f m a b c = canon3 f (clsN f a) (clsN f b) (clsN f c) := by unfold fmaR; simp [k1, i1, z1, k2, i2, z2]
   rw [e2]
   exact (r15_Yna f m a b c _ _ false false false  w cT cIa cIb cZa cZb cNa cC).mono fun e w' h => ⟨h.1.trans (canon_ret f a b c), h.2⟩
  ·skip
   have e2 : fmaR f m a b c = canon3 f (clsN f a) (clsN f b) (clsN f c) := by unfold fmaR; simp [k1, i1, z1, k2, i2, z2]
   rw [e2]
   exact (r15_Fna f m a b c _ _ false false false  w cT cIa cIb cZa cZb cNa cC).mono fun e w' h => ⟨h.1.trans (canon_ret f a b c), h.2⟩
 ·rcases kd_four (clsN f b) with ⟨k2, i2, z2⟩ | ⟨k2, i2, z2⟩ | ⟨k2, i2, z2⟩ | ⟨k2, i2, z2⟩ <;> rw [k2] at cNb <;> rw [i2] at cIb <;> rw [z2] at cZb
  ·skip
   have e2 : fmaR f m a b c = canon3 f (clsN f a) (clsN f b) (clsN f c) := by unfold fmaR; simp [k1, i1, z1, k2, i2, z2]
   rw [e2]
   exact (r15_Inb f m a b c _ _ false false false  w cT cIa cZa cZb cNa cNb cC).mono fun e w' h => ⟨h.1.trans (canon_ret f a b c), h.2⟩
  ·skip
   have n1 := below_nn f a k1
   have n2 := below_nn f b k2
   rcases kd_four (clsN f c) with ⟨k3, i3, z3⟩ | ⟨k3, i3, z3⟩ | ⟨k3, i3, z3⟩ | ⟨k3, i3, z3⟩ <;> rw [k3] at cNc <;> rw [i3] at cIc <;> rw [z3] at cZc
   ·skip
    have e2 : fmaR f m a b c = canon3 f (clsN f a) (clsN f b) (clsN f c) := by unfold fmaR; simp [k1, i1, z1, k2, i2, z2, k3, i3, z3, n1, n2]
    rw [e2]
    exact (r15_Inc f m a b c _ _ false false false  w cT cIa cZa cZb cNa cNb cNc cC).mono fun e w' h => ⟨h.1.trans (canon_ret f a b c), h.2⟩
   ·skip
    have n3 := below_nn f c k3
    by_cases hs : negN f c = (negN f a != negN f b)
    ·have e2 : fmaR f m a b c = (infN f (negN f a != negN f b), 0) := by unfold fmaR; simp [k1, i1, z1, k2, i2, z2, k3, i3, z3, n1, n2, n3, hs]
     rw [e2]
     exact r15_IIs f m a b c _ 0 _ _ _  w cT cIa cZa cZb cNa cNb cNc cSa cSb cIc cSc (beq_iff_eq.2 hs) cI
    ·have e2 : fmaR f m a b c = (nanN f, 16) := by unfold fmaR; simp [k1, i1, z1, k2, i2, z2, k3, i3, z3, n1, n2, n3, hs]
     rw [e2]
     exact r15_IId f m a b c _ 0 _ _ _  w cT cIa cZa cZb cNa cNb cNc cSa cSb cIc cSc (beq_eq_false_iff_ne.2 hs) cN
   ·skip
    have n3 := below_nn f c k3
    have e2 : fmaR f m a b c = (infN f (negN f a != negN f b), 0) := by unfold fmaR; simp [k1, i1, z1, k2, i2, z2, k3, i3, z3, n1, n2, n3]
    rw [e2]
    exact r15_If f m a b c _ 0 _ _ false  w cT cIa cZa cZb cNa cNb cNc cSa cSb cIc cI
   ·skip
    have n3 := below_nn f c k3
    have e2 : fmaR f m a b c = (infN f (negN f a != negN f b), 0) := by unfold fmaR; simp [k1, i1, z1, k2, i2, z2, k3, i3, z3, n1, n2, n3]
    rw [e2]
    exact r15_If f m a b c _ 0 _ _ false  w cT cIa cZa cZb cNa cNb cNc cSa cSb cIc cI
  ·skip
   have e2 : fmaR f m a b c = (nanN f, 16) := by unfold fmaR; simp [k1, i1, z1, k2, i2, z2]
   rw [e2]
   exact r15_IZ f m a b c _ 0 false false false  w cT cIa cZa cZb cN
  ·skip
   have n1 := below_nn f a k1
   have n2 := below_nn f b k2
   rcases kd_four (clsN f c) with ⟨k3, i3, z3⟩ | ⟨k3, i3, z3⟩ | ⟨k3, i3, z3⟩ | ⟨k3, i3, z3⟩ <;> rw [k3] at cNc <;> rw [i3] at cIc <;> rw [z3] at cZc
   ·skip
    have e2 : fmaR f m a b c = canon3 f (clsN f a) (clsN f b) (clsN f c) := by unfold fmaR; simp [k1, i1, z1, k2, i2, z2, k3, i3, z3, n1, n2]
    rw [e2]
    exact (r15_Inc f m a b c _ _ false false false  w cT cIa cZa cZb cNa cNb cNc cC).mono fun e w' h => ⟨h.1.trans (canon_ret f a b c), h.2⟩
   ·skip
    have n3 := below_nn f c k3
    by_cases hs : negN f c = (negN f a != negN f b)
    ·have e2 : fmaR f m a b c = (infN f (negN f a != negN f b), 0) := by unfold fmaR; simp [k1, i1, z1, k2, i2, z2, k3, i3, z3, n1, n2, n3, hs]
     rw [e2]
     exact r15_IIs f m a b c _ 0 _ _ _  w cT cIa cZa cZb cNa cNb cNc cSa cSb cIc cSc (beq_iff_eq.2 hs) cI
    ·have e2 : fmaR f m a b c = (nanN f, 16) := by unfold fmaR; simp [k1, i1, z1, k2, i2, z2, k3, i3, z3, n1, n2, n3, hs]
     rw [e2]
     exact r15_IId f m a b c _ 0 _ _ _  w cT cIa cZa cZb cNa cNb cNc cSa cSb cIc cSc (beq_eq_false_iff_ne.2 hs) cN
   ·skip
    have n3 := below_nn f c k3
    have e2 : fmaR f m a b c = (infN f (negN f a != negN f b), 0) := by unfold fmaR; simp [k1, i1, z1, k2, i2, z2, k3, i3, z3, n1, n2, n3]
    rw [e2]
    exact r15_If f m a b c _ 0 _ _ false  w cT cIa cZa cZb cNa cNb cNc cSa cSb cIc cI
   ·skip
    have n3 := below_nn f c k3
    have e2 : fmaR f m a b c = (infN f (negN f a != negN f b), 0) := by unfold fmaR; simp [k1, i1, z1, k2, i2, z2, k3, i3, z3, n1, n2, n3]
    rw [e2]
    exact r15_If f m a b c _ 0 _ _ false  w cT cIa cZa cZb cNa cNb cNc cSa cSb cIc cI
 ·rcases kd_four (clsN f b) with ⟨k2, i2, z2⟩ | ⟨k2, i2, z2⟩ | ⟨k2, i2, z2⟩ | ⟨k2, i2, z2⟩ <;> rw [k2] at cNb <;> rw [i2] at cIb <;> rw [z2] at cZb
  ·skip
   have e2 : fmaR f m a b c = canon3 f (clsN f a) (clsN f b) (clsN f c) := by unfold fmaR; simp [k1, i1, z1, k2, i2, z2]
   rw [e2]
   exact (r15_Znb f m a b c _ _ false false false  w cT cIa cIb cZa cNa cNb cC).mono fun e w' h => ⟨h.1.trans (canon_ret f a b c), h.2⟩
  ·skip
   have e2 : fmaR f m a b c = (nanN f, 16) := by unfold fmaR; simp [k1, i1, z1, k2, i2, z2]
   rw [e2]
   exact r15_ZI f m a b c _ 0 false false false  w cT cIa cIb cZa cN
  ·skip
   have n1 := below_nn f a k1
   have n2 := below_nn f b k2
   rcases kd_four (clsN f c) with ⟨k3, i3, z3⟩ | ⟨k3, i3, z3⟩ | ⟨k3, i3, z3⟩ | ⟨k3, i3, z3⟩ <;> rw [k3] at cNc <;> rw [i3] at cIc <;> rw [z3] at cZc
   ·skip
    have e2 : fmaR f m a b c = canon3 f (clsN f a) (clsN f b) (clsN f c) := by unfold fmaR; simp [k1, i1, z1, k2, i2, z2, k3, i3, z3, n1, n2]
    rw [e2]
    exact (r15_Znc f m a b c _ _ false false false  w cT cIa cIb cZa cNa cNb cNc cC).mono fun e w' h => ⟨h.1.trans (canon_ret f a b c), h.2⟩
   ·skip
    have n3 := below_nn f c k3
    have e2 : fmaR f m a b c = (c, 0) := by unfold fmaR; simp [k1, i1, z1, k2, i2, z2, k3, i3, z3, n1, n2, n3]
    rw [e2]
    exact r15_Zi f m a b c 0 0 _ _ false  w cT cIa cIb cZa cNa cNb cNc cSa cSb cIc
   ·skip
    have n3 := below_nn f c k3
    by_cases hs : negN f c = (negN f a != negN f b)
    ·have e2 : fmaR f m a b c = (c, 0) := by unfold fmaR; simp [k1, i1, z1, k2, i2, z2, k3, i3, z3, n1, n2, n3, hs]
     rw [e2]
     exact r15_ZZs f m a b c 0 0 _ _ _  w cT cIa cIb cZa cNa cNb cNc cSa cSb cIc cZc cSc (beq_iff_eq.2 hs)
    ·have e2 : fmaR f m a b c = (zeroN f (decide (m = 2)), 0) := by unfold fmaR; simp [k1, i1, z1, k2, i2, z2, k3, i3, z3, n1, n2, n3, hs]
     rw [e2]
     exact r15_ZZd f m a b c _ 0 _ _ _  w cT cIa cIb cZa cNa cNb cNc cSa cSb cIc cZc cSc (beq_eq_false_iff_ne.2 hs) cO
   ·skip
    have n3 := below_nn f c k3
    have e2 : fmaR f m a b c = (c, 0) := by unfold fmaR; simp [k1, i1, z1, k2, i2, z2, k3, i3, z3, n1, n2, n3]
    rw [e2]
    have nz3 := sig_ne f c fc k3 i3 z3
    exact r15_zZZ f m a b c w cT cIa cIb cZa cNa cNb cNc cSa cSb cIc cZc cO hf hm fa fb fc hc k1 i1 k2 i2 k3 i3 z3 (sig_zer f a z1) (sig_zer f b z2)
  ·skip
   have n1 := below_nn f a k1
   have n2 := below_nn f b k2
   rcases kd_four (clsN f c) with ⟨k3, i3, z3⟩ | ⟨k3, i3, z3⟩ | ⟨k3, i3, z3⟩ | ⟨k3, i3, z3⟩ <;> rw [k3] at cNc <;> rw [i3] at cIc <;> rw [z3] at cZc
   ·skip
    have e2 : fmaR f m a b c = canon3 f (clsN f a) (clsN f b) (clsN f c) := by unfold fmaR; simp [k1, i1, z1, k2, i2, z2, k3, i3, z3, n1, n2]
    rw [e2]
    exact (r15_Znc f m a b c _ _ false false false  w cT cIa cIb cZa cNa cNb cNc cC).mono fun e w' h => ⟨h.1.trans (canon_ret f a b c), h.2⟩
   ·skip
    have n3 := below_nn f c k3
    have e2 : fmaR f m a b c = (c, 0) := by unfold fmaR; simp [k1, i1, z1, k2, i2, z2, k3, i3, z3, n1, n2, n3]
    rw [e2]
    exact r15_Zi f m a b c 0 0 _ _ false  w cT cIa cIb cZa cNa cNb cNc cSa cSb cIc
   ·skip
    have n3 := below_nn f c k3
    by_cases hs : negN f c = (negN f a != negN f b)
    ·have e2 : fmaR f m a b c = (c, 0) := by unfold fmaR; simp [k1, i1, z1, k2, i2, z2, k3, i3, z3, n1, n2, n3, hs]
     rw [e2]
     exact r15_ZZs f m a b c 0 0 _ _ _  w cT cIa cIb cZa cNa cNb cNc cSa cSb cIc cZc cSc (beq_iff_eq.2 hs)
    ·have e2 : fmaR f m a b c = (zeroN f (decide (m = 2)), 0) := by unfold fmaR; simp [k1, i1, z1, k2, i2, z2, k3, i3, z3, n1, n2, n3, hs]
     rw [e2]
     exact r15_ZZd f m a b c _ 0 _ _ _  w cT cIa cIb cZa cNa cNb cNc cSa cSb cIc cZc cSc (beq_eq_false_iff_ne.2 hs) cO
   ·skip
    have n3 := below_nn f c k3
    have e2 : fmaR f m a b c = (c, 0) := by unfold fmaR; simp [k1, i1, z1, k2, i2, z2, k3, i3, z3, n1, n2, n3]
    rw [e2]
    have nz3 := sig_ne f c fc k3 i3 z3
    exact r15_zZF f m a b c w cT cIa cIb cZa cNa cNb cNc cSa cSb cIc cZc cO hf hm fa fb fc hc k1 i1 k2 i2 k3 i3 z3 (sig_zer f a z1) (sig_ne f b fb k2 i2 z2)
 ·rcases kd_four (clsN f b) with ⟨k2, i2, z2⟩ | ⟨k2, i2, z2⟩ | ⟨k2, i2, z2⟩ | ⟨k2, i2, z2⟩ <;> rw [k2] at cNb <;> rw [i2] at cIb <;> rw [z2] at cZb
  ·skip
   have e2 : fmaR f m a b c = canon3 f (clsN f a) (clsN f b) (clsN f c) := by unfold fmaR; simp [k1, i1, z1, k2, i2, z2]
   rw [e2]
   exact (r15_Fnb f m a b c _ _ false false false  w cT cIa cIb cZa cZb cNa cNb cC).mono fun e w' h => ⟨h.1.trans (canon_ret f a b c), h.2⟩
  ·skip
   have n1 := below_nn f a k1
   have n2 := below_nn f b k2
   rcases kd_four (clsN f c) with ⟨k3, i3, z3⟩ | ⟨k3, i3, z3⟩ | ⟨k3, i3, z3⟩ | ⟨k3, i3, z3⟩ <;> rw [k3] at cNc <;> rw [i3] at cIc <;> rw [z3] at cZc
   ·skip
    have e2 : fmaR f m a b c = canon3 f (clsN f a) (clsN f b) (clsN f c) := by unfold fmaR; simp [k1, i1, z1, k2, i2, z2, k3, i3, z3, n1, n2]
    rw [e2]
    exact (r15_Jnc f m a b c _ _ false false false  w cT cIa cIb cZa cZb cNa cNb cNc cC).mono fun e w' h => ⟨h.1.trans (canon_ret f a b c), h.2⟩
   ·skip
    have n3 := below_nn f c k3
    by_cases hs : negN f c = (negN f a != negN f b)
    ·have e2 : fmaR f m a b c = (infN f (negN f a != negN f b), 0) := by unfold fmaR; simp [k1, i1, z1, k2, i2, z2, k3, i3, z3, n1, n2, n3, hs]
     rw [e2]
     exact r15_JIs f m a b c _ 0 _ _ _  w cT cIa cIb cZa cZb cNa cNb cNc cSa cSb cIc cSc (beq_iff_eq.2 hs) cI
    ·have e2 : fmaR f m a b c = (nanN f, 16) := by unfold fmaR; simp [k1, i1, z1, k2, i2, z2, k3, i3, z3, n1, n2, n3, hs]
     rw [e2]
     exact r15_JId f m a b c _ 0 _ _ _  w cT cIa cIb cZa cZb cNa cNb cNc cSa cSb cIc cSc (beq_eq_false_iff_ne.2 hs) cN
   ·skip
    have n3 := below_nn f c k3
    have e2 : fmaR f m a b c = (infN f (negN f a != negN f b), 0) := by unfold fmaR; simp [k1, i1, z1, k2, i2, z2, k3, i3, z3, n1, n2, n3]
    rw [e2]
    exact r15_Jf f m a b c _ 0 _ _ false  w cT cIa cIb cZa cZb cNa cNb cNc cSa cSb cIc cI
   ·skip
    have n3 := below_nn f c k3
    have e2 : fmaR f m a b c = (infN f (negN f a != negN f b), 0) := by unfold fmaR; simp [k1, i1, z1, k2, i2, z2, k3, i3, z3, n1, n2, n3]
    rw [e2]
    exact r15_Jf f m a b c _ 0 _ _ false  w cT cIa cIb cZa cZb cNa cNb cNc cSa cSb cIc cI
  ·skip
   have n1 := below_nn f a k1
   have n2 := below_nn f b k2
   rcases kd_four (clsN f c) with ⟨k3, i3, z3⟩ | ⟨k3, i3, z3⟩ | ⟨k3, i3, z3⟩ | ⟨k3, i3, z3⟩ <;> rw [k3] at cNc <;> rw [i3] at cIc <;> rw [z3] at cZc
   ·skip
    have e2 : fmaR f m a b c = canon3 f (clsN f a) (clsN f b) (clsN f c) := by unfold fmaR; simp [k1, i1, z1, k2, i2, z2, k3, i3, z3, n1, n2]
    rw [e2]
    exact (r15_Ync f m a b c _ _ false false false  w cT cIa cIb cZa cZb cNa cNb cNc cC).mono fun e w' h => ⟨h.1.trans (canon_ret f a b c), h.2⟩
   ·skip
    have n3 := below_nn f c k3
    have e2 : fmaR f m a b c = (c, 0) := by unfold fmaR; simp [k1, i1, z1, k2, i2, z2, k3, i3, z3, n1, n2, n3]
    rw [e2]
    exact r15_Yi f m a b c 0 0 _ _ false  w cT cIa cIb cZa cZb cNa cNb cNc cSa cSb cIc
   ·skip
    have n3 := below_nn f c k3
    by_cases hs : negN f c = (negN f a != negN f b)
    ·have e2 : fmaR f m a b c = (c, 0) := by unfold fmaR; simp [k1, i1, z1, k2, i2, z2, k3, i3, z3, n1, n2, n3, hs]
     rw [e2]
     exact r15_YZs f m a b c 0 0 _ _ _  w cT cIa cIb cZa cZb cNa cNb cNc cSa cSb cIc cZc cSc (beq_iff_eq.2 hs)
    ·have e2 : fmaR f m a b c = (zeroN f (decide (m = 2)), 0) := by unfold fmaR; simp [k1, i1, z1, k2, i2, z2, k3, i3, z3, n1, n2, n3, hs]
     rw [e2]
     exact r15_YZd f m a b c _ 0 _ _ _  w cT cIa cIb cZa cZb cNa cNb cNc cSa cSb cIc cZc cSc (beq_eq_false_iff_ne.2 hs) cO
   ·skip
    have n3 := below_nn f c k3
    have e2 : fmaR f m a b c = (c, 0) := by unfold fmaR; simp [k1, i1, z1, k2, i2, z2, k3, i3, z3, n1, n2, n3]
    rw [e2]
    have nz3 := sig_ne f c fc k3 i3 z3
    exact r15_zY f m a b c w cT cIa cIb cZa cZb cNa cNb cNc cSa cSb cIc cZc cO hf hm fa fb fc hc k1 i1 k2 i2 k3 i3 z3 (sig_ne f a fa k1 i1 z1) (sig_zer f b z2)
  ·skip
   have n1 := below_nn f a k1
   have n2 := below_nn f b k2
   rcases kd_four (clsN f c) with ⟨k3, i3, z3⟩ | ⟨k3, i3, z3⟩ | ⟨k3, i3, z3⟩ | ⟨k3, i3, z3⟩ <;> rw [k3] at cNc <;> rw [i3] at cIc <;> rw [z3] at cZc
   ·skip
    have e2 : fmaR f m a b c = canon3 f (clsN f a) (clsN f b) (clsN f c) := by unfold fmaR; simp [k1, i1, z1, k2, i2, z2, k3, i3, z3, n1, n2]
    rw [e2]
    exact (r15_Fnc f m a b c _ _ false false false  w cT cIa cIb cZa cZb cNa cNb cNc cC).mono fun e w' h => ⟨h.1.trans (canon_ret f a b c), h.2⟩
   ·skip
    have n3 := below_nn f c k3
    have e2 : fmaR f m a b c = (c, 0) := by unfold fmaR; simp [k1, i1, z1, k2, i2, z2, k3, i3, z3, n1, n2, n3]
    rw [e2]
    exact r15_Fi f m a b c 0 0 _ _ false  w cT cIa cIb cZa cZb cNa cNb cNc cSa cSb cIc
   ·skip
    have n3 := below_nn f c k3
    have e2 : fmaR f m a b c = packB f m (negN f a != negN f b) (sigN f a * sigN f b) (xpN f a + xpN f b) false := by unfold fmaR; simp [k1, i1, z1, k2, i2, z2, k3, i3, z3, n1, n2, n3]
    rw [e2]
    exact r15_FZ f m a b c w cT cIa cIb cZa cZb cNa cNb cNc cSa cSb cIc hf hm fa fb fc k1 i1 k2 i2 k3 i3 (sig_ne f a fa k1 i1 z1) (sig_ne f b fb k2 i2 z2) (sig_zer f c z3)
   ·skip
    have n3 := below_nn f c k3
    have e2 : fmaR f m a b c = sumX f m (negN f a != negN f b) (sigN f a * sigN f b) (xpN f a + xpN f b) (negN f c) (sigN f c) (xpN f c) := by unfold fmaR; simp [k1, i1, z1, k2, i2, z2, k3, i3, z3, n1, n2, n3]
    rw [e2]
    exact r15_FF f m a b c w cT cIa cIb cZa cZb cNa cNb cNc cSa cSb cIc cO hf hm fa fb fc k1 i1 k2 i2 k3 i3 z1 z2 z3 (sig_ne f a fa k1 i1 z1) (sig_ne f b fb k2 i2 z2) (sig_ne f c fc k3 i3 z3)
def fmaT (f m a b c : Nat) (g1 g3 : Bool) : Nat × Nat × Int := if triOk f m a b c = true then fmaN f m (if g1 = true then flipN f a else a) b (if g3 = true then flipN f c else c) else (0, 0, 2)
theorem r15Turned_any (f m a b c : Nat) (g1 g3 : Bool) (hg : g1 = true ∨ g3 = true) (w : World) (ha : a < 2 ^ (64 * 2)) (hb : b < 2 ^ (64 * 2)) (hc : c < 2 ^ (64 * 2)) :
  CR_ 39 #[.int .u8 f, .int .u8 m, BV a, BV b, BV c, .bool g1, .bool g3] w (.tuple #[BV (fmaT f m a b c g1 g3).1, .int .u8 ((fmaT f m a b c g1 g3).2.1 : Nat), .int .i64 (fmaT f m a b c g1 g3).2.2]) := by
 have cT := fun w g hB => r11Fits3_any f m a b c w ha hb hc g hB
 have hk : (decide (f < 4) && decide (m < 5) && (fitsB f a && (fitsB f b && fitsB f c))) = triOk f m a b c := by unfold triOk; rw [Bool.and_assoc (fitsB f a)]
 rw [hk] at cT
 clear hk
 unfold fmaT
 cases ok : triOk f m a b c
 case false =>
  rw [ok] at cT
  rw [if_neg (by decide)]
  exact r15Turned_no f m a b c 0 0 0 0 0 g1 g3 w cT
 rw [ok] at cT
 rw [if_pos rfl]
 unfold triOk at ok
 simp only [Bool.and_eq_true, decide_eq_true_iff] at ok
 obtain ⟨⟨hf, hm⟩, ⟨fa, fb⟩, fc⟩ := ok
 have xa := below_fits f _ (flip_fits f a fa)
 have xc := below_fits f _ (flip_fits f c fc)
 cases g1 <;> cases g3
 ·simp at hg
 ·exact r15Turned_ft f m a b c 0 _ _ _ _ w cT (fun w => r8Flip_any f c w hc) (fun w => r15MulAdd_any f m a b (flipN f c) w ha hb xc)
 ·exact r15Turned_tf f m a b c _ 0 _ _ _ w cT (fun w => r8Flip_any f a w ha) (fun w => r15MulAdd_any f m (flipN f a) b c w xa hb hc)
 ·exact r15Turned_tt f m a b c _ _ _ _ _ w cT (fun w => r8Flip_any f a w ha) (fun w => r8Flip_any f c w hc) (fun w => r15MulAdd_any f m (flipN f a) b (flipN f c) w xa hb xc)
end Go.Proofs.YtgmhmpflmgfcdaaGreatDoor
