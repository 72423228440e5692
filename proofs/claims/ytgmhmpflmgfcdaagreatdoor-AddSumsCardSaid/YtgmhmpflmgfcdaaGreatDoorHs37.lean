/- Part 37 of what is proved: R6a, R11a, R6aj. -/
import Derived.Test.YtgmhmpflmgfcdaaGreatDoorHs3
import Derived.Test.YtgmhmpflmgfcdaaGreatDoorHs4
import Derived.Test.YtgmhmpflmgfcdaaGreatDoorHs32
import Derived.Test.YtgmhmpflmgfcdaaGreatDoorHs36
set_option linter.unusedSimpArgs false
set_option linter.unusedVariables false
set_option linter.unnecessarySimpa false
set_option maxRecDepth 100000
set_option maxHeartbeats 3200000
namespace Go.Proofs.YtgmhmpflmgfcdaaGreatDoor
open Go.RowKit Go.Proofs.YtgmhmpflmgfcdaaGreatDoorW.PrintWords
theorem results_four {fn : Func} {t u v x : Tmp} (h : fn.results = #[.tmp t, .tmp u, .tmp v, .tmp x]) (tmps : Array Value) (P : Program) (w : World) :
  (results fn tmps).run P w = .ok (.tuple #[tmps.getD t undef, tmps.getD u undef, tmps.getD v undef, tmps.getD x undef]) w := by
 simp [results, h]
theorem r5Sub_w (a b s : ByteArray) (z : Int) (w : World) (q : decide (z < 0) = false) (cC : CK_ 57 #[.string a, .string b] (.int .i64 z)) (cS : CK_ 206 #[.string a, .string b] (.string s)) :
  CR_ 184 #[.string a, .string b] w (.tuple #[.string s, .int .i64 0]) := by
 have H := Own.start w
 go_enter Tryz.func184, Tryz.ntmps184
 exact walk4
theorem r6Two_t (n1 n2 n3 : Bool) (s1 d1 s2 d2 a b a2 b2 c s s3 d3 : ByteArray) (e1 e2 e3 er : Int) (w : World) (h1 : -400000 ≤ e1) (h2 : e1 ≤ 400000) (h3 : -400000 ≤ e2) (h4 : e2 ≤ 400000) (q : decide (e2 < e1) = true) (cA : CK_ 171 #[.string s1, .string d2] (.tuple #[.string a, .int .i64 0])) (cB : CK_ 171 #[.string s2, .string d1] (.tuple #[.string b, .int .i64 0])) (cL : CK_ 196 #[.string a, .int .i64 (e1 - e2)] (.tuple #[.string a2, .int .i64 0])) (cl : CK_ 196 #[.string b, .int .i64 0] (.tuple #[.string b2, .int .i64 0]))  :
  CR_ 183 #[.agg (exC n1 s1 d1 e1), .agg (exC n2 s2 d2 e2)] w (.tuple #[.string a2, .string b2, .int .i64 e2, .int .i64 0]) := by
 have H := Own.start w
 go_enter Tryz.func183, Tryz.ntmps183
 exact walk3
theorem r6Two_f (n1 n2 n3 : Bool) (s1 d1 s2 d2 a b a2 b2 c s s3 d3 : ByteArray) (e1 e2 e3 er : Int) (w : World) (h1 : -400000 ≤ e1) (h2 : e1 ≤ 400000) (h3 : -400000 ≤ e2) (h4 : e2 ≤ 400000) (q : decide (e2 < e1) = false) (cA : CK_ 171 #[.string s1, .string d2] (.tuple #[.string a, .int .i64 0])) (cB : CK_ 171 #[.string s2, .string d1] (.tuple #[.string b, .int .i64 0])) (cL : CK_ 196 #[.string a, .int .i64 0] (.tuple #[.string a2, .int .i64 0])) (cl : CK_ 196 #[.string b, .int .i64 (e2 - e1)] (.tuple #[.string b2, .int .i64 0]))  :
  CR_ 183 #[.agg (exC n1 s1 d1 e1), .agg (exC n2 s2 d2 e2)] w (.tuple #[.string a2, .string b2, .int .i64 e1, .int .i64 0]) := by
 have H := Own.start w
 go_enter Tryz.func183, Tryz.ntmps183
 exact walk3
theorem r6Add_z1 (n1 n2 n3 : Bool) (s1 d1 s2 d2 a b a2 b2 c s s3 d3 : ByteArray) (e1 e2 e3 er : Int) (w : World) (h1 : -400000 ≤ e1) (h2 : e1 ≤ 400000) (h3 : -400000 ≤ e2) (h4 : e2 ≤ 400000) (f_s1 : s1.toList.isEmpty = true) (f_s1' : s1.toList = [])  :
  CR_ 107 #[.agg (exC n1 s1 d1 e1), .agg (exC n2 s2 d2 e2)] w (.tuple #[.agg (exC n2 s2 d2 e2), .int .i64 0]) := by
 have H := Own.start w
 go_enter Tryz.func107, Tryz.ntmps107
 exact walk2
theorem r6Add_z2 (n1 n2 n3 : Bool) (s1 d1 s2 d2 a b a2 b2 c s s3 d3 : ByteArray) (e1 e2 e3 er : Int) (w : World) (h1 : -400000 ≤ e1) (h2 : e1 ≤ 400000) (h3 : -400000 ≤ e2) (h4 : e2 ≤ 400000) (f_s1 : s1.toList.isEmpty = false) (f_s1' : ¬ (s1.toList = [])) (f_s2 : s2.toList.isEmpty = true) (f_s2' : s2.toList = [])  :
  CR_ 107 #[.agg (exC n1 s1 d1 e1), .agg (exC n2 s2 d2 e2)] w (.tuple #[.agg (exC n1 s1 d1 e1), .int .i64 0]) := by
 have H := Own.start w
 go_enter Tryz.func107, Tryz.ntmps107
 exact walk2
theorem r6Add_st (n3 : Bool) (s1 d1 s2 d2 a b a2 b2 c s s3 d3 : ByteArray) (e1 e2 e3 er : Int) (w : World) (h1 : -400000 ≤ e1) (h2 : e1 ≤ 400000) (h3 : -400000 ≤ e2) (h4 : e2 ≤ 400000) (f_s1 : s1.toList.isEmpty = false) (f_s1' : ¬ (s1.toList = [])) (f_s2 : s2.toList.isEmpty = false) (f_s2' : ¬ (s2.toList = [])) (cT : CK_ 183 #[.agg (exC true s1 d1 e1), .agg (exC true s2 d2 e2)] (.tuple #[.string a, .string b, .int .i64 e3, .int .i64 0])) (cM : CK_ 171 #[.string d1, .string d2] (.tuple #[.string c, .int .i64 0])) (cA : CK_ 133 #[.string a, .string b] (.tuple #[.string s, .int .i64 0])) (cK : CK_ 63 #[.bool true, .string s, .string c, .int .i64 e3] (.tuple #[.agg (exC n3 s3 d3 er), .int .i64 0]))  :
  CR_ 107 #[.agg (exC true s1 d1 e1), .agg (exC true s2 d2 e2)] w (.tuple #[.agg (exC n3 s3 d3 er), .int .i64 0]) := by
 have H := Own.start w
 go_enter Tryz.func107, Tryz.ntmps107
 exact walk2
theorem r6Add_ty (n3 : Bool) (s1 d1 s2 d2 a b a2 b2 c s s3 d3 : ByteArray) (e1 e2 e3 er : Int) (w : World) (h1 : -400000 ≤ e1) (h2 : e1 ≤ 400000) (h3 : -400000 ≤ e2) (h4 : e2 ≤ 400000) (f_s1 : s1.toList.isEmpty = false) (f_s1' : ¬ (s1.toList = [])) (f_s2 : s2.toList.isEmpty = false) (f_s2' : ¬ (s2.toList = [])) (cT : CK_ 183 #[.agg (exC true s1 d1 e1), .agg (exC false s2 d2 e2)] (.tuple #[.string a, .string b, .int .i64 e3, .int .i64 0])) (cM : CK_ 171 #[.string d1, .string d2] (.tuple #[.string c, .int .i64 0])) (z : Int) (cC : CK_ 57 #[.string a, .string b] (.int .i64 z)) (q : decide (0 ≤ z) = true) (cS : CK_ 184 #[.string a, .string b] (.tuple #[.string s, .int .i64 0])) (cK : CK_ 63 #[.bool true, .string s, .string c, .int .i64 e3] (.tuple #[.agg (exC n3 s3 d3 er), .int .i64 0]))  :
  CR_ 107 #[.agg (exC true s1 d1 e1), .agg (exC false s2 d2 e2)] w (.tuple #[.agg (exC n3 s3 d3 er), .int .i64 0]) := by
 have H := Own.start w
 go_enter Tryz.func107, Tryz.ntmps107
 exact walk2
theorem r6Add_tn (n3 : Bool) (s1 d1 s2 d2 a b a2 b2 c s s3 d3 : ByteArray) (e1 e2 e3 er : Int) (w : World) (h1 : -400000 ≤ e1) (h2 : e1 ≤ 400000) (h3 : -400000 ≤ e2) (h4 : e2 ≤ 400000) (f_s1 : s1.toList.isEmpty = false) (f_s1' : ¬ (s1.toList = [])) (f_s2 : s2.toList.isEmpty = false) (f_s2' : ¬ (s2.toList = [])) (cT : CK_ 183 #[.agg (exC true s1 d1 e1), .agg (exC false s2 d2 e2)] (.tuple #[.string a, .string b, .int .i64 e3, .int .i64 0])) (cM : CK_ 171 #[.string d1, .string d2] (.tuple #[.string c, .int .i64 0])) (z : Int) (cC : CK_ 57 #[.string a, .string b] (.int .i64 z)) (q : decide (0 ≤ z) = false) (cS : CK_ 184 #[.string b, .string a] (.tuple #[.string s, .int .i64 0])) (cK : CK_ 63 #[.bool false, .string s, .string c, .int .i64 e3] (.tuple #[.agg (exC n3 s3 d3 er), .int .i64 0]))  :
  CR_ 107 #[.agg (exC true s1 d1 e1), .agg (exC false s2 d2 e2)] w (.tuple #[.agg (exC n3 s3 d3 er), .int .i64 0]) := by
 have H := Own.start w
 go_enter Tryz.func107, Tryz.ntmps107
 exact walk2
theorem r6Add_sf (n3 : Bool) (s1 d1 s2 d2 a b a2 b2 c s s3 d3 : ByteArray) (e1 e2 e3 er : Int) (w : World) (h1 : -400000 ≤ e1) (h2 : e1 ≤ 400000) (h3 : -400000 ≤ e2) (h4 : e2 ≤ 400000) (f_s1 : s1.toList.isEmpty = false) (f_s1' : ¬ (s1.toList = [])) (f_s2 : s2.toList.isEmpty = false) (f_s2' : ¬ (s2.toList = [])) (cT : CK_ 183 #[.agg (exC false s1 d1 e1), .agg (exC false s2 d2 e2)] (.tuple #[.string a, .string b, .int .i64 e3, .int .i64 0])) (cM : CK_ 171 #[.string d1, .string d2] (.tuple #[.string c, .int .i64 0])) (cA : CK_ 133 #[.string a, .string b] (.tuple #[.string s, .int .i64 0])) (cK : CK_ 63 #[.bool false, .string s, .string c, .int .i64 e3] (.tuple #[.agg (exC n3 s3 d3 er), .int .i64 0]))  :
  CR_ 107 #[.agg (exC false s1 d1 e1), .agg (exC false s2 d2 e2)] w (.tuple #[.agg (exC n3 s3 d3 er), .int .i64 0]) := by
 have H := Own.start w
 go_enter Tryz.func107, Tryz.ntmps107
 exact walk2
theorem r6Add_fy (n3 : Bool) (s1 d1 s2 d2 a b a2 b2 c s s3 d3 : ByteArray) (e1 e2 e3 er : Int) (w : World) (h1 : -400000 ≤ e1) (h2 : e1 ≤ 400000) (h3 : -400000 ≤ e2) (h4 : e2 ≤ 400000) (f_s1 : s1.toList.isEmpty = false) (f_s1' : ¬ (s1.toList = [])) (f_s2 : s2.toList.isEmpty = false) (f_s2' : ¬ (s2.toList = [])) (cT : CK_ 183 #[.agg (exC false s1 d1 e1), .agg (exC true s2 d2 e2)] (.tuple #[.string a, .string b, .int .i64 e3, .int .i64 0])) (cM : CK_ 171 #[.string d1, .string d2] (.tuple #[.string c, .int .i64 0])) (z : Int) (cC : CK_ 57 #[.string a, .string b] (.int .i64 z)) (q : decide (0 ≤ z) = true) (cS : CK_ 184 #[.string a, .string b] (.tuple #[.string s, .int .i64 0])) (cK : CK_ 63 #[.bool false, .string s, .string c, .int .i64 e3] (.tuple #[.agg (exC n3 s3 d3 er), .int .i64 0]))  :
  CR_ 107 #[.agg (exC false s1 d1 e1), .agg (exC true s2 d2 e2)] w (.tuple #[.agg (exC n3 s3 d3 er), .int .i64 0]) := by
 have H := Own.start w
 go_enter Tryz.func107, Tryz.ntmps107
 exact walk2
theorem r6Add_fn (n3 : Bool) (s1 d1 s2 d2 a b a2 b2 c s s3 d3 : ByteArray) (e1 e2 e3 er : Int) (w : World) (h1 : -400000 ≤ e1) (h2 : e1 ≤ 400000) (h3 : -400000 ≤ e2) (h4 : e2 ≤ 400000) (f_s1 : s1.toList.isEmpty = false) (f_s1' : ¬ (s1.toList = [])) (f_s2 : s2.toList.isEmpty = false) (f_s2' : ¬ (s2.toList = [])) (cT : CK_ 183 #[.agg (exC false s1 d1 e1), .agg (exC true s2 d2 e2)] (.tuple #[.string a, .string b, .int .i64 e3, .int .i64 0])) (cM : CK_ 171 #[.string d1, .string d2] (.tuple #[.string c, .int .i64 0])) (z : Int) (cC : CK_ 57 #[.string a, .string b] (.int .i64 z)) (q : decide (0 ≤ z) = false) (cS : CK_ 184 #[.string b, .string a] (.tuple #[.string s, .int .i64 0])) (cK : CK_ 63 #[.bool true, .string s, .string c, .int .i64 e3] (.tuple #[.agg (exC n3 s3 d3 er), .int .i64 0]))  :
  CR_ 107 #[.agg (exC false s1 d1 e1), .agg (exC true s2 d2 e2)] w (.tuple #[.agg (exC n3 s3 d3 er), .int .i64 0]) := by
 have H := Own.start w
 go_enter Tryz.func107, Tryz.ntmps107
 exact walk2
open Go.RowKit Go.Proofs.YtgmhmpflmgfcdaaGreatDoorW.PrintWords Go.Proofs.YtgmhmpflmgfcdaaGreatDoor.PDivQuotients
theorem r11Nought_t (f z : Nat) (w : World) (cZ : CK_ 87 #[.int .u8 f, .bool true] (BV z)) :
  CR_ 106 #[.int .u8 f, .int .u8 2] w (BV z) := by
 have H := Own.start w
 go_enter Tryz.func106, Tryz.ntmps106
 exact walk1
theorem r11Nought_f (f m z : Nat) (w : World) (q : ((m : Int) == 2) = false) (cZ : CK_ 87 #[.int .u8 f, .bool false] (BV z)) :
  CR_ 106 #[.int .u8 f, .int .u8 m] w (BV z) := by
 have H := Own.start w
 go_enter Tryz.func106, Tryz.ntmps106
 exact walk1
theorem r11Add_no (f m a b z : Nat) (fl : Int) (na nb nq : Bool) (n1 d1 n2 d2 n3 d3 : ByteArray) (e1 e2 e3 er : Int) (w : World) (cT : ∀ w g, Blk 27 w g (cat2 (bc a) (bc b)) → CR_ 82 #[.int .u8 f, .int .u8 m, .slice (some ⟨g, 0, none⟩) 2 2] w (.bool false))  :
  CR_ 27 #[.int .u8 f, .int .u8 m, BV a, BV b] w (.tuple #[BV 0, .int .u8 0, .int .i64 2]) := by
 have H := Own.start w
 go_enter Tryz.func27, Tryz.ntmps27
 exact walk2
theorem r11Add_na (f m a b z : Nat) (fl : Int) (na nb nq : Bool) (n1 d1 n2 d2 n3 d3 : ByteArray) (e1 e2 e3 er : Int) (w : World) (cT : ∀ w g, Blk 27 w g (cat2 (bc a) (bc b)) → CR_ 82 #[.int .u8 f, .int .u8 m, .slice (some ⟨g, 0, none⟩) 2 2] w (.bool true)) (cNa : CK_ 51 #[.int .u8 f, BV a] (.bool true)) (cC : ∀ w g, Blk 27 w g (cat2 (bc a) (bc b)) → CR_ 83 #[.int .u8 f, .slice (some ⟨g, 0, none⟩) 2 2] w (.tuple #[BV z, .int .u8 fl]))  :
  CR_ 27 #[.int .u8 f, .int .u8 m, BV a, BV b] w (.tuple #[BV z, .int .u8 fl, .int .i64 0]) := by
 have H := Own.start w
 go_enter Tryz.func27, Tryz.ntmps27
 exact walk2
theorem r11Add_nb (f m a b z : Nat) (fl : Int) (na nb nq : Bool) (n1 d1 n2 d2 n3 d3 : ByteArray) (e1 e2 e3 er : Int) (w : World) (cT : ∀ w g, Blk 27 w g (cat2 (bc a) (bc b)) → CR_ 82 #[.int .u8 f, .int .u8 m, .slice (some ⟨g, 0, none⟩) 2 2] w (.bool true)) (cNa : CK_ 51 #[.int .u8 f, BV a] (.bool false)) (cNb : CK_ 51 #[.int .u8 f, BV b] (.bool true)) (cC : ∀ w g, Blk 27 w g (cat2 (bc a) (bc b)) → CR_ 83 #[.int .u8 f, .slice (some ⟨g, 0, none⟩) 2 2] w (.tuple #[BV z, .int .u8 fl]))  :
  CR_ 27 #[.int .u8 f, .int .u8 m, BV a, BV b] w (.tuple #[BV z, .int .u8 fl, .int .i64 0]) := by
 have H := Own.start w
 go_enter Tryz.func27, Tryz.ntmps27
 exact walk2
theorem r11Add_IId (f m a b z : Nat) (fl : Int) (na nb nq : Bool) (n1 d1 n2 d2 n3 d3 : ByteArray) (e1 e2 e3 er : Int) (w : World) (cT : ∀ w g, Blk 27 w g (cat2 (bc a) (bc b)) → CR_ 82 #[.int .u8 f, .int .u8 m, .slice (some ⟨g, 0, none⟩) 2 2] w (.bool true)) (cNa : CK_ 51 #[.int .u8 f, BV a] (.bool false)) (cNb : CK_ 51 #[.int .u8 f, BV b] (.bool false)) (cIa : CK_ 53 #[.int .u8 f, BV a] (.bool true)) (cIb : CK_ 53 #[.int .u8 f, BV b] (.bool true)) (qe : ¬ (limb a 1 = limb b 1 ∧ limb a 0 = limb b 0)) (cN : CK_ 85 #[.int .u8 f] (BV z)) :
  CR_ 27 #[.int .u8 f, .int .u8 m, BV a, BV b] w (.tuple #[BV z, .int .u8 16, .int .i64 0]) := by
 have H := Own.start w
 go_enter Tryz.func27, Tryz.ntmps27
 exact walk2
theorem r11Add_IIs (f m a z : Nat) (fl : Int) (na nb nq : Bool) (n1 d1 n2 d2 n3 d3 : ByteArray) (e1 e2 e3 er : Int) (w : World) (cT : ∀ w g, Blk 27 w g (cat2 (bc a) (bc a)) → CR_ 82 #[.int .u8 f, .int .u8 m, .slice (some ⟨g, 0, none⟩) 2 2] w (.bool true)) (cNa : CK_ 51 #[.int .u8 f, BV a] (.bool false)) (cNb : CK_ 51 #[.int .u8 f, BV a] (.bool false)) (cIa : CK_ 53 #[.int .u8 f, BV a] (.bool true)) (cIb : CK_ 53 #[.int .u8 f, BV a] (.bool true))  :
  CR_ 27 #[.int .u8 f, .int .u8 m, BV a, BV a] w (.tuple #[BV a, .int .u8 0, .int .i64 0]) := by
 have H := Own.start w
 go_enter Tryz.func27, Tryz.ntmps27
 exact walk2
theorem r11Add_If (f m a b z : Nat) (fl : Int) (na nb nq : Bool) (n1 d1 n2 d2 n3 d3 : ByteArray) (e1 e2 e3 er : Int) (w : World) (cT : ∀ w g, Blk 27 w g (cat2 (bc a) (bc b)) → CR_ 82 #[.int .u8 f, .int .u8 m, .slice (some ⟨g, 0, none⟩) 2 2] w (.bool true)) (cNa : CK_ 51 #[.int .u8 f, BV a] (.bool false)) (cNb : CK_ 51 #[.int .u8 f, BV b] (.bool false)) (cIa : CK_ 53 #[.int .u8 f, BV a] (.bool true)) (cIb : CK_ 53 #[.int .u8 f, BV b] (.bool false))  :
  CR_ 27 #[.int .u8 f, .int .u8 m, BV a, BV b] w (.tuple #[BV a, .int .u8 0, .int .i64 0]) := by
 have H := Own.start w
 go_enter Tryz.func27, Tryz.ntmps27
 exact walk2
theorem r11Add_fI (f m a b z : Nat) (fl : Int) (na nb nq : Bool) (n1 d1 n2 d2 n3 d3 : ByteArray) (e1 e2 e3 er : Int) (w : World) (cT : ∀ w g, Blk 27 w g (cat2 (bc a) (bc b)) → CR_ 82 #[.int .u8 f, .int .u8 m, .slice (some ⟨g, 0, none⟩) 2 2] w (.bool true)) (cNa : CK_ 51 #[.int .u8 f, BV a] (.bool false)) (cNb : CK_ 51 #[.int .u8 f, BV b] (.bool false)) (cIa : CK_ 53 #[.int .u8 f, BV a] (.bool false)) (cIb : CK_ 53 #[.int .u8 f, BV b] (.bool true))  :
  CR_ 27 #[.int .u8 f, .int .u8 m, BV a, BV b] w (.tuple #[BV b, .int .u8 0, .int .i64 0]) := by
 have H := Own.start w
 go_enter Tryz.func27, Tryz.ntmps27
 exact walk2
theorem r11Add_ZZs (f m a z : Nat) (fl : Int) (na nb nq : Bool) (n1 d1 n2 d2 n3 d3 : ByteArray) (e1 e2 e3 er : Int) (w : World) (cT : ∀ w g, Blk 27 w g (cat2 (bc a) (bc a)) → CR_ 82 #[.int .u8 f, .int .u8 m, .slice (some ⟨g, 0, none⟩) 2 2] w (.bool true)) (cNa : CK_ 51 #[.int .u8 f, BV a] (.bool false)) (cNb : CK_ 51 #[.int .u8 f, BV a] (.bool false)) (cIa : CK_ 53 #[.int .u8 f, BV a] (.bool false)) (cIb : CK_ 53 #[.int .u8 f, BV a] (.bool false)) (cZa : CK_ 84 #[.int .u8 f, BV a] (.bool true)) (cZb : CK_ 84 #[.int .u8 f, BV a] (.bool true))  :
  CR_ 27 #[.int .u8 f, .int .u8 m, BV a, BV a] w (.tuple #[BV a, .int .u8 0, .int .i64 0]) := by
 have H := Own.start w
 go_enter Tryz.func27, Tryz.ntmps27
 exact walk2
theorem r11Add_ZZd (f m a b z : Nat) (fl : Int) (na nb nq : Bool) (n1 d1 n2 d2 n3 d3 : ByteArray) (e1 e2 e3 er : Int) (w : World) (cT : ∀ w g, Blk 27 w g (cat2 (bc a) (bc b)) → CR_ 82 #[.int .u8 f, .int .u8 m, .slice (some ⟨g, 0, none⟩) 2 2] w (.bool true)) (cNa : CK_ 51 #[.int .u8 f, BV a] (.bool false)) (cNb : CK_ 51 #[.int .u8 f, BV b] (.bool false)) (cIa : CK_ 53 #[.int .u8 f, BV a] (.bool false)) (cIb : CK_ 53 #[.int .u8 f, BV b] (.bool false)) (cZa : CK_ 84 #[.int .u8 f, BV a] (.bool true)) (cZb : CK_ 84 #[.int .u8 f, BV b] (.bool true)) (qe : ¬ (limb a 1 = limb b 1 ∧ limb a 0 = limb b 0)) (cO : CK_ 106 #[.int .u8 f, .int .u8 m] (BV z)) :
  CR_ 27 #[.int .u8 f, .int .u8 m, BV a, BV b] w (.tuple #[BV z, .int .u8 0, .int .i64 0]) := by
 have H := Own.start w
 go_enter Tryz.func27, Tryz.ntmps27
 exact walk2
theorem r11Add_Ft (f m a b z : Nat) (fl : Int) (na nb nq : Bool) (n1 d1 n2 d2 n3 d3 : ByteArray) (e1 e2 e3 er : Int) (w : World) (cT : ∀ w g, Blk 27 w g (cat2 (bc a) (bc b)) → CR_ 82 #[.int .u8 f, .int .u8 m, .slice (some ⟨g, 0, none⟩) 2 2] w (.bool true)) (cNa : CK_ 51 #[.int .u8 f, BV a] (.bool false)) (cNb : CK_ 51 #[.int .u8 f, BV b] (.bool false)) (cIa : CK_ 53 #[.int .u8 f, BV a] (.bool false)) (cIb : CK_ 53 #[.int .u8 f, BV b] (.bool false)) (cZa : CK_ 84 #[.int .u8 f, BV a] (.bool true)) (cZb : CK_ 84 #[.int .u8 f, BV b] (.bool false)) (cVa : CK_ 88 #[.int .u8 f, BV a] (.tuple #[.agg (exC na n1 d1 e1), .int .i64 0])) (cVb : CK_ 88 #[.int .u8 f, BV b] (.tuple #[.agg (exC nb n2 d2 e2), .int .i64 0])) (cQ : CK_ 107 #[.agg (exC na n1 d1 e1), .agg (exC nb n2 d2 e2)] (.tuple #[.agg (exC nq n3 d3 e3), .int .i64 0])) (f_n : n3.toList.isEmpty = false) (f_n' : ¬ (n3.toList = [])) (cR : CK_ 64 #[.int .u8 f, .int .u8 m, .agg (exC nq n3 d3 e3)] (.tuple #[BV z, .int .u8 fl, .int .i64 er]))  :
  CR_ 27 #[.int .u8 f, .int .u8 m, BV a, BV b] w (.tuple #[BV z, .int .u8 fl, .int .i64 er]) := by
 have H := Own.start w
 go_enter Tryz.func27, Tryz.ntmps27
 exact walk2
theorem r11Add_Ff (f m a b z : Nat) (fl : Int) (na nb nq : Bool) (n1 d1 n2 d2 n3 d3 : ByteArray) (e1 e2 e3 er : Int) (w : World) (cT : ∀ w g, Blk 27 w g (cat2 (bc a) (bc b)) → CR_ 82 #[.int .u8 f, .int .u8 m, .slice (some ⟨g, 0, none⟩) 2 2] w (.bool true)) (cNa : CK_ 51 #[.int .u8 f, BV a] (.bool false)) (cNb : CK_ 51 #[.int .u8 f, BV b] (.bool false)) (cIa : CK_ 53 #[.int .u8 f, BV a] (.bool false)) (cIb : CK_ 53 #[.int .u8 f, BV b] (.bool false)) (cZa : CK_ 84 #[.int .u8 f, BV a] (.bool false)) (cVa : CK_ 88 #[.int .u8 f, BV a] (.tuple #[.agg (exC na n1 d1 e1), .int .i64 0])) (cVb : CK_ 88 #[.int .u8 f, BV b] (.tuple #[.agg (exC nb n2 d2 e2), .int .i64 0])) (cQ : CK_ 107 #[.agg (exC na n1 d1 e1), .agg (exC nb n2 d2 e2)] (.tuple #[.agg (exC nq n3 d3 e3), .int .i64 0])) (f_n : n3.toList.isEmpty = false) (f_n' : ¬ (n3.toList = [])) (cR : CK_ 64 #[.int .u8 f, .int .u8 m, .agg (exC nq n3 d3 e3)] (.tuple #[BV z, .int .u8 fl, .int .i64 er]))  :
  CR_ 27 #[.int .u8 f, .int .u8 m, BV a, BV b] w (.tuple #[BV z, .int .u8 fl, .int .i64 er]) := by
 have H := Own.start w
 go_enter Tryz.func27, Tryz.ntmps27
 exact walk2
theorem r11Add_Nf (f m a b z : Nat) (fl : Int) (na nb nq : Bool) (n1 d1 n2 d2 n3 d3 : ByteArray) (e1 e2 e3 er : Int) (w : World) (cT : ∀ w g, Blk 27 w g (cat2 (bc a) (bc b)) → CR_ 82 #[.int .u8 f, .int .u8 m, .slice (some ⟨g, 0, none⟩) 2 2] w (.bool true)) (cNa : CK_ 51 #[.int .u8 f, BV a] (.bool false)) (cNb : CK_ 51 #[.int .u8 f, BV b] (.bool false)) (cIa : CK_ 53 #[.int .u8 f, BV a] (.bool false)) (cIb : CK_ 53 #[.int .u8 f, BV b] (.bool false)) (cZa : CK_ 84 #[.int .u8 f, BV a] (.bool false)) (cVa : CK_ 88 #[.int .u8 f, BV a] (.tuple #[.agg (exC na n1 d1 e1), .int .i64 0])) (cVb : CK_ 88 #[.int .u8 f, BV b] (.tuple #[.agg (exC nb n2 d2 e2), .int .i64 0])) (cQ : CK_ 107 #[.agg (exC na n1 d1 e1), .agg (exC nb n2 d2 e2)] (.tuple #[.agg (exC nq n3 d3 e3), .int .i64 0])) (f_n : n3.toList.isEmpty = true) (f_n' : n3.toList = []) (cO : CK_ 106 #[.int .u8 f, .int .u8 m] (BV z)) :
  CR_ 27 #[.int .u8 f, .int .u8 m, BV a, BV b] w (.tuple #[BV z, .int .u8 0, .int .i64 0]) := by
 have H := Own.start w
 go_enter Tryz.func27, Tryz.ntmps27
 exact walk2
theorem r11Sub_no (f m a b : Nat) (w : World) (cT : ∀ w g, Blk 27 w g (cat2 (bc a) (bc b)) → CR_ 82 #[.int .u8 f, .int .u8 m, .slice (some ⟨g, 0, none⟩) 2 2] w (.bool false))  :
  CR_ 29 #[.int .u8 f, .int .u8 m, BV a, BV b] w (.tuple #[BV 0, .int .u8 0, .int .i64 2]) := by
 have H := Own.start w
 go_enter Tryz.func29, Tryz.ntmps29
 exact walk2
theorem r11Sub_ok (f m a b c z : Nat) (fl er : Int) (w : World) (cT : ∀ w g, Blk 27 w g (cat2 (bc a) (bc b)) → CR_ 82 #[.int .u8 f, .int .u8 m, .slice (some ⟨g, 0, none⟩) 2 2] w (.bool true)) (cF : CK_ 109 #[.int .u8 f, BV b] (BV c)) (cA : CK_ 27 #[.int .u8 f, .int .u8 m, BV a, BV c] (.tuple #[BV z, .int .u8 fl, .int .i64 er])) :
  CR_ 29 #[.int .u8 f, .int .u8 m, BV a, BV b] w (.tuple #[BV z, .int .u8 fl, .int .i64 er]) := by
 have H := Own.start w
 go_enter Tryz.func29, Tryz.ntmps29
 exact walk4
theorem r5Sub_any (a b : Nat) (w : World) (h : b ≤ a) (ha : nb a ≤ 100000) : CR_ 184 #[.string (strB a), .string (strB b)] w (.tuple #[.string (strB (a - b)), .int .i64 0]) :=
 r5Sub_w (strB a) (strB b) (strB (a - b)) (cmpN a b) w (decide_eq_false (by unfold cmpN; rw [if_neg (by omega)]; split <;> omega)) (fun w => r5Cmp_any a b w) (fun w => z05_sub.calls _ _ _ _ w (sub_strB a b _ h (by omega) (Nat.le_refl _)))
theorem len_shl (n k p : Nat) (h : lenN n ≤ p) : lenN (n * 2 ^ k) ≤ p + k := by
 refine (lenN_le _ _).2 ?_
 rw [Nat.pow_add]
 exact Nat.mul_lt_mul_of_pos_right ((lenN_le _ _).1 h) (Nat.two_pow_pos k)
theorem r6Two_any (x y : Bool) (n1 n2 : Nat) (e1 e2 : Int) (w : World) (l1 : lenN n1 ≤ 300) (l2 : lenN n2 ≤ 300) (q1 : -40000 ≤ e1) (q2 : e1 ≤ 40000) (q3 : -40000 ≤ e2) (q4 : e2 ≤ 40000) :
  CR_ 183 #[exV x n1 1 e1, exV y n2 1 e2] w (.tuple #[.string (strB (n1 * 2 ^ (e1 - min e1 e2).toNat)), .string (strB (n2 * 2 ^ (e2 - min e1 e2).toNat)), .int .i64 (min e1 e2), .int .i64 0]) := by
 have b1 : nb n1 ≤ 40 := by unfold nb; omega
 have b2 : nb n2 ≤ 40 := by unfold nb; omega
 have cA := fun w => r5Mul_any n1 1 w (by have : nb 1 ≤ 1 := (by decide); omega)
 have cB := fun w => r5Mul_any n2 1 w (by have : nb 1 ≤ 1 := (by decide); omega)
 rw [Nat.mul_one] at cA cB
 obtain ⟨k1, hk1⟩ : ∃ k1 : Nat, (k1 : Int) = e1 - min e1 e2 := ⟨(e1 - min e1 e2).toNat, by omega⟩
 obtain ⟨k2, hk2⟩ : ∃ k2 : Nat, (k2 : Int) = e2 - min e1 e2 := ⟨(e2 - min e1 e2).toNat, by omega⟩
 rw [← hk1, ← hk2, Int.toNat_natCast, Int.toNat_natCast]
 have cL := fun w => r5Left_any n1 k1 w (by omega) (Or.inr (by omega)) (by omega)
 have cl := fun w => r5Left_any n2 k2 w (by omega) (Or.inr (by omega)) (by omega)
 by_cases h : e2 < e1
 ·have hm : min e1 e2 = e2 := by omega
  rw [hm] at hk1 hk2 ⊢
  rw [hk1] at cL
  rw [hk2, Int.sub_self] at cl
  exact r6Two_t x y false _ _ _ _ _ _ _ _ ⟨#[]⟩ ⟨#[]⟩ ⟨#[]⟩ ⟨#[]⟩ e1 e2 0 0 w (by omega) (by omega) (by omega) (by omega) (decide_eq_true h) cA cB cL cl
 ·have hm : min e1 e2 = e1 := by omega
  rw [hm] at hk1 hk2 ⊢
  rw [hk1, Int.sub_self] at cL
  rw [hk2] at cl
  exact r6Two_f x y false _ _ _ _ _ _ _ _ ⟨#[]⟩ ⟨#[]⟩ ⟨#[]⟩ ⟨#[]⟩ e1 e2 0 0 w (by omega) (by omega) (by omega) (by omega) (decide_eq_false h) cA cB cL cl
def sumS (x y : Bool) (A B : Nat) : Bool := if x = y then x else if B ≤ A then x else y
def sumM (x y : Bool) (A B : Nat) : Nat := if x = y then A + B else if B ≤ A then A - B else B - A
theorem r6Add_any (x y : Bool) (n1 n2 : Nat) (e1 e2 : Int) (w : World) (h1 : n1 ≠ 0) (h2 : n2 ≠ 0) (l1 : lenN n1 ≤ 300) (l2 : lenN n2 ≤ 300) (q1 : -40000 ≤ e1) (q2 : e1 ≤ 40000) (q3 : -40000 ≤ e2) (q4 : e2 ≤ 40000) (A B : Nat) (hA : A = n1 * 2 ^ (e1 - min e1 e2).toNat) (hB : B = n2 * 2 ^ (e2 - min e1 e2).toNat) :
  CR_ 107 #[exV x n1 1 e1, exV y n2 1 e2] w (.tuple #[exV (negX' (sumS x y A B) (sumM x y A B)) (numX (sumM x y A B) 1) (denX (sumM x y A B) 1) (expX (sumM x y A B) 1 (min e1 e2)), .int .i64 0]) := by
 have cT := fun w => r6Two_any x y n1 n2 e1 e2 w l1 l2 q1 q2 q3 q4
 rw [← hA, ← hB] at cT
 have lA : lenN A ≤ 300 + (e1 - min e1 e2).toNat := by rw [hA]; exact len_shl _ _ _ l1
 have lB : lenN B ≤ 300 + (e2 - min e1 e2).toNat := by rw [hB]; exact len_shl _ _ _ l2
 have bA : nb A ≤ 16000 := by unfold nb; omega
 have bB : nb B ≤ 16000 := by unfold nb; omega
 have b1 : nb 1 ≤ 1 := by decide
 have cM := fun w => r5Mul_any 1 1 w (by omega)
 obtain ⟨f1, f1'⟩ := strE_full n1 h1
 obtain ⟨f2, f2'⟩ := strE_full n2 h2
 have mk := fun g n w hn => r6Make_any g n 1 (min e1 e2) w hn (by omega) (by decide) (by omega) (by omega)
 cases x <;> cases y
 ·have cA := fun w => r5Add_any A B w (by omega) (by omega)
  exact r6Add_sf _ _ _ _ _ _ _ ⟨#[]⟩ ⟨#[]⟩ _ _ _ _ e1 e2 _ _ w (by omega) (by omega) (by omega) (by omega) f1 f1' f2 f2' cT cM cA (fun w => mk false (A + B) w (Nat.le_trans (nb_add A B 16000 bA bB) (by decide)))
 ·by_cases h : B ≤ A
  ·have e0 : sumS false true A B = false ∧ sumM false true A B = A - B := ⟨by unfold sumS; rw [if_neg (by decide), if_pos h], by unfold sumM; rw [if_neg (by decide), if_pos h]⟩
   rw [e0.1, e0.2]
   exact r6Add_fy _ _ _ _ _ _ _ ⟨#[]⟩ ⟨#[]⟩ _ _ _ _ e1 e2 _ _ w (by omega) (by omega) (by omega) (by omega) f1 f1' f2 f2' cT cM _ (fun w => r5Cmp_any A B w) (decide_eq_true (by unfold cmpN; rw [if_neg (by omega)]; split <;> omega)) (fun w => r5Sub_any A B w h (by omega)) (fun w => mk false (A - B) w (Nat.le_trans (nb_mono _ _ (Nat.sub_le _ _)) (by omega)))
  ·have e0 : sumS false true A B = true ∧ sumM false true A B = B - A := ⟨by unfold sumS; rw [if_neg (by decide), if_neg h], by unfold sumM; rw [if_neg (by decide), if_neg h]⟩
   rw [e0.1, e0.2]
   exact r6Add_fn _ _ _ _ _ _ _ ⟨#[]⟩ ⟨#[]⟩ _ _ _ _ e1 e2 _ _ w (by omega) (by omega) (by omega) (by omega) f1 f1' f2 f2' cT cM _ (fun w => r5Cmp_any A B w) (decide_eq_false (by unfold cmpN; rw [if_pos (by omega)]; omega)) (fun w => r5Sub_any B A w (by omega) (by omega)) (fun w => mk true (B - A) w (Nat.le_trans (nb_mono _ _ (Nat.sub_le _ _)) (by omega)))
 ·by_cases h : B ≤ A
  ·have e0 : sumS true false A B = true ∧ sumM true false A B = A - B := ⟨by unfold sumS; rw [if_neg (by decide), if_pos h], by unfold sumM; rw [if_neg (by decide), if_pos h]⟩
   rw [e0.1, e0.2]
   exact r6Add_ty _ _ _ _ _ _ _ ⟨#[]⟩ ⟨#[]⟩ _ _ _ _ e1 e2 _ _ w (by omega) (by omega) (by omega) (by omega) f1 f1' f2 f2' cT cM _ (fun w => r5Cmp_any A B w) (decide_eq_true (by unfold cmpN; rw [if_neg (by omega)]; split <;> omega)) (fun w => r5Sub_any A B w h (by omega)) (fun w => mk true (A - B) w (Nat.le_trans (nb_mono _ _ (Nat.sub_le _ _)) (by omega)))
  ·have e0 : sumS true false A B = false ∧ sumM true false A B = B - A := ⟨by unfold sumS; rw [if_neg (by decide), if_neg h], by unfold sumM; rw [if_neg (by decide), if_neg h]⟩
   rw [e0.1, e0.2]
   exact r6Add_tn _ _ _ _ _ _ _ ⟨#[]⟩ ⟨#[]⟩ _ _ _ _ e1 e2 _ _ w (by omega) (by omega) (by omega) (by omega) f1 f1' f2 f2' cT cM _ (fun w => r5Cmp_any A B w) (decide_eq_false (by unfold cmpN; rw [if_pos (by omega)]; omega)) (fun w => r5Sub_any B A w (by omega) (by omega)) (fun w => mk false (B - A) w (Nat.le_trans (nb_mono _ _ (Nat.sub_le _ _)) (by omega)))
 ·have cA := fun w => r5Add_any A B w (by omega) (by omega)
  exact r6Add_st _ _ _ _ _ _ _ ⟨#[]⟩ ⟨#[]⟩ _ _ _ _ e1 e2 _ _ w (by omega) (by omega) (by omega) (by omega) f1 f1' f2 f2' cT cM cA (fun w => mk true (A + B) w (Nat.le_trans (nb_add A B 16000 bA bB) (by decide)))
end Go.Proofs.YtgmhmpflmgfcdaaGreatDoor
