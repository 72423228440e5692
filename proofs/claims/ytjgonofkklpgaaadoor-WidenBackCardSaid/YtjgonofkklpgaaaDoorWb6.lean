/- WidenBack: for every input the law returns true, and each argument reads behind the call as it read before; the listed table is tied to the program's text. -/
import Derived.Test.YtjgonofkklpgaaaDoorRows
import Derived.Test.YtjgonofkklpgaaaDoorTie
import Derived.Test.YtjgonofkklpgaaaDoorCards
import Derived.WalkKit
import Derived.ProofKit
import Derived.LaidMore
import Derived.OpenShut
import Derived.Stop.Joined
import Derived.SevenTiedAt
import Derived.Lib.SmallJoins
import Derived.ChangeOld
import Derived.Below
import Derived.Carry
import Derived.Test.YtjgonofkklpgaaaDoorWb5
set_option linter.unusedSimpArgs false
set_option linter.unusedVariables false
set_option linter.unnecessarySimpa false
namespace Go.Proofs.YtjgonofkklpgaaaDoor
open Go.RowKit
theorem nan_fits (f : Nat) (hf : f < 4) : nanN f < 2 ^ (64 * 2) := below_fits f _ (nan_parts f hf).1
theorem dec_lt8 (c : Nat) (b : Bool) (h : decide (c < 8) = b) : decide ((c : Int) < 8) = b := by rw [← h, Bool.eq_iff_iff, decide_eq_true_iff, decide_eq_true_iff]; omega
theorem dec_ge8 (c : Nat) (b : Bool) (h : decide (8 ≤ c) = b) : decide (8 ≤ (c : Int)) = b := by rw [← h, Bool.eq_iff_iff, decide_eq_true_iff, decide_eq_true_iff]; omega
theorem widBack_any (to fr m n a : Nat) (w : World) (ht : to < 256) (hf : fr < 256) (hm : m < 256) (hn : n < 256) (ha : a < 2 ^ (64 * 2)) (hT : Tab w) :
    Calls Tryd.prog 5 #[.int .u8 to, .int .u8 fr, .int .u8 m, .int .u8 n, BV a] w fun e w' => e = .returned (.bool true) ∧ Below w.heap.size w w' := by
  have cA := fun w hT => widenConvert_any to fr m a w ht hm ha hT
  have cM := fun w => shapeCheckMode_any n w hn
  cases hok : widenOk to fr m a
  · have hN : widenN to fr m a = (0, 0, 2) := by unfold widenN; rw [hok]; rfl
    rw [hN] at cA
    exact widBack_bad to fr m n a _ 0 _ 0 w hT cA
  obtain ⟨hfa, h4', h5'⟩ : fitsB fr a = true ∧ decide (to < 4) = true ∧ decide (m < 5) = true := by unfold widenOk at hok; simp only [Bool.and_eq_true] at hok; exact hok
  have h4 := of_decide_eq_true h4'
  have hfr := ((fits_iff fr a).1 hfa).1
  have hN : widenN to fr m a = ((widenR to fr m a).1, (widenR to fr m a).2, 0) := by unfold widenN; rw [hok]; rfl
  rw [hN] at cA
  by_cases hn5 : n < 5
  case neg =>
    rw [decide_eq_false hn5] at cM
    exact widBack_mode to fr m n a _ 0 _ 0 w hT cA cM
  rw [decide_eq_true hn5] at cM
  have cC := fun w hT => kindClass_any fr a w hf ha hT
  rw [hfa] at cC
  have hok1 : widenOk to fr 1 a = true := by unfold widenOk; rw [hfa, h4']; rfl
  have cF := fun w hT => widenFits_any to fr a w ht hf ha hT
  rw [hok1] at cF
  have cZ := fun w hT => widenConvert_any to fr 1 a w ht (by decide) ha hT
  have hN1 : widenN to fr 1 a = ((widenR to fr 1 a).1, (widenR to fr 1 a).2, 0) := by unfold widenN; rw [hok1]; rfl
  rw [hN1] at cZ
  have cW1 := fun w => shapeWidth_any to w ht
  have cW2 := fun w => shapeWidth_any fr w hf
  have hle := cls_le fr a
  have hft : ∀ b : Bool, decide ((widenR to fr 1 a).2 = 0) = b → clsN fr a < 8 → fitsN to fr a = b := by
    intro b hb hc; unfold fitsN; rw [hok1, hb, decide_eq_true hc]; cases b <;> rfl
  have hfh : ¬ clsN fr a < 8 → fitsN to fr a = false := by
    intro hc; unfold fitsN; rw [decide_eq_false hc]; simp
  have hz1 : (widenR to fr 1 a).2 = 0 → ((((widenR to fr 1 a).2 : Nat) : Int) == 0) = true := int_eq_true _ 0
  have hz0 : (widenR to fr 1 a).2 ≠ 0 → ((((widenR to fr 1 a).2 : Nat) : Int) == 0) = false := int_eq_false _ 0
  by_cases hw : wF to < wF fr
  · by_cases h8 : clsN fr a < 8
    · by_cases h0 : (widenR to fr 1 a).2 = 0
      · rw [hft true (decide_eq_true h0) h8] at cF
        exact widBack_small_lot to fr m n a _ _ _ _ w hT (clsN fr a) _ _ (dec_lt8 _ _ (decide_eq_true h8)) (dec_ge8 _ _ (decide_eq_false (by omega))) (hz1 h0) hw cA cM cC cF cZ cW1 cW2
      · rw [hft false (decide_eq_false h0) h8] at cF
        exact widBack_small_lof to fr m n a _ _ _ _ w hT (clsN fr a) _ _ (dec_lt8 _ _ (decide_eq_true h8)) (dec_ge8 _ _ (decide_eq_false (by omega))) (hz0 h0) hw cA cM cC cF cZ cW1 cW2
    · rw [hfh h8] at cF
      exact widBack_small_hi to fr m n a _ _ _ _ w hT (clsN fr a) _ _ (dec_lt8 _ _ (decide_eq_false h8)) (dec_ge8 _ _ (decide_eq_true (by omega))) hw cA cM cC cF cZ cW1 cW2
  have hwd : decide ((wF to : Int) < (wF fr : Int)) = false := by simp; omega
  by_cases h88 : clsN fr a = 8
  · have hR : widenR to fr m a = (nanN to, 16) := by unfold widenR; rw [if_pos (by omega), h88]; rfl
    rw [hR] at cA
    rw [hfh (by omega)] at cF
    rw [h88] at cC
    exact widBack_sig to fr m n a _ _ _ _ 0 _ w hT hwd cA cM cC cF cZ cW1 cW2 (fun w => shapeNaN_any to w ht)
  obtain ⟨b1, b2, b3, b4⟩ := widen_back to fr m n a h4 hfa hw h88
  have hokY : widenOk fr to n (widenR to fr m a).1 = true := by unfold widenOk; rw [b2, decide_eq_true hfr, decide_eq_true hn5]; rfl
  have cY := fun w hT => widenConvert_any fr to n (widenR to fr m a).1 w hf hn (below_fits to _ b2) hT
  have hNY : widenN fr to n (widenR to fr m a).1 = ((widenR fr to n (widenR to fr m a).1).1, 0, 0) := by unfold widenN; rw [hokY, cond_true, b3]
  rw [hNY] at cY
  rw [b1] at cA
  by_cases hya : (widenR fr to n (widenR to fr m a).1).1 = a
  · rw [hya] at cY
    by_cases h8 : clsN fr a < 8
    · by_cases h0 : (widenR to fr 1 a).2 = 0
      · rw [hft true (decide_eq_true h0) h8] at cF
        exact widBack_home_lot to fr m n a _ _ 0 _ w hT (clsN fr a) _ _ (dec_lt8 _ _ (decide_eq_true h8)) (dec_ge8 _ _ (decide_eq_false (by omega))) (int_eq_false _ 8 h88) (hz1 h0) hwd cA cM cC cF cZ cW1 cW2 cY
      · rw [hft false (decide_eq_false h0) h8] at cF
        exact widBack_home_lof to fr m n a _ _ 0 _ w hT (clsN fr a) _ _ (dec_lt8 _ _ (decide_eq_true h8)) (dec_ge8 _ _ (decide_eq_false (by omega))) (int_eq_false _ 8 h88) (hz0 h0) hwd cA cM cC cF cZ cW1 cW2 cY
    · rw [hfh h8] at cF
      rw [show clsN fr a = 9 by omega] at cC
      exact widBack_home_hi to fr m n a _ _ 0 _ w hT _ _ hwd cA cM cC cF cZ cW1 cW2 cY
  · obtain ⟨h9, hy⟩ := b4.resolve_left hya
    rw [hfh (by omega)] at cF
    rw [h9] at cC
    rw [hy] at cY hya
    exact widBack_quiet to fr m n a _ _ _ _ _ 0 _ w hT (bits_ne _ _ (nan_fits fr hfr) ha hya) hwd cA cM cC cF cZ cW1 cW2 cY (fun w => shapeNaN_any fr w hf)
end Go.Proofs.YtjgonofkklpgaaaDoor

namespace Go.Proofs.YtjgonofkklpgaaaDoor
open Go.ChangeShapes Go.WideShapes Go.ChangeAt Go.RowKit
theorem own : ownKnob Tryd.prog.godebug = none := by kernel_rfl
theorem laidOut : laidOutB Tryd.prog = true := by kernel_rfl
/-- What every row of this seat lists. -/
def laidL : List (String × DataW Unit) := [("math/bits.deBruijn64tab", Rows.laid_math_bits_deBruijn64tab)]
theorem gTab : Tryd.prog.globalNamed "math/bits.deBruijn64tab" = some 0 := by kernel_rfl
theorem tTab : (Tryd.prog.globals[0]?).map (·.type) = some 184 := by kernel_rfl
theorem ren1 : Tryd.lays29_ren.g 1 = 0 := rfl
set_option maxRecDepth 100000 in
theorem door_met (os : Os) (args : Array Value) : laidMetH Tryd.prog laidL ((World.doorLaid Tryd.prog 400 os).forCall (fun _ _ => 0) ⟨#[], args, []⟩).memory :=
  laidMetH_of_parts3 (fuel := 8) (laidMet_of_run' 8 (by kernel_rfl) (by kernel_rfl)) (by kernel_rfl) (by kernel_rfl)
set_option maxRecDepth 100000 in
theorem datum_map {H : Type} : (Rows.laid_math_bits_deBruijn64tab : DataW H) = .agg (Lib.deBruijn64tab.map fun x => .lit (.int .u8 (x : Nat))) := rfl
theorem tab_len : Lib.deBruijn64tab.length = 64 := by decide
theorem tab_of_laid {W : World} (h : laidMetH Tryd.prog laidL W) : Tab W := by
  rw [MakeChecks.laidMetH_plain _ _ _ (by kernel_rfl)] at h
  obtain ⟨ps, ⟨g0, t0, cs0, f0, p0, q0, hg0, ht0, hv0, hd0, _, _⟩, _, _⟩ := h
  obtain rfl := Option.some.inj (gTab.symm.trans hg0)
  obtain rfl := Option.some.inj (tTab.symm.trans ht0)
  obtain ⟨xs, m1, rfl, hx1, hlen, hn, hel⟩ := DataW.trod_array Tryd.underlying184 hd0
  have c1 : Tryd.prog.cellsOf 5 = 1 := by kernel_rfl
  rw [c1] at hel
  simp only [Prod.mk.injEq, datum_map, DataW.agg.injEq] at hx1
  intro j hj
  rw [ren1]
  have hj64 : j < 64 := by rw [tab_len] at hj; exact hj
  have hcell := World.var?_cell hg0 hv0 j
  rw [hcell]
  have h1 := hel j hj64
  have hxj : xs[j]? = some xs[j] := List.getElem?_eq_getElem (by omega)
  rw [hxj, Nat.mul_one] at h1
  obtain ⟨n, e1, e2, _⟩ := DataW.trod_int Tryd.underlying5 h1
  have hm : (xs.map (·.1))[j]? = some (.lit (.int .u8 n)) := by rw [List.getElem?_map, hxj, e2]; rfl
  rw [← hx1.1, List.getElem?_map, List.getElem?_eq_getElem hj] at hm
  simp only [Option.map_some, Option.some.injEq, DataW.lit.injEq, Lit.int.injEq, true_and] at hm
  have hget : cs0[j]? = some (.int .u8 n) := by
    have h2 : ((cs0.toList.drop j).take 1)[0]? = some (.int .u8 n) := by rw [e1]; rfl
    rw [List.getElem?_take_of_lt (by decide), List.getElem?_drop, Nat.add_zero, Array.getElem?_toList] at h2
    exact h2
  rw [hget, ← hm, List.getD_eq_getElem?_getD, List.getElem?_eq_getElem hj]; rfl
theorem two_words (x y : Nat) (hx : x < 18446744073709551616) (hy : y < 18446744073709551616) : ∃ b : Nat, Value.agg #[.int .u64 (x : Nat), .int .u64 (y : Nat)] = BV b ∧ b < 2 ^ (64 * 2) := by
  refine ⟨x * 18446744073709551616 + y, ?_, by omega⟩
  have h1 : limb (x * 18446744073709551616 + y) 1 = (x : Nat) := by
    show ((limbN (x * 18446744073709551616 + y) 1 : Nat) : Int) = x
    unfold limbN; rw [show 2 ^ (64 * 1) = 18446744073709551616 from rfl]; omega
  have h0 : limb (x * 18446744073709551616 + y) 0 = (y : Nat) := by
    show ((limbN (x * 18446744073709551616 + y) 0 : Nat) : Int) = y
    unfold limbN; rw [show 2 ^ (64 * 0) = 1 from rfl]; omega
  show Value.agg #[_, _] = .agg #[.int .u64 (limb _ 1), .int .u64 (limb _ 0)]
  rw [h1, h0]
theorem bits_cells : Tryd.prog.cellsOf 26 = 2 := by kernel_rfl
set_option maxRecDepth 100000 in
/-- An argument of 128 bits is the encoding of a number. -/
theorem open_bits {H : Type} {enc : TypeId × Value → H} {W : World} {r : Reach} {base b0 : Nat} {spare : Nat → Bool} {held : Bool} {v : Value} {d : DataW H} {p : List MemPlace}
    (hv : Value.okWide Tryd.prog W r b0 26 v) (h : DataW.Trod enc Tryd.prog W base spare held 26 v d p) : ∃ b : Nat, v = BV b ∧ b < 2 ^ (64 * 2) := by
  obtain ⟨c0, c1, y0, y1, m, rfl, rfl, rfl, hy0, hy1⟩ := Go.Joins.open_agg2 Tryd.underlying26 (by kernel_rfl) bits_cells hv h
  obtain ⟨x, e0, rfl, wx⟩ := DataW.trod_int Tryd.underlying24 hy0
  obtain ⟨y, e1, rfl, wy⟩ := DataW.trod_int Tryd.underlying24 hy1
  simp at e0 e1
  subst e0 e1
  have bx := bounds_u64 wx
  have bY := bounds_u64 wy
  obtain ⟨x, rfl⟩ := Int.eq_ofNat_of_zero_le bx.1
  obtain ⟨y, rfl⟩ := Int.eq_ofNat_of_zero_le bY.1
  exact two_words x y (by omega) (by omega)
theorem nat_u8 {x : Int} (h : (Lit.int .u8 x).wf = true) : ∃ n : Nat, x = n ∧ n < 256 := by
  have b := bounds_u8 h
  obtain ⟨n, rfl⟩ := Int.eq_ofNat_of_zero_le b.1
  exact ⟨n, rfl, by omega⟩
end Go.Proofs.YtjgonofkklpgaaaDoor

namespace Go.Proofs.YtjgonofkklpgaaaDoor
open Go.ChangeShapes Go.WideShapes Go.ChangeAt Go.RowKit
namespace RowWidenBack
set_option maxRecDepth 100000 in
theorem lifted (os : Os) (started : os.Started) (H : Type) (enc : TypeId × Value → H) :
    ReturnsInHanded {} Tryd.checked os 5 .any (fun w args => (Rows.widenBackSpec.pre enc Tryd.prog Tryd.f5 [] false w args ∧ laidMetH Tryd.prog laidL w) ∧ sizedMet enc Tryd.prog Tryd.f5 (OpenSpec.ofChange Rows.widenBackSpec) false w args)
      (Rows.widenBackSpec.post enc Tryd.prog Tryd.f5 false true false false) := by
  refine returnsInHanded_of_change_and (C := Tryd.checked) (X := fun w _ => laidMetH Tryd.prog laidL w) (fun _ _ _ hh h => h.of_heap hh) own started (by kernel_rfl) Tryd.func5
    (ChangeSpec.witness_shaped (enc := enc) (C := Tryd.checked) (os := os) (X := fun w _ => laidMetH Tryd.prog laidL w) false (World.doorLaid Tryd.prog 400 os) #[.int .u8 0, .int .u8 0, .int .u8 0, .int .u8 0, .agg #[.int .u64 0, .int .u64 0]] 8 rfl (World.shaped_of_RefB (by kernel_rfl) (by kernel_rfl)) (by kernel_rfl) (by kernel_rfl) (by kernel_rfl) (door_met os _)) ?_
  intro W base args ds gs before hval0 hW _ _ hL _
  have hval : ∀ (j : Nat) t v, Tryd.f5.params[j]? = some t → args[j]? = some v → Value.okWide Tryd.prog W .any base t v := hval0
  have hW' := hW
  obtain ⟨p, q, hA0, hV, rfl, hfz, hnd⟩ := hW
  have hA : DataW.TrodAll enc Tryd.prog W 0 (fun _ => true) true Tryd.f5.params.toList args.toList ds p := hA0
  rw [Tryd.params5] at hA hval
  obtain ⟨v0, vs0, d0, ds0, p0, q0, hargs, rfl, rfl, h0, r0⟩ := trodAll_cons hA
  obtain ⟨v1, vs1, d1, ds1, p1, q1, rfl, rfl, rfl, h1, r1⟩ := trodAll_cons r0
  obtain ⟨v2, vs2, d2, ds2, p2, q2, rfl, rfl, rfl, h2, r2⟩ := trodAll_cons r1
  obtain ⟨v3, vs3, d3, ds3, p3, q3, rfl, rfl, rfl, h3, r3⟩ := trodAll_cons r2
  obtain ⟨v4, vs4, d4, ds4, p4, q4, rfl, rfl, rfl, h4, r4⟩ := trodAll_cons r3
  obtain ⟨rfl, rfl, rfl⟩ := trodAll_nil r4
  obtain rfl : args = #[v0, v1, v2, v3, v4] := by cases args; simp_all
  obtain ⟨rfl, rfl⟩ := trodVars_none hV
  have hT : Tab W := tab_of_laid hL
  obtain ⟨b0, rfl, rfl, rfl, w0⟩ := open_int Tryd.underlying22 (hval 0 22 v0 rfl rfl) h0
  obtain ⟨a0, rfl, n0⟩ := nat_u8 w0
  obtain ⟨b1, rfl, rfl, rfl, w1⟩ := open_int Tryd.underlying22 (hval 1 22 v1 rfl rfl) h1
  obtain ⟨a1, rfl, n1⟩ := nat_u8 w1
  obtain ⟨b2, rfl, rfl, rfl, w2⟩ := open_int Tryd.underlying23 (hval 2 23 v2 rfl rfl) h2
  obtain ⟨a2, rfl, n2⟩ := nat_u8 w2
  obtain ⟨b3, rfl, rfl, rfl, w3⟩ := open_int Tryd.underlying23 (hval 3 23 v3 rfl rfl) h3
  obtain ⟨a3, rfl, n3⟩ := nat_u8 w3
  have k4 := h4
  have lt4 : ∀ x ∈ p4, x.block < W.heap.size := by obtain ⟨m, hm⟩ := k4; exact DataW.trod_lt m _ _ _ hm
  obtain ⟨a4, rfl, n4⟩ := open_bits (hval 4 26 v4 rfl rfl) h4
  clear hA0 hval0
  refine (widBack_any a0 a1 a2 a3 a4 W n0 n1 n2 n3 n4 hT).mono fun e W' ⟨he, bel⟩ => ?_
  subst he
  exact ⟨_, rfl, _, _, _, [], _, [], hW', trodAll_mk1 (shut_bool Tryd.underlying4 _), (trodAll_cons_mk (shut_int Tryd.underlying22 w0) (trodAll_cons_mk (shut_int Tryd.underlying22 w1) (trodAll_cons_mk (shut_int Tryd.underlying23 w2) (trodAll_cons_mk (shut_int Tryd.underlying23 w3) (trodAll_cons_mk (Below.trod laidOut (by kernel_rfl) (of_decide_eq_true (by kernel_rfl)) k4 bel lt4) trodAll_mk0))))), rfl, bel.frame _, fun h => by cases h⟩
theorem over : Rows.widenBackRow.holds Tryd.pinned (OpenSpec.ofChange Rows.widenBackSpec) :=
  OpenClaim.holds_of_wide 5 Tryd.f5 rfl rfl rfl rfl rfl rfl rfl ⟨rfl, rfl, rfl, rfl, rfl⟩ rfl rfl rfl rfl rfl (by kernel_rfl) Tryd.func5 (by kernel_rfl)
    (of_decide_eq_true (by kernel_rfl)) (by unfold Func.isWrapper; first | (rw [if_pos (by decide +kernel)]; kernel_rfl) | (rw [if_neg (by decide +kernel)]; exact ⟨rfl, rfl⟩))
    (fun os started H enc _ => lifted os started H enc)
end RowWidenBack
/-- The card, for the claim. -/
theorem widenBack_holds : Rows.WidenBackCardSaid :=
  Claim7.holds_tied_plain_at .later [] [.data] true (true, "df538d1dd8b40b69733ef903482d0ea26fd4d378a83c909b0e0edd723ed13feb") false
    RowWidenBack.over (fun _ h => by cases h) (by kernel_rfl) (fun _ h => by cases h) widenBack_row_tie rfl ⟨rfl, rfl⟩ (by kernel_rfl) rfl
    (fun f fn hf hfn => by
      obtain rfl : f = 5 := Option.some.inj ((show Tryd.prog.funcNamed "abacus/abacuslaw18.WidenBack" = some 5 by kernel_rfl).symm.trans hf) |>.symm
      obtain rfl : fn = Tryd.f5 := (Option.some.inj (Tryd.func5.symm.trans hfn)).symm
      exact ⟨by kernel_rfl, fun j t ht => by
        rw [Tryd.params5] at ht
        have hm : t ∈ [22, 22, 23, 23, 26] := by simpa using Array.mem_of_getElem? ht
        have hall : ([22, 22, 23, 23, 26].all fun u => !Tryd.prog.wantsStandIn u) = true := by kernel_rfl
        exact (show Tryd.prog.wantsStandIn t = false by simpa using List.all_eq_true.1 hall t hm)⟩)
    (by kernel_rfl)
#print axioms widenBack_holds
end Go.Proofs.YtjgonofkklpgaaaDoor
