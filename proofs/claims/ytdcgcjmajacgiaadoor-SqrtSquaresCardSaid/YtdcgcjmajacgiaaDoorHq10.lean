/- SqrtSquares: for every input the law returns true, and each argument reads behind the call as it read before; the listed table is tied to the program's text. -/
import Derived.Test.YtdcgcjmajacgiaaDoorRows
import Derived.Test.YtdcgcjmajacgiaaDoorTie
import Derived.Test.YtdcgcjmajacgiaaDoorCards
import Derived.WalkKit
import Derived.ProofKit
import Derived.LaidMore
import Derived.OpenShut
import Derived.Stop.Joined
import Derived.SevenTiedAt
import Derived.Lib.SmallJoins
import Derived.ChangeOld
import Derived.Below
import Derived.Carry
import Derived.Test.YtdcgcjmajacgiaaDoorHq0
import Derived.Test.YtdcgcjmajacgiaaDoorHq1
import Derived.Test.YtdcgcjmajacgiaaDoorHq9
set_option linter.unusedSimpArgs false
set_option linter.unusedVariables false
set_option linter.unnecessarySimpa false
namespace Go.Proofs.YtdcgcjmajacgiaaDoor
open Go.ChangeShapes Go.WideShapes Go.ChangeAt Go.RowKit
theorem own : ownKnob Tryd.prog.godebug = none := by kernel_rfl
theorem laidOut : laidOutB Tryd.prog = true := by kernel_rfl
/-- What every row of this seat lists. -/
def laidL : List (String × DataW Unit) := [("math/bits.deBruijn64tab", Rows.laid_math_bits_deBruijn64tab)]
theorem gTab : Tryd.prog.globalNamed "math/bits.deBruijn64tab" = some 0 := by kernel_rfl
theorem tTab : (Tryd.prog.globals[0]?).map (·.type) = some 131 := by kernel_rfl
theorem ren1 : Tryd.lays29_ren.g 1 = 0 := rfl
set_option maxRecDepth 100000 in
theorem door_met (os : Os) (args : Array Value) : laidMetH Tryd.prog laidL ((World.doorLaid Tryd.prog 400 os).forCall (fun _ _ => 0) ⟨#[], args, []⟩).memory :=
  laidMetH_of_parts3 (fuel := 8) (laidMet_of_run' 8 (by kernel_rfl) (by kernel_rfl)) (by kernel_rfl) (by kernel_rfl)
set_option maxRecDepth 100000 in
theorem datum_map {H : Type} : (Rows.laid_math_bits_deBruijn64tab : DataW H) = .agg (Lib.deBruijn64tab.map fun x => .lit (.int .u8 (x : Nat))) := rfl
theorem tab_len : Lib.deBruijn64tab.length = 64 := by decide
theorem tab_of_laid {W : World} (h : laidMetH Tryd.prog laidL W) : Tab W := by
  rw [MakeChecks.laidMetH_plain _ _ _ (by kernel_rfl)] at h
  obtain ⟨ps, ⟨g0, t0, cs0, f0, p0, q0, hg0, ht0, hv0, hd0, _, _⟩, _, _⟩ := h
  obtain rfl := Option.some.inj (gTab.symm.trans hg0)
  obtain rfl := Option.some.inj (tTab.symm.trans ht0)
  obtain ⟨xs, m1, rfl, hx1, hlen, hn, hel⟩ := DataW.trod_array Tryd.underlying131 hd0
  have c1 : Tryd.prog.cellsOf 5 = 1 := by kernel_rfl
  rw [c1] at hel
  simp only [Prod.mk.injEq, datum_map, DataW.agg.injEq] at hx1
  intro j hj
  rw [ren1]
  have hj64 : j < 64 := by rw [tab_len] at hj; exact hj
  have hcell := World.var?_cell hg0 hv0 j
  rw [hcell]
  have h1 := hel j hj64
  have hxj : xs[j]? = some xs[j] := List.getElem?_eq_getElem (by omega)
  rw [hxj, Nat.mul_one] at h1
  obtain ⟨n, e1, e2, _⟩ := DataW.trod_int Tryd.underlying5 h1
  have hm : (xs.map (·.1))[j]? = some (.lit (.int .u8 n)) := by rw [List.getElem?_map, hxj, e2]; rfl
  rw [← hx1.1, List.getElem?_map, List.getElem?_eq_getElem hj] at hm
  simp only [Option.map_some, Option.some.injEq, DataW.lit.injEq, Lit.int.injEq, true_and] at hm
  have hget : cs0[j]? = some (.int .u8 n) := by
    have h2 : ((cs0.toList.drop j).take 1)[0]? = some (.int .u8 n) := by rw [e1]; rfl
    rw [List.getElem?_take_of_lt (by decide), List.getElem?_drop, Nat.add_zero, Array.getElem?_toList] at h2
    exact h2
  rw [hget, ← hm, List.getD_eq_getElem?_getD, List.getElem?_eq_getElem hj]; rfl
theorem two_words (x y : Nat) (hx : x < 18446744073709551616) (hy : y < 18446744073709551616) : ∃ b : Nat, Value.agg #[.int .u64 (x : Nat), .int .u64 (y : Nat)] = BV b ∧ b < 2 ^ (64 * 2) := by
  refine ⟨x * 18446744073709551616 + y, ?_, by omega⟩
  have h1 : limb (x * 18446744073709551616 + y) 1 = (x : Nat) := by
    show ((limbN (x * 18446744073709551616 + y) 1 : Nat) : Int) = x
    unfold limbN; rw [show 2 ^ (64 * 1) = 18446744073709551616 from rfl]; omega
  have h0 : limb (x * 18446744073709551616 + y) 0 = (y : Nat) := by
    show ((limbN (x * 18446744073709551616 + y) 0 : Nat) : Int) = y
    unfold limbN; rw [show 2 ^ (64 * 0) = 1 from rfl]; omega
  show Value.agg #[_, _] = .agg #[.int .u64 (limb _ 1), .int .u64 (limb _ 0)]
  rw [h1, h0]
theorem bits_cells : Tryd.prog.cellsOf 27 = 2 := by kernel_rfl
set_option maxRecDepth 100000 in
/-- An argument of 128 bits is the encoding of a number. -/
theorem open_bits {H : Type} {enc : TypeId × Value → H} {W : World} {r : Reach} {base b0 : Nat} {spare : Nat → Bool} {held : Bool} {v : Value} {d : DataW H} {p : List MemPlace}
    (hv : Value.okWide Tryd.prog W r b0 27 v) (h : DataW.Trod enc Tryd.prog W base spare held 27 v d p) : ∃ b : Nat, v = BV b ∧ b < 2 ^ (64 * 2) := by
  obtain ⟨c0, c1, y0, y1, m, rfl, rfl, rfl, hy0, hy1⟩ := Go.Joins.open_agg2 Tryd.underlying27 (by kernel_rfl) bits_cells hv h
  obtain ⟨x, e0, rfl, wx⟩ := DataW.trod_int Tryd.underlying25 hy0
  obtain ⟨y, e1, rfl, wy⟩ := DataW.trod_int Tryd.underlying25 hy1
  simp at e0 e1
  subst e0 e1
  have bx := bounds_u64 wx
  have bY := bounds_u64 wy
  obtain ⟨x, rfl⟩ := Int.eq_ofNat_of_zero_le bx.1
  obtain ⟨y, rfl⟩ := Int.eq_ofNat_of_zero_le bY.1
  exact two_words x y (by omega) (by omega)
theorem nat_u8 {x : Int} (h : (Lit.int .u8 x).wf = true) : ∃ n : Nat, x = n ∧ n < 256 := by
  have b := bounds_u8 h
  obtain ⟨n, rfl⟩ := Int.eq_ofNat_of_zero_le b.1
  exact ⟨n, rfl, by omega⟩
end Go.Proofs.YtdcgcjmajacgiaaDoor

namespace Go.Proofs.YtdcgcjmajacgiaaDoor
open Go.ChangeShapes Go.WideShapes Go.ChangeAt Go.RowKit
namespace RowSqrtSquares
set_option maxRecDepth 100000 in
theorem lifted (os : Os) (started : os.Started) (H : Type) (enc : TypeId × Value → H) :
    ReturnsInHanded {} Tryd.checked os 6 .any (fun w args => (Rows.sqrtSquaresSpec.pre enc Tryd.prog Tryd.f6 [] false w args ∧ laidMetH Tryd.prog laidL w) ∧ sizedMet enc Tryd.prog Tryd.f6 (OpenSpec.ofChange Rows.sqrtSquaresSpec) false w args)
      (Rows.sqrtSquaresSpec.post enc Tryd.prog Tryd.f6 false true false false) := by
  refine returnsInHanded_of_change_and (C := Tryd.checked) (X := fun w _ => laidMetH Tryd.prog laidL w) (fun _ _ _ hh h => h.of_heap hh) own started (by kernel_rfl) Tryd.func6
    (ChangeSpec.witness_shaped (enc := enc) (C := Tryd.checked) (os := os) (X := fun w _ => laidMetH Tryd.prog laidL w) false (World.doorLaid Tryd.prog 400 os) #[.int .u8 0, .int .u8 0, .agg #[.int .u64 0, .int .u64 0]] 8 rfl (World.shaped_of_RefB (by kernel_rfl) (by kernel_rfl)) (by kernel_rfl) (by kernel_rfl) (by kernel_rfl) (door_met os _)) ?_
  intro W base args ds gs before hval0 hW _ _ hL _
  have hval : ∀ (j : Nat) t v, Tryd.f6.params[j]? = some t → args[j]? = some v → Value.okWide Tryd.prog W .any base t v := hval0
  have hW' := hW
  obtain ⟨p, q, hA0, hV, rfl, hfz, hnd⟩ := hW
  have hA : DataW.TrodAll enc Tryd.prog W 0 (fun _ => true) true Tryd.f6.params.toList args.toList ds p := hA0
  rw [Tryd.params6] at hA hval
  obtain ⟨v0, vs0, d0, ds0, p0, q0, hargs, rfl, rfl, h0, r0⟩ := trodAll_cons hA
  obtain ⟨v1, vs1, d1, ds1, p1, q1, rfl, rfl, rfl, h1, r1⟩ := trodAll_cons r0
  obtain ⟨v2, vs2, d2, ds2, p2, q2, rfl, rfl, rfl, h2, r2⟩ := trodAll_cons r1
  obtain ⟨rfl, rfl, rfl⟩ := trodAll_nil r2
  obtain rfl : args = #[v0, v1, v2] := by cases args; simp_all
  obtain ⟨rfl, rfl⟩ := trodVars_none hV
  have hT : Tab W := tab_of_laid hL
  obtain ⟨b0, rfl, rfl, rfl, w0⟩ := open_int Tryd.underlying22 (hval 0 22 v0 rfl rfl) h0
  obtain ⟨a0, rfl, n0⟩ := nat_u8 w0
  obtain ⟨b1, rfl, rfl, rfl, w1⟩ := open_int Tryd.underlying24 (hval 1 24 v1 rfl rfl) h1
  obtain ⟨a1, rfl, n1⟩ := nat_u8 w1
  have k2 := h2
  have lt2 : ∀ x ∈ p2, x.block < W.heap.size := by obtain ⟨m, hm⟩ := k2; exact DataW.trod_lt m _ _ _ hm
  obtain ⟨a2, rfl, n2⟩ := open_bits (hval 2 27 v2 rfl rfl) h2
  clear hA0 hval0
  refine (sqrtSquares_any a0 a1 a2 W n0 n1 n2 hT).mono fun e W' ⟨he, bel⟩ => ?_
  subst he
  exact ⟨_, rfl, _, _, _, [], _, [], hW', trodAll_mk1 (shut_bool Tryd.underlying4 _), (trodAll_cons_mk (shut_int Tryd.underlying22 w0) (trodAll_cons_mk (shut_int Tryd.underlying24 w1) (trodAll_cons_mk (Below.trod laidOut (by kernel_rfl) (of_decide_eq_true (by kernel_rfl)) k2 bel lt2) trodAll_mk0))), rfl, bel.frame _, fun h => by cases h⟩
theorem over : Rows.sqrtSquaresRow.holds Tryd.pinned (OpenSpec.ofChange Rows.sqrtSquaresSpec) :=
  OpenClaim.holds_of_wide 6 Tryd.f6 rfl rfl rfl rfl rfl rfl rfl ⟨rfl, rfl, rfl, rfl, rfl⟩ rfl rfl rfl rfl rfl (by kernel_rfl) Tryd.func6 (by kernel_rfl)
    (of_decide_eq_true (by kernel_rfl)) (by unfold Func.isWrapper; first | (rw [if_pos (by decide +kernel)]; kernel_rfl) | (rw [if_neg (by decide +kernel)]; exact ⟨rfl, rfl⟩))
    (fun os started H enc _ => lifted os started H enc)
end RowSqrtSquares
/-- The card, for the claim. -/
theorem sqrtSquares_holds : Rows.SqrtSquaresCardSaid :=
  Claim7.holds_tied_plain_at .later [] [.data] true (true, "9c03aea7278df5a18531458d6d3a08aec8c21938b4a4e01a7d05c8ad9a638a45") false
    RowSqrtSquares.over (fun _ h => by cases h) (by kernel_rfl) (fun _ h => by cases h) sqrtSquares_row_tie rfl ⟨rfl, rfl⟩ (by kernel_rfl) rfl
    (fun f fn hf hfn => by
      obtain rfl : f = 6 := Option.some.inj ((show Tryd.prog.funcNamed "abacus/abacuslaw14.SqrtSquares" = some 6 by kernel_rfl).symm.trans hf) |>.symm
      obtain rfl : fn = Tryd.f6 := (Option.some.inj (Tryd.func6.symm.trans hfn)).symm
      exact ⟨by kernel_rfl, fun j t ht => by
        rw [Tryd.params6] at ht
        have hm : t ∈ [22, 24, 27] := by simpa using Array.mem_of_getElem? ht
        have hall : ([22, 24, 27].all fun u => !Tryd.prog.wantsStandIn u) = true := by kernel_rfl
        exact (show Tryd.prog.wantsStandIn t = false by simpa using List.all_eq_true.1 hall t hm)⟩)
    (by kernel_rfl)
#print axioms sqrtSquares_holds
end Go.Proofs.YtdcgcjmajacgiaaDoor
