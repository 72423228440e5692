/- FmaInvalid: for every input the law returns true, and each argument reads behind the call as it read before; the listed table is tied to the program's text. -/
import Derived.Test.YtbngedcblngnhaaDoorHs36
import Derived.Test.YtbngedcblngnhaaDoorHs37
import Derived.Test.YtbngedcblngnhaaDoorHs0
import Derived.Test.YtbngedcblngnhaaDoorHs1
import Derived.Test.YtbngedcblngnhaaDoorHs2
import Derived.Test.YtbngedcblngnhaaDoorHs3
import Derived.Test.YtbngedcblngnhaaDoorHs4
import Derived.Test.YtbngedcblngnhaaDoorHs5
import Derived.Test.YtbngedcblngnhaaDoorHs6
import Derived.Test.YtbngedcblngnhaaDoorHs7
import Derived.Test.YtbngedcblngnhaaDoorHs8
import Derived.Test.YtbngedcblngnhaaDoorHs9
import Derived.Test.YtbngedcblngnhaaDoorHs10
import Derived.Test.YtbngedcblngnhaaDoorHs11
import Derived.Test.YtbngedcblngnhaaDoorHs12
import Derived.Test.YtbngedcblngnhaaDoorHs13
import Derived.Test.YtbngedcblngnhaaDoorHs14
import Derived.Test.YtbngedcblngnhaaDoorHs15
import Derived.Test.YtbngedcblngnhaaDoorHs16
import Derived.Test.YtbngedcblngnhaaDoorHs17
import Derived.Test.YtbngedcblngnhaaDoorHs18
import Derived.Test.YtbngedcblngnhaaDoorHs19
import Derived.Test.YtbngedcblngnhaaDoorHs20
import Derived.Test.YtbngedcblngnhaaDoorHs21
import Derived.Test.YtbngedcblngnhaaDoorHs22
import Derived.Test.YtbngedcblngnhaaDoorHs23
import Derived.Test.YtbngedcblngnhaaDoorHs24
import Derived.Test.YtbngedcblngnhaaDoorHs25
import Derived.Test.YtbngedcblngnhaaDoorHs26
import Derived.Test.YtbngedcblngnhaaDoorHs27
import Derived.Test.YtbngedcblngnhaaDoorHs28
import Derived.Test.YtbngedcblngnhaaDoorHs29
import Derived.Test.YtbngedcblngnhaaDoorHs30
import Derived.Test.YtbngedcblngnhaaDoorHs31
import Derived.Test.YtbngedcblngnhaaDoorHs32
import Derived.Test.YtbngedcblngnhaaDoorHs33
set_option linter.unusedSimpArgs false
set_option linter.unusedVariables false
set_option linter.unnecessarySimpa false
set_option maxRecDepth 100000
set_option maxHeartbeats 1600000
namespace Go.Proofs.YtbngedcblngnhaaDoor
open Go.ChangeShapes Go.WideShapes Go.ChangeAt Go.RowKit
namespace RowFmaInvalid
theorem lifted (os : Os) (started : os.Started) (H : Type) (enc : TypeId × Value → H) :
    ReturnsInHanded {} Tryd.checked os 4 .any (fun w args => (Rows.fmaInvalidSpec.pre enc Tryd.prog Tryd.f4 [] false w args ∧ laidMetH Tryd.prog laidL w) ∧ sizedMet enc Tryd.prog Tryd.f4 (OpenSpec.ofChange Rows.fmaInvalidSpec) false w args)
      (Rows.fmaInvalidSpec.post enc Tryd.prog Tryd.f4 false true false false) := by
  refine returnsInHanded_of_change_and (C := Tryd.checked) (X := fun w _ => laidMetH Tryd.prog laidL w) (fun _ _ _ hh h => h.of_heap hh) own started (by kernel_rfl) Tryd.func4
    (ChangeSpec.witness_shaped (enc := enc) (C := Tryd.checked) (os := os) (X := fun w _ => laidMetH Tryd.prog laidL w) false (World.doorLaid Tryd.prog 400 os) #[.int .u8 0, .int .u8 0, .bool false, .bool false, .bool false, .agg #[.int .u64 0, .int .u64 0]] 8 rfl (World.shaped_of_RefB (by kernel_rfl) (by kernel_rfl)) (by kernel_rfl) (by kernel_rfl) (by kernel_rfl) (door_met os _)) ?_
  intro W base args ds gs before hval0 hW _ _ hL _
  have hval : ∀ (j : Nat) t v, Tryd.f4.params[j]? = some t → args[j]? = some v → Value.okWide Tryd.prog W .any base t v := hval0
  have hW' := hW
  obtain ⟨p, q, hA0, hV, rfl, hfz, hnd⟩ := hW
  have hA : DataW.TrodAll enc Tryd.prog W 0 (fun _ => true) true Tryd.f4.params.toList args.toList ds p := hA0
  rw [Tryd.params4] at hA hval
  obtain ⟨v0, vs0, d0, ds0, p0, q0, hargs, rfl, rfl, h0, r0⟩ := trodAll_cons hA
  obtain ⟨v1, vs1, d1, ds1, p1, q1, rfl, rfl, rfl, h1, r1⟩ := trodAll_cons r0
  obtain ⟨v2, vs2, d2, ds2, p2, q2, rfl, rfl, rfl, h2, r2⟩ := trodAll_cons r1
  obtain ⟨v3, vs3, d3, ds3, p3, q3, rfl, rfl, rfl, h3, r3⟩ := trodAll_cons r2
  obtain ⟨v4, vs4, d4, ds4, p4, q4, rfl, rfl, rfl, h4, r4⟩ := trodAll_cons r3
  obtain ⟨v5, vs5, d5, ds5, p5, q5, rfl, rfl, rfl, h5, r5⟩ := trodAll_cons r4
  obtain ⟨rfl, rfl, rfl⟩ := trodAll_nil r5
  obtain rfl : args = #[v0, v1, v2, v3, v4, v5] := by cases args; simp_all
  obtain ⟨rfl, rfl⟩ := trodVars_none hV
  have hT : Tab W := tab_of_laid hL
  obtain ⟨b0, rfl, rfl, rfl, w0⟩ := open_int Tryd.underlying22 (hval 0 22 v0 rfl rfl) h0
  obtain ⟨a0, rfl, n0⟩ := nat_u8 w0
  obtain ⟨b1, rfl, rfl, rfl, w1⟩ := open_int Tryd.underlying23 (hval 1 23 v1 rfl rfl) h1
  obtain ⟨a1, rfl, n1⟩ := nat_u8 w1
  obtain ⟨a2, rfl, rfl, rfl⟩ := open_bool Tryd.underlying4 (hval 2 4 v2 rfl rfl) h2
  obtain ⟨a3, rfl, rfl, rfl⟩ := open_bool Tryd.underlying4 (hval 3 4 v3 rfl rfl) h3
  obtain ⟨a4, rfl, rfl, rfl⟩ := open_bool Tryd.underlying4 (hval 4 4 v4 rfl rfl) h4
  have k5 := h5
  have lt5 : ∀ x ∈ p5, x.block < W.heap.size := by obtain ⟨m, hm⟩ := k5; exact DataW.trod_lt m _ _ _ hm
  obtain ⟨a5, rfl, n5⟩ := open_bits (hval 5 26 v5 rfl rfl) h5
  clear hA0 hval0
  refine (fmaInvalid_any a0 a1 a2 a3 a4 a5 W n0 n1 n5 hT).mono fun e W' ⟨he, bel⟩ => ?_
  subst he
  exact ⟨_, rfl, _, _, _, [], _, [], hW', trodAll_mk1 (shut_bool Tryd.underlying4 _), (trodAll_cons_mk (shut_int Tryd.underlying22 w0) (trodAll_cons_mk (shut_int Tryd.underlying23 w1) (trodAll_cons_mk (shut_bool Tryd.underlying4 _) (trodAll_cons_mk (shut_bool Tryd.underlying4 _) (trodAll_cons_mk (shut_bool Tryd.underlying4 _) (trodAll_cons_mk (Below.trod laidOut (by kernel_rfl) (of_decide_eq_true (by kernel_rfl)) k5 bel lt5) trodAll_mk0)))))), rfl, bel.frame _, fun h => by cases h⟩
theorem over : Rows.fmaInvalidRow.holds Tryd.pinned (OpenSpec.ofChange Rows.fmaInvalidSpec) :=
  OpenClaim.holds_of_wide 4 Tryd.f4 rfl rfl rfl rfl rfl rfl rfl ⟨rfl, rfl, rfl, rfl, rfl⟩ rfl rfl rfl rfl rfl (by kernel_rfl) Tryd.func4 (by kernel_rfl)
    (of_decide_eq_true (by kernel_rfl)) (by unfold Func.isWrapper; first | (rw [if_pos (by decide +kernel)]; kernel_rfl) | (rw [if_neg (by decide +kernel)]; exact ⟨rfl, rfl⟩))
    (fun os started H enc _ => lifted os started H enc)
end RowFmaInvalid
/-- The card, for the claim. -/
theorem fmaInvalid_holds : Rows.FmaInvalidCardSaid :=
  Claim7.holds_tied_plain_at .later [] [.data] true (true, "dfb091d358b4ed08a8bb897983ca73cd448d1acb7dc1e0737d44fec306a31b84") false
    RowFmaInvalid.over (fun _ h => by cases h) (by kernel_rfl) (fun _ h => by cases h) fmaInvalid_row_tie rfl ⟨rfl, rfl⟩ (by kernel_rfl) rfl
    (fun f fn hf hfn => by
      obtain rfl : f = 4 := Option.some.inj ((show Tryd.prog.funcNamed "abacus/abacuslaw15.FmaInvalid" = some 4 by kernel_rfl).symm.trans hf) |>.symm
      obtain rfl : fn = Tryd.f4 := (Option.some.inj (Tryd.func4.symm.trans hfn)).symm
      exact ⟨by kernel_rfl, fun j t ht => by
        rw [Tryd.params4] at ht
        have hm : t ∈ [22, 23, 4, 4, 4, 26] := by simpa using Array.mem_of_getElem? ht
        have hall : ([22, 23, 4, 4, 4, 26].all fun u => !Tryd.prog.wantsStandIn u) = true := by kernel_rfl
        exact (show Tryd.prog.wantsStandIn t = false by simpa using List.all_eq_true.1 hall t hm)⟩)
    (by kernel_rfl)
#print axioms fmaInvalid_holds
end Go.Proofs.YtbngedcblngnhaaDoor
