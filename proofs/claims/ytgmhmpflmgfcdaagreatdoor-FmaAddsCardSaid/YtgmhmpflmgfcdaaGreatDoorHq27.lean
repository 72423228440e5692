/- Part 27 of the proof. -/
import Derived.Test.YtgmhmpflmgfcdaaGreatDoorHq0
import Derived.Test.YtgmhmpflmgfcdaaGreatDoorHq22
import Derived.Test.YtgmhmpflmgfcdaaGreatDoorHq23
import Derived.Test.YtgmhmpflmgfcdaaGreatDoorHq25
import Derived.Test.YtgmhmpflmgfcdaaGreatDoorHq26
namespace Go.Proofs.YtgmhmpflmgfcdaaGreatDoor.PDivQuotients
open Go.RowKit Go.Proofs.YtgmhmpflmgfcdaaGreatDoorW.PrintWords Go.Proofs.YtgmhmpflmgfcdaaGreatDoorW.PrintLast Go.Proofs.YtgmhmpflmgfcdaaGreatDoorW.PrintMore
attribute [local go_sem] max2_int min2_int max_two min_two max_three min_three max_four min_four   -- for this text's walks alone
set_option linter.unusedVariables false
set_option linter.unusedSimpArgs false
attribute [local go_sem high] eqA87
def z05_Div.l0 : Nat → ByteArray → ByteArray → ByteArray → List Int → Int → Option (ByteArray × ByteArray × Int)
 | 0, _, _, _, _, _ => none
 | k + 1, x0, x1, x9, x12, x13 => if x13 ≥ 0 then ((z05_bit.f x0 x13).bind fun t184 => ((z05_double.f k x9 t184).bind fun t185 => ((z05_Cmp.f t185 x1).bind fun t186 => (if t186 ≥ 0 then ((z05_sub.f k t185 x1).bind fun t187 => (if 0 ≤ (wrap64 (Int.tdiv x13 8)) then (if (wrap64 (Int.tdiv x13 8)) < (x12.length : Int) then (if 0 ≤ (IntKind.u64.wrap (Int.tmod x13 8)) then (z05_Div.l0 k x0 x1 t187 (x12.set ((wrap64 (Int.tdiv x13 8)) : Int).toNat (Go.bits .or .u8 (rd x12 (wrap64 (Int.tdiv x13 8))) (shl .u8 1 (IntKind.u64.wrap (Int.tmod x13 8))))) (wrap64 (x13 - 1))) else (none)) else (none)) else (none))) else (z05_Div.l0 k x0 x1 t185 x12 (wrap64 (x13 - 1))))))) else ((z05_fit.f k x12).bind fun t183 => (some (t183, x9, 0)))
def z05_Div.f (k : Nat) (a0 : ByteArray) (a1 : ByteArray) : Option (ByteArray × ByteArray × Int) := if a1.toList = ([] : List UInt8) then (some ((⟨#[]⟩ : ByteArray), (⟨#[]⟩ : ByteArray), 2)) else ((z05_Cmp.f a0 a1).bind fun t174 => (if t174 < 0 then (some ((⟨#[]⟩ : ByteArray), a0, 0)) else ((z05_Len.f k a0).bind fun t175 => ((z05_Len.f k a1).bind fun t176 => ((z05_Right.f k a0 (wrap64 (t175 - (wrap64 (t176 - 1))))).bind fun bt177 => (if 0 ≤ (wrap64 ((a0.size : Int) + 1)) then (if (wrap64 ((a0.size : Int) + 1) : Int).toNat ≤ 281474976710656 then (z05_Div.l0 k a0 a1 bt177.1 (List.replicate (wrap64 ((a0.size : Int) + 1) : Int).toNat 0) (wrap64 ((wrap64 (t175 - (wrap64 (t176 - 1)))) - 1))) else (none)) else (none)))))))
set_option maxHeartbeats 8000000 in
set_option maxRecDepth 100000 in
theorem z05_Div.calls (k : Nat) (a0 : ByteArray) (a1 : ByteArray) (r1 : ByteArray) (r2 : ByteArray) (r3 : Int) (w : World) (h : z05_Div.f k a0 a1 = some (r1, r2, r3)) :
  Calls Tryz.prog 150 #[.string a0, .string a1] w fun e w' => e = .returned (.tuple #[.string r1, .string r2, .int .i64 r3]) ∧ Below w.heap.size w w' := by
 have HB := Aside0.mk (Below.refl w.heap.size w)
 have H : (if a1.toList = ([] : List UInt8) then (some ((⟨#[]⟩ : ByteArray), (⟨#[]⟩ : ByteArray), 2)) else ((z05_Cmp.f a0 a1).bind fun t174 => (if t174 < 0 then (some ((⟨#[]⟩ : ByteArray), a0, 0)) else ((z05_Len.f k a0).bind fun t175 => ((z05_Len.f k a1).bind fun t176 => ((z05_Right.f k a0 (wrap64 (t175 - (wrap64 (t176 - 1))))).bind fun bt177 => (if 0 ≤ (wrap64 ((a0.size : Int) + 1)) then (if (wrap64 ((a0.size : Int) + 1) : Int).toNat ≤ 281474976710656 then (z05_Div.l0 k a0 a1 bt177.1 (List.replicate (wrap64 ((a0.size : Int) + 1) : Int).toNat 0) (wrap64 ((wrap64 (t175 - (wrap64 (t176 - 1)))) - 1))) else (none)) else (none)))))))) = some (r1, r2, r3) := h
 clear h
 by_cases c3 : a1.toList = ([] : List UInt8)
 ·rw [if_pos c3] at H
  have c3b0 : (a1.toList == ([] : List UInt8)) = true := beq_iff_eq.mpr c3
  have c3b1 : (a1.toList != ([] : List UInt8)) = false := bne_eq_false_iff_eq.mpr c3
  clear c3
  simp only [Option.some.injEq, Prod.mk.injEq] at H
  obtain ⟨rfl, rfl, rfl⟩ := H
  go_enter Tryz.func150, Tryz.ntmps150
  go_wp2
  go_ret3
  exact ⟨by first | rfl | (simp [errW_none, errW_some] <;> rfl) | (simp [*, errW_none, errW_some] <;> rfl), by repeat (first | (with_reducible first | exact HB.out | apply below_alloc | apply pw_below_drewN | apply below_drew1) | exact HB.out)⟩
 ·rw [if_neg c3] at H
  have c3b0 : (a1.toList == ([] : List UInt8)) = false := beq_eq_false_iff_ne.mpr c3
  have c3b1 : (a1.toList != ([] : List UInt8)) = true := bne_iff_ne.mpr c3
  replace H := Option.bind_eq_some_iff.mp H
  obtain ⟨t174, A40, H⟩ := H
  replace H : (if t174 < 0 then (some ((⟨#[]⟩ : ByteArray), a0, 0)) else ((z05_Len.f k a0).bind fun t175 => ((z05_Len.f k a1).bind fun t176 => ((z05_Right.f k a0 (wrap64 (t175 - (wrap64 (t176 - 1))))).bind fun bt177 => (if 0 ≤ (wrap64 ((a0.size : Int) + 1)) then (if (wrap64 ((a0.size : Int) + 1) : Int).toNat ≤ 281474976710656 then (z05_Div.l0 k a0 a1 bt177.1 (List.replicate (wrap64 ((a0.size : Int) + 1) : Int).toNat 0) (wrap64 ((wrap64 (t175 - (wrap64 (t176 - 1)))) - 1))) else (none)) else (none)))))) = some (r1, r2, r3) := H
  have A4 := Aside0.mk A40
  clear A40
  by_cases c5 : t174 < 0
  ·rw [if_pos c5] at H
   have c5b0 : decide (t174 < 0) = true := decide_eq_true c5
   clear c5
   simp only [Option.some.injEq, Prod.mk.injEq] at H
   obtain ⟨rfl, rfl, rfl⟩ := H
   go_enter Tryz.func150, Tryz.ntmps150
   go_wp2_with (first | ((with_reducible refine gate_callee (f := 57) rfl ?_); refine goesL_ (some 18) rfl rfl Tryz.func57 (by kernel_rfl) rfl #[.string a0, .string a1] rfl w3_ ?_; (with_reducible refine (z05_Cmp.calls a0 a1 t174 _ A4.out).mono ?_); rintro e w' ⟨rfl, ⟨nd, rfl⟩⟩; refine ⟨_, rfl, ?_⟩))
   go_ret3
   exact ⟨by first | rfl | (simp [errW_none, errW_some] <;> rfl) | (simp [*, errW_none, errW_some] <;> rfl), by repeat (first | (with_reducible first | exact HB.out | apply below_alloc | apply pw_below_drewN | apply below_drew1) | exact HB.out)⟩
  ·rw [if_neg c5] at H
   have c5b0 : decide (t174 < 0) = false := decide_eq_false c5
   clear c5
   replace H := Option.bind_eq_some_iff.mp H
   obtain ⟨t175, A60, H⟩ := H
   replace H : ((z05_Len.f k a1).bind fun t176 => ((z05_Right.f k a0 (wrap64 (t175 - (wrap64 (t176 - 1))))).bind fun bt177 => (if 0 ≤ (wrap64 ((a0.size : Int) + 1)) then (if (wrap64 ((a0.size : Int) + 1) : Int).toNat ≤ 281474976710656 then (z05_Div.l0 k a0 a1 bt177.1 (List.replicate (wrap64 ((a0.size : Int) + 1) : Int).toNat 0) (wrap64 ((wrap64 (t175 - (wrap64 (t176 - 1)))) - 1))) else (none)) else (none)))) = some (r1, r2, r3) := H
   have A6 := Aside0.mk A60
   clear A60
   replace H := Option.bind_eq_some_iff.mp H
   obtain ⟨t176, A70, H⟩ := H
   replace H : ((z05_Right.f k a0 (wrap64 (t175 - (wrap64 (t176 - 1))))).bind fun bt177 => (if 0 ≤ (wrap64 ((a0.size : Int) + 1)) then (if (wrap64 ((a0.size : Int) + 1) : Int).toNat ≤ 281474976710656 then (z05_Div.l0 k a0 a1 bt177.1 (List.replicate (wrap64 ((a0.size : Int) + 1) : Int).toNat 0) (wrap64 ((wrap64 (t175 - (wrap64 (t176 - 1)))) - 1))) else (none)) else (none))) = some (r1, r2, r3) := H
   have A7 := Aside0.mk A70
   clear A70
   replace H := Option.bind_eq_some_iff.mp H
   obtain ⟨⟨t177, t178, t179⟩, A80, H⟩ := H
   replace H : (if 0 ≤ (wrap64 ((a0.size : Int) + 1)) then (if (wrap64 ((a0.size : Int) + 1) : Int).toNat ≤ 281474976710656 then (z05_Div.l0 k a0 a1 t177 (List.replicate (wrap64 ((a0.size : Int) + 1) : Int).toNat 0) (wrap64 ((wrap64 (t175 - (wrap64 (t176 - 1)))) - 1))) else (none)) else (none)) = some (r1, r2, r3) := H
   have A8 := Aside0.mk A80
   clear A80
   obtain ⟨ji9, hji9⟩ : ∃ j_ : Int, (wrap64 ((a0.size : Int) + 1)) = j_ := ⟨_, rfl⟩
   replace H : (if 0 ≤ (ji9) then (if (ji9 : Int).toNat ≤ 281474976710656 then (z05_Div.l0 k a0 a1 t177 (List.replicate (ji9 : Int).toNat 0) (wrap64 ((wrap64 (t175 - (wrap64 (t176 - 1)))) - 1))) else (none)) else (none)) = some (r1, r2, r3) := by first | (rw [hji9] at H; exact H) | (simp only [hji9] at H ⊢; exact H)
   (try rw [hji9] at A4)
   (try rw [hji9] at A6)
   (try rw [hji9] at A7)
   (try rw [hji9] at A8)
   have hji9w : (IntKind.i64.wrap ((a0.size : Int) + 1)) = ji9 := (i64_w _).trans hji9
   by_cases c10 : 0 ≤ (ji9)
   ·rw [if_pos c10] at H
    have c10b0 := eq_true c10
    have c10b1 : decide (0 ≤ (ji9)) = true := decide_eq_true c10
    clear c10
    by_cases c11 : (ji9 : Int).toNat ≤ 281474976710656
    ·rw [if_pos c11] at H
     have c11b0 := eq_true c11
     have c11b1 : decide ((ji9 : Int).toNat ≤ 281474976710656) = true := decide_eq_true c11
     clear c11
     obtain ⟨y180, hy180⟩ : ∃ y_ : List Int, y_ = (List.replicate (ji9 : Int).toNat 0) := ⟨_, rfl⟩
     replace H : (z05_Div.l0 k a0 a1 t177 y180 (wrap64 ((wrap64 (t175 - (wrap64 (t176 - 1)))) - 1))) = some (r1, r2, r3) := by first | (rw [hy180]; with_reducible exact H) | (have H2_ := (Option.bind_some _ _).symm.trans H; rw [hy180]; with_reducible exact H2_) | (have H2_ := (Option.bind_some _ _).symm.trans H; with_reducible exact H2_) | with_reducible exact H | (rw [hy180]; exact H) | exact H
     have Ny180 := Aside0.mk hy180
     clear hy180
     have H' := Aside0.mk H
     clear H
     go_enter Tryz.func150, Tryz.ntmps150
     go_wp2_with (first | ((with_reducible refine gate_callee (f := 57) rfl ?_); refine goesL_ (some 18) rfl rfl Tryz.func57 (by kernel_rfl) rfl #[.string a0, .string a1] rfl w3_ ?_; (with_reducible refine (z05_Cmp.calls a0 a1 t174 _ A4.out).mono ?_); rintro e w' ⟨rfl, ⟨nd, rfl⟩⟩; refine ⟨_, rfl, ?_⟩) | ((with_reducible refine gate_callee (f := 203) rfl ?_); refine goesL_ (some 22) rfl rfl Tryz.func203 (by kernel_rfl) rfl #[.string a0] rfl w3_ ?_; (with_reducible refine (z05_Len.calls k a0 t175 _ A6.out).mono ?_); rintro e w' ⟨rfl, ⟨nd, rfl⟩⟩; refine ⟨_, rfl, ?_⟩) | ((with_reducible refine gate_callee (f := 203) rfl ?_); refine goesL_ (some 24) rfl rfl Tryz.func203 (by kernel_rfl) rfl #[.string a1] rfl w3_ ?_; (with_reducible refine (z05_Len.calls k a1 t176 _ A7.out).mono ?_); rintro e w' ⟨rfl, ⟨nd, rfl⟩⟩; refine ⟨_, rfl, ?_⟩) | ((with_reducible refine gate_callee (f := 148) rfl ?_); refine goesL_ (some 31) rfl rfl Tryz.func148 (by kernel_rfl) rfl #[.string a0, .int .i64 (wrap64 (t175 - (wrap64 (t176 - 1))))] rfl w3_ ?_; (with_reducible refine (z05_Right.calls k a0 (wrap64 (t175 - (wrap64 (t176 - 1)))) t177 t178 t179 _ A8.out).mono ?_); rintro e w12 ⟨rfl, hb⟩; refine ⟨_, rfl, ?_⟩; have n0_ := Aside0.mk (below_step w5_ hb); clear HB; have HB := n0_; clear n0_; (try clear hb); (try clear hb2); (try clear hk); (try clear hi)) | ((with_reducible refine gate_dst (N := 38) rfl ?_); refine Kd.R_make (Kd.int .u8) _ 5 rfl (N := 38) rfl 143 _ _ rfl ji9 rfl rfl Tryz.underlying143 (.int .u8 0) 1 info5 rfl (by decide) (by omega) 0 (ok := fun _ => True) (okp := fun _ => True) rfl (fun _ hk => hk) trivial (of_decide_eq_true w4_) (Nat.le_trans (Nat.mul_le_mul_right _ (of_decide_eq_true w4_ : ji9.toNat ≤ 281474976710656)) (by omega)) (Below.refl _ _) (Nat.le_refl _) ?_; intro v181 w13 ho14 hb hg_ hnew_; clear hg_ hnew_; (first | rw [← Ny180.out] at ho14 | (simp only [Int.reduceToNat] at ho14; rw [← Ny180.out] at ho14)); have n0_ := Aside0.mk (Kd.R_lower ho14 (below_size w5_)); have n1_ := Aside0.mk (below_step w5_ hb); clear HB; have HO182 := n0_; have HB := n1_; clear n0_ n1_; clear hb ho14))
     go_loopg [9, 13] k (fun kq v9 v13 w' => ∃ (x9_1 : ByteArray) (x12_1 : List Int) (x13_1 : Int), v9 = .string x9_1 ∧ v13 = .int .i64 x13_1 ∧ Aside0 (z05_Div.l0 kq a0 a1 x9_1 x12_1 x13_1 = some (r1, r2, r3)) ∧ Aside0 (kq ≤ k) ∧ Aside0 (Kd.R (Kd.int .u8) 5 w' w.heap.size (fun _ => True) v181 x12_1) ∧ Aside0 (Below w.heap.size w w'))
     case atStart => exact ⟨(t177), (y180), (wrap64 ((wrap64 (t175 - (wrap64 (t176 - 1)))) - 1)), w1_, w1_, H', ⟨Nat.le_refl _⟩, ⟨by (with_reducible repeat (first | apply Kd.R_alloc | apply Kd.R_drewN | apply Kd.R_drew)); exact HO182.out⟩, ⟨by repeat (first | (with_reducible first | exact HB.out | apply below_alloc | apply pw_below_drewN | apply below_drew1) | exact HB.out)⟩⟩
     case round =>
      clear H'
      try clear c1
      try clear c2
      try clear p2
      try clear c3
      try clear c3b0
      try clear c3b1
      try clear c5
      try clear c5b0
      try clear p6
      try clear c10
      try clear c10b0
      try clear c10b1
      try clear c11
      try clear c11b0
      try clear c11b1
      try clear c14
      obtain ⟨x9_1, x12_1, x13_1, rfl, rfl, HA, HK1, HO_12, HB⟩ := hrel
      cases gk with
      | zero => exact absurd HA.out (by simp [z05_Div.l0])
      | succ k1 =>
       have H := HA.out
       clear HA
       simp only [z05_Div.l0] at H
       by_cases c15 : x13_1 ≥ 0
       ·rw [if_pos c15] at H
        have c15b0 : decide (0 ≤ x13_1) = true := decide_eq_true c15
        clear c15
        replace H := Option.bind_eq_some_iff.mp H
        obtain ⟨t184, A160, H⟩ := H
        replace H : ((z05_double.f k1 x9_1 t184).bind fun t185 => ((z05_Cmp.f t185 a1).bind fun t186 => (if t186 ≥ 0 then ((z05_sub.f k1 t185 a1).bind fun t187 => (if 0 ≤ (wrap64 (Int.tdiv x13_1 8)) then (if (wrap64 (Int.tdiv x13_1 8)) < (x12_1.length : Int) then (if 0 ≤ (IntKind.u64.wrap (Int.tmod x13_1 8)) then (z05_Div.l0 k1 a0 a1 t187 (x12_1.set ((wrap64 (Int.tdiv x13_1 8)) : Int).toNat (Go.bits .or .u8 (rd x12_1 (wrap64 (Int.tdiv x13_1 8))) (shl .u8 1 (IntKind.u64.wrap (Int.tmod x13_1 8))))) (wrap64 (x13_1 - 1))) else (none)) else (none)) else (none))) else (z05_Div.l0 k1 a0 a1 t185 x12_1 (wrap64 (x13_1 - 1)))))) = some (r1, r2, r3) := H
        have A16 := Aside0.mk A160
        clear A160
        replace H := Option.bind_eq_some_iff.mp H
        obtain ⟨t185, A170, H⟩ := H
        replace H : ((z05_Cmp.f t185 a1).bind fun t186 => (if t186 ≥ 0 then ((z05_sub.f k1 t185 a1).bind fun t187 => (if 0 ≤ (wrap64 (Int.tdiv x13_1 8)) then (if (wrap64 (Int.tdiv x13_1 8)) < (x12_1.length : Int) then (if 0 ≤ (IntKind.u64.wrap (Int.tmod x13_1 8)) then (z05_Div.l0 k1 a0 a1 t187 (x12_1.set ((wrap64 (Int.tdiv x13_1 8)) : Int).toNat (Go.bits .or .u8 (rd x12_1 (wrap64 (Int.tdiv x13_1 8))) (shl .u8 1 (IntKind.u64.wrap (Int.tmod x13_1 8))))) (wrap64 (x13_1 - 1))) else (none)) else (none)) else (none))) else (z05_Div.l0 k1 a0 a1 t185 x12_1 (wrap64 (x13_1 - 1))))) = some (r1, r2, r3) := H
        have A17 := Aside0.mk A170
        clear A170
        replace H := Option.bind_eq_some_iff.mp H
        obtain ⟨t186, A180, H⟩ := H
        replace H : (if t186 ≥ 0 then ((z05_sub.f k1 t185 a1).bind fun t187 => (if 0 ≤ (wrap64 (Int.tdiv x13_1 8)) then (if (wrap64 (Int.tdiv x13_1 8)) < (x12_1.length : Int) then (if 0 ≤ (IntKind.u64.wrap (Int.tmod x13_1 8)) then (z05_Div.l0 k1 a0 a1 t187 (x12_1.set ((wrap64 (Int.tdiv x13_1 8)) : Int).toNat (Go.bits .or .u8 (rd x12_1 (wrap64 (Int.tdiv x13_1 8))) (shl .u8 1 (IntKind.u64.wrap (Int.tmod x13_1 8))))) (wrap64 (x13_1 - 1))) else (none)) else (none)) else (none))) else (z05_Div.l0 k1 a0 a1 t185 x12_1 (wrap64 (x13_1 - 1)))) = some (r1, r2, r3) := H
        have A18 := Aside0.mk A180
        clear A180
        by_cases c19 : t186 ≥ 0
        ·rw [if_pos c19] at H
         have c19b0 : decide (0 ≤ t186) = true := decide_eq_true c19
         clear c19
         replace H := Option.bind_eq_some_iff.mp H
         obtain ⟨t187, A200, H⟩ := H
         replace H : (if 0 ≤ (wrap64 (Int.tdiv x13_1 8)) then (if (wrap64 (Int.tdiv x13_1 8)) < (x12_1.length : Int) then (if 0 ≤ (IntKind.u64.wrap (Int.tmod x13_1 8)) then (z05_Div.l0 k1 a0 a1 t187 (x12_1.set ((wrap64 (Int.tdiv x13_1 8)) : Int).toNat (Go.bits .or .u8 (rd x12_1 (wrap64 (Int.tdiv x13_1 8))) (shl .u8 1 (IntKind.u64.wrap (Int.tmod x13_1 8))))) (wrap64 (x13_1 - 1))) else (none)) else (none)) else (none)) = some (r1, r2, r3) := H
         have A20 := Aside0.mk A200
         clear A200
         obtain ⟨ji21, hji21⟩ : ∃ j_ : Int, (wrap64 (Int.tdiv x13_1 8)) = j_ := ⟨_, rfl⟩
         replace H : (if 0 ≤ (ji21) then (if (ji21) < (x12_1.length : Int) then (if 0 ≤ (IntKind.u64.wrap (Int.tmod x13_1 8)) then (z05_Div.l0 k1 a0 a1 t187 (x12_1.set ((ji21) : Int).toNat (Go.bits .or .u8 (rd x12_1 (ji21)) (shl .u8 1 (IntKind.u64.wrap (Int.tmod x13_1 8))))) (wrap64 (x13_1 - 1))) else (none)) else (none)) else (none)) = some (r1, r2, r3) := by first | (rw [hji21] at H; exact H) | (simp only [hji21] at H ⊢; exact H)
         (try rw [hji21] at A16)
         (try rw [hji21] at A17)
         (try rw [hji21] at A18)
         (try rw [hji21] at A20)
         have hji21w : (IntKind.i64.wrap (Int.tdiv x13_1 8)) = ji21 := (i64_w _).trans hji21
         by_cases c22 : 0 ≤ (ji21)
         ·rw [if_pos c22] at H
          have c22b0 : decide (0 ≤ (ji21)) = true := decide_eq_true c22
          clear c22
          by_cases c23 : (ji21) < (x12_1.length : Int)
          ·rw [if_pos c23] at H
           have c23b0 : decide ((ji21) < (x12_1.length : Int)) = true := decide_eq_true c23
           clear c23
           obtain ⟨ji24, hji24⟩ : ∃ j_ : Int, (IntKind.u64.wrap (Int.tmod x13_1 8)) = j_ := ⟨_, rfl⟩
           replace H : (if 0 ≤ (ji24) then (z05_Div.l0 k1 a0 a1 t187 (x12_1.set ((ji21) : Int).toNat (Go.bits .or .u8 (rd x12_1 (ji21)) (shl .u8 1 (ji24)))) (wrap64 (x13_1 - 1))) else (none)) = some (r1, r2, r3) := by first | (rw [hji24] at H; exact H) | (simp only [hji24] at H ⊢; exact H)
           (try rw [hji24] at A16)
           (try rw [hji24] at A17)
           (try rw [hji24] at A18)
           (try rw [hji24] at A20)
           by_cases c25 : 0 ≤ (ji24)
           ·rw [if_pos c25] at H
            have c25b0 := eq_true c25
            have c25b1 : decide (0 ≤ (ji24)) = true := decide_eq_true c25
            clear c25
            obtain ⟨ji26, hji26⟩ : ∃ j_ : Int, (shl .u8 1 (ji24)) = j_ := ⟨_, rfl⟩
            replace H : (z05_Div.l0 k1 a0 a1 t187 (x12_1.set ((ji21) : Int).toNat (Go.bits .or .u8 (rd x12_1 (ji21)) (ji26))) (wrap64 (x13_1 - 1))) = some (r1, r2, r3) := by first | (rw [hji26] at H; exact H) | (simp only [hji26] at H ⊢; exact H)
            (try rw [hji26] at A16)
            (try rw [hji26] at A17)
            (try rw [hji26] at A18)
            (try rw [hji26] at A20)
            have hji26_ : (IntKind.u8.wrap (1 * 2 ^ min (ji24).toNat 8)) = ji26 := hji26
            have hji26z : (ji24) ≤ 8 → (IntKind.u8.wrap (1 * 2 ^ (ji24).toNat)) = ji26 := shl_small hji26
            have hji26u : (IntKind.u8.wrap (2 ^ min (ji24).toNat 8)) = ji26 := by have h_ := hji26_; rw [Int.one_mul] at h_; exact h_
            have hji26v : (ji24) ≤ 8 → (IntKind.u8.wrap (2 ^ (ji24).toNat)) = ji26 := fun hle_ => by have h_ := hji26z hle_; rw [Int.one_mul] at h_; exact h_
            obtain ⟨y189, hy189⟩ : ∃ y_ : List Int, y_ = (x12_1.set ((ji21) : Int).toNat (Go.bits .or .u8 (rd x12_1 (ji21)) (ji26))) := ⟨_, rfl⟩
            replace H : (z05_Div.l0 k1 a0 a1 t187 y189 (wrap64 (x13_1 - 1))) = some (r1, r2, r3) := by first | (rw [hy189]; with_reducible exact H) | (have H2_ := (Option.bind_some _ _).symm.trans H; rw [hy189]; with_reducible exact H2_) | (have H2_ := (Option.bind_some _ _).symm.trans H; with_reducible exact H2_) | with_reducible exact H | (rw [hy189]; exact H) | exact H
            have Ny189 := Aside0.mk hy189
            clear hy189
            have H' := Aside0.mk H
            clear H
            go_wp2_with (first | ((with_reducible refine gate_callee (f := 205) rfl ?_); refine goesL_ (some 50) rfl rfl Tryz.func205 (by kernel_rfl) rfl #[.string a0, .int .i64 x13_1] rfl w3_ ?_; (with_reducible refine (z05_bit.calls a0 x13_1 t184 _ A16.out).mono ?_); rintro e w' ⟨rfl, ⟨nd, rfl⟩⟩; refine ⟨_, rfl, ?_⟩; (try (rw [drewN_self wr]; generalize hq_ : World.drewN wr _ = wr; have n0_ : Aside0 (Kd.R (Kd.int .u8) 5 wr w.heap.size (fun _ => True) v181 x12_1) := ⟨by rw [← hq_]; exact w7_⟩; have n1_ : Aside0 (Below w.heap.size w wr) := ⟨by rw [← hq_]; exact w5_⟩; clear HO_12 HB hq_; have HO_12 := n0_; have HB := n1_; clear n0_ n1_))) | ((with_reducible refine gate_callee (f := 204) rfl ?_); refine goesL_ (some 51) rfl rfl Tryz.func204 (by kernel_rfl) rfl #[.string x9_1, .int .i64 t184] rfl w3_ ?_; (with_reducible refine (z05_double.calls k1 x9_1 t184 t185 _ A17.out).mono ?_); rintro e w28 ⟨rfl, hb⟩; refine ⟨_, rfl, ?_⟩; have n0_ := Aside0.mk (Kd.R_below w7_ hb); have n1_ := Aside0.mk (below_step w5_ hb); clear HO_12; clear HB; have HO_12 := n0_; have HB := n1_; clear n0_ n1_; (try clear hb); (try clear hb2); (try clear hk); (try clear hi)) | ((with_reducible refine gate_callee (f := 57) rfl ?_); refine goesL_ (some 54) rfl rfl Tryz.func57 (by kernel_rfl) rfl #[.string t185, .string a1] rfl w3_ ?_; (with_reducible refine (z05_Cmp.calls t185 a1 t186 _ A18.out).mono ?_); rintro e w' ⟨rfl, ⟨nd, rfl⟩⟩; refine ⟨_, rfl, ?_⟩; (try (rw [drewN_self w28]; generalize hq_ : World.drewN w28 _ = w28; have n0_ : Aside0 (Kd.R (Kd.int .u8) 5 w28 w.heap.size (fun _ => True) v181 x12_1) := ⟨by rw [← hq_]; exact w7_⟩; have n1_ : Aside0 (Below w.heap.size w w28) := ⟨by rw [← hq_]; exact w5_⟩; clear HO_12 HB hq_; have HO_12 := n0_; have HB := n1_; clear n0_ n1_))) | ((with_reducible refine gate_callee (f := 206) rfl ?_); refine goesL_ (some 58) rfl rfl Tryz.func206 (by kernel_rfl) rfl #[.string t185, .string a1] rfl w3_ ?_; (with_reducible refine (z05_sub.calls k1 t185 a1 t187 _ A20.out).mono ?_); rintro e w29 ⟨rfl, hb⟩; refine ⟨_, rfl, ?_⟩; have n0_ := Aside0.mk (Kd.R_below w7_ hb); have n1_ := Aside0.mk (below_step w5_ hb); clear HO_12; clear HB; have HO_12 := n0_; have HB := n1_; clear n0_ n1_; (try clear hb); (try clear hb2); (try clear hk); (try clear hi); obtain ⟨Ao30, co30, eo30⟩ := Kd.R_slice HO_12.out; subst eo30; have p188 : 0 ≤ ((ji21) : Int) := of_decide_eq_true w4_; have q188 : (ji21) < (x12_1.length : Int) := of_decide_eq_true w4_; obtain ⟨ad188, e188, hx188_0⟩ := Kd.at_int (Kd.R_reads' HO_12.out).2.2 (ji21) p188 q188; cases e188; replace p188 := eq_true p188; replace q188 := eq_true q188; have p27 : 0 ≤ ((ji21) : Int) := of_decide_eq_true w4_; have q27 : ((ji21) : Int) < ((x12_1.length : Int) : Int) := of_decide_eq_true w4_; obtain ⟨go27, co27, eo27, gb27, gl27, cl27, HG27⟩ := Kd.R_form HO_12.out (by omega); (first | cases eo27 | (injection eo27 with ea_ en_ ec_; (first | subst ea_ | (injection ea_ with ea_; subst ea_)); subst ec_; clear en_)); have GB27 := Aside0.mk gb27; have GG27 := Aside0.mk HG27; clear gb27 gl27 HG27; (first | simp only [add_plain] at hx188_0 | skip); obtain ⟨hx27_0, hf27_0⟩ := Kd.R_celln 0 HO_12.out ((ji21) : Int) p27 q27; replace p27 := eq_true p27; replace q27 := eq_true q27; obtain ⟨hy31_, hz31_⟩ := Kd.R_celln 0 HO_12.out ((ji21) : Int) (of_decide_eq_true w4_) (of_decide_eq_true w4_); have HP31 := Kd.R_putg HO_12.out ((ji21) : Int) (Go.bits .or .u8 (rd x12_1 (ji21)) (ji26))) | ((with_reducible refine gate_store (t := 5) (p := 72) rfl ?_); refine store_event (t := 5) (p := 72) (v := ?vo_w32) (w1 := (w29.setCell ⟨go27, ((ji21) : Int).toNat, none⟩ (.int .u8 (Go.bits .or .u8 (rd x12_1 (ji21)) (ji26))))) ?hg ?ho ?hn ?hr ?_; (case ho => rfl); (case hg => rfl); (case hn => rfl); (case hr => first | (go_simp; done) | (go_simp; rfl)); intro w32 hw; have hg : w29.grownBy w32 (some go27) := (by rw [hw]; exact HP31.2); have hp_ : Kd.R (Kd.int .u8) 5 w32 w.heap.size (fun _ => True) (.slice (some ⟨go27, 0, none⟩) x12_1.length co30) y189 := (by rw [hw, Ny189.out]; exact HP31.1); clear HP31; have n0_ := Aside0.mk (hp_); have n1_ := Aside0.mk ((by rw [hw]; exact below_set (HB.out) GB27.out : Below w.heap.size w w32)); clear HO_12; clear HB; have HO_12 := n0_; have HB := n1_; clear n0_ n1_; clear hg hw hp_))
            go_roundg k1
            case measure => have := HK1.out; omega
            case rel => exact ⟨(t187), (y189), (wrap64 (x13_1 - 1)), w1_, w1_, H', ⟨by have := HK1.out; omega⟩, ⟨by (with_reducible repeat (first | apply Kd.R_alloc | apply Kd.R_drewN | apply Kd.R_drew)); exact HO_12.out⟩, ⟨by repeat (first | (with_reducible first | exact HB.out | apply below_alloc | apply pw_below_drewN | apply below_drew1) | exact HB.out)⟩⟩
           ·rw [if_neg c25] at H
            exact absurd H (by simp)
          ·rw [if_neg c23] at H
           exact absurd H (by simp)
         ·rw [if_neg c22] at H
          exact absurd H (by simp)
        ·rw [if_neg c19] at H
         have c19b0 : decide (0 ≤ t186) = false := decide_eq_false c19
         clear c19
         have H' := Aside0.mk H
         clear H
         go_wp2_with (first | ((with_reducible refine gate_callee (f := 205) rfl ?_); refine goesL_ (some 50) rfl rfl Tryz.func205 (by kernel_rfl) rfl #[.string a0, .int .i64 x13_1] rfl w3_ ?_; (with_reducible refine (z05_bit.calls a0 x13_1 t184 _ A16.out).mono ?_); rintro e w' ⟨rfl, ⟨nd, rfl⟩⟩; refine ⟨_, rfl, ?_⟩) | ((with_reducible refine gate_callee (f := 204) rfl ?_); refine goesL_ (some 51) rfl rfl Tryz.func204 (by kernel_rfl) rfl #[.string x9_1, .int .i64 t184] rfl w3_ ?_; (with_reducible refine (z05_double.calls k1 x9_1 t184 t185 _ A17.out).mono ?_); rintro e w33 ⟨rfl, hb⟩; refine ⟨_, rfl, ?_⟩; have n0_ := Aside0.mk (Kd.R_below w7_ hb); have n1_ := Aside0.mk (below_step w5_ hb); clear HO_12; clear HB; have HO_12 := n0_; have HB := n1_; clear n0_ n1_; (try clear hb); (try clear hb2); (try clear hk); (try clear hi)) | ((with_reducible refine gate_callee (f := 57) rfl ?_); refine goesL_ (some 54) rfl rfl Tryz.func57 (by kernel_rfl) rfl #[.string t185, .string a1] rfl w3_ ?_; (with_reducible refine (z05_Cmp.calls t185 a1 t186 _ A18.out).mono ?_); rintro e w' ⟨rfl, ⟨nd, rfl⟩⟩; refine ⟨_, rfl, ?_⟩))
         go_roundg k1
         case measure => have := HK1.out; omega
         case rel => exact ⟨(t185), (x12_1), (wrap64 (x13_1 - 1)), w1_, w1_, H', ⟨by have := HK1.out; omega⟩, ⟨by (with_reducible repeat (first | apply Kd.R_alloc | apply Kd.R_drewN | apply Kd.R_drew)); exact HO_12.out⟩, ⟨by repeat (first | (with_reducible first | exact HB.out | apply below_alloc | apply pw_below_drewN | apply below_drew1) | exact HB.out)⟩⟩
       ·rw [if_neg c15] at H
        have c15b0 : decide (0 ≤ x13_1) = false := decide_eq_false c15
        clear c15
        replace H := Option.bind_eq_some_iff.mp H
        obtain ⟨t183, A340, H⟩ := H
        replace H : (some (t183, x9_1, 0)) = some (r1, r2, r3) := H
        have A34 := Aside0.mk A340
        clear A340
        simp only [Option.some.injEq, Prod.mk.injEq] at H
        obtain ⟨rfl, rfl, rfl⟩ := H
        obtain ⟨Ao35, co35, eo35⟩ := Kd.R_slice HO_12.out
        subst eo35
        go_wp2_with (first | ((with_reducible refine gate_callee (f := 134) rfl ?_); refine goesL_ (some 74) rfl rfl Tryz.func134 (by kernel_rfl) rfl #[.slice Ao35 x12_1.length co35] rfl w3_ ?_; (with_reducible refine (z05_fit.calls k1 _ _ x12_1 t183 _ ?side1 ?side2 A34.out).mono ?_); (case side1 => repeat (first | exact (Kd.R_reads' HO_12.out).2.2 | (with_reducible refine Kd.C_alloc ?_ _) | (with_reducible refine Kd.C_drewN ?_ _) | (with_reducible refine Kd.C_drew ?_))); (case side2 => exact (Kd.R_reads' HO_12.out).2.1); rintro e w36 ⟨rfl, hb⟩; refine ⟨_, rfl, ?_⟩; have n0_ := Aside0.mk (Kd.R_below w7_ hb); have n1_ := Aside0.mk (below_step w5_ hb); clear HO_12; clear HB; have HO_12 := n0_; have HB := n1_; clear n0_ n1_; (try clear hb); (try clear hb2); (try clear hk); (try clear hi)))
        go_ret3
        exact ⟨by first | rfl | (simp [errW_none, errW_some] <;> rfl) | (simp only [← hji9]; first | rfl | (simp [errW_none, errW_some] <;> rfl)) | (simp [*, errW_none, errW_some] <;> rfl), by repeat (first | (with_reducible first | exact HB.out | apply below_alloc | apply pw_below_drewN | apply below_drew1) | exact HB.out)⟩
    ·rw [if_neg c11] at H
     exact absurd H (by simp)
   ·rw [if_neg c10] at H
    exact absurd H (by simp)
def z05_Gcd.l0 : Nat → ByteArray → ByteArray → Option (ByteArray)
 | 0, _, _ => none
 | k + 1, x0, x1 => if x1.toList = ([] : List UInt8) then (some x0) else ((z05_Div.f k x0 x1).bind fun bt190 => (z05_Gcd.l0 k x1 bt190.2.1))
def z05_Gcd.f (k : Nat) (a0 : ByteArray) (a1 : ByteArray) : Option (ByteArray) := z05_Gcd.l0 k a0 a1
set_option maxHeartbeats 8000000 in
set_option maxRecDepth 100000 in
theorem z05_Gcd.calls (k : Nat) (a0 : ByteArray) (a1 : ByteArray) (r : ByteArray) (w : World) (h : z05_Gcd.f k a0 a1 = some r) :
  Calls Tryz.prog 149 #[.string a0, .string a1] w fun e w' => e = .returned (.string r) ∧ Below w.heap.size w w' := by
 have HB := Aside0.mk (Below.refl w.heap.size w)
 have H : (z05_Gcd.l0 k a0 a1) = some r := h
 clear h
 have H' := Aside0.mk H
 clear H
 go_enter Tryz.func149, Tryz.ntmps149
 go_wp2
 go_loopg [0, 1] k (fun kq v0 v1 w' => ∃ (x0_1 : ByteArray) (x1_1 : ByteArray), v0 = .string x0_1 ∧ v1 = .string x1_1 ∧ Aside0 (z05_Gcd.l0 kq x0_1 x1_1 = some r) ∧ Aside0 (kq ≤ k) ∧ Aside0 (Below w.heap.size w w'))
 case atStart => exact ⟨(a0), (a1), w1_, w1_, H', ⟨Nat.le_refl _⟩, ⟨by repeat (first | (with_reducible first | exact HB.out | apply below_alloc | apply pw_below_drewN | apply below_drew1) | exact HB.out)⟩⟩
 case round =>
  clear H'
  try clear c1
  try clear p2
  obtain ⟨x0_1, x1_1, rfl, rfl, HA, HK1, HB⟩ := hrel
  cases gk with
  | zero => exact absurd HA.out (by simp [z05_Gcd.l0])
  | succ k1 =>
   have H := HA.out
   clear HA
   simp only [z05_Gcd.l0] at H
   by_cases c3 : x1_1.toList = ([] : List UInt8)
   ·rw [if_pos c3] at H
    have c3b0 : (x1_1.toList == ([] : List UInt8)) = true := beq_iff_eq.mpr c3
    have c3b1 : (x1_1.toList != ([] : List UInt8)) = false := bne_eq_false_iff_eq.mpr c3
    clear c3
    obtain rfl := Option.some.inj H
    go_wp2
    go_ret
    exact ⟨by first | rfl | (simp [errW_none, errW_some] <;> rfl) | (simp [*, errW_none, errW_some] <;> rfl), by repeat (first | (with_reducible first | exact HB.out | apply below_alloc | apply pw_below_drewN | apply below_drew1) | exact HB.out)⟩
   ·rw [if_neg c3] at H
    have c3b0 : (x1_1.toList == ([] : List UInt8)) = false := beq_eq_false_iff_ne.mpr c3
    have c3b1 : (x1_1.toList != ([] : List UInt8)) = true := bne_iff_ne.mpr c3
    replace H := Option.bind_eq_some_iff.mp H
    obtain ⟨⟨t190, t191, t192⟩, A40, H⟩ := H
    replace H : (z05_Gcd.l0 k1 x1_1 t191) = some r := H
    have A4 := Aside0.mk A40
    clear A40
    have H' := Aside0.mk H
    clear H
    go_wp2_with (first | ((with_reducible refine gate_callee (f := 150) rfl ?_); refine goesL_ (some 13) rfl rfl Tryz.func150 (by kernel_rfl) rfl #[.string x0_1, .string x1_1] rfl w3_ ?_; (with_reducible refine (z05_Div.calls k1 x0_1 x1_1 t190 t191 t192 _ A4.out).mono ?_); rintro e w5 ⟨rfl, hb⟩; refine ⟨_, rfl, ?_⟩; have n0_ := Aside0.mk (below_step w5_ hb); clear HB; have HB := n0_; clear n0_; (try clear hb); (try clear hb2); (try clear hk); (try clear hi)))
    go_roundg k1
    case measure => have := HK1.out; omega
    case rel => exact ⟨(x1_1), (t191), w1_, w1_, H', ⟨by have := HK1.out; omega⟩, ⟨by repeat (first | (with_reducible first | exact HB.out | apply below_alloc | apply pw_below_drewN | apply below_drew1) | exact HB.out)⟩⟩
def z06_odd.f (a0 : ByteArray) : Option (Bool) := if a0.toList = ([] : List UInt8) then (some false) else (if 0 ≤ (wrap64 ((a0.size : Int) - 1)) then (if (wrap64 ((a0.size : Int) - 1)) < (a0.size : Int) then (some ((Go.bits .and .u8 (bt a0 (wrap64 ((a0.size : Int) - 1))) 1) == 1)) else (none)) else (none))
set_option maxHeartbeats 8000000 in
set_option maxRecDepth 100000 in
theorem z06_odd.calls (a0 : ByteArray) (r : Bool) (w : World) (h : z06_odd.f a0 = some r) :
  Calls Tryz.prog 225 #[.string a0] w fun e w' => e = .returned (.bool r) ∧ Drawn0 w w' := by
 have H : (if a0.toList = ([] : List UInt8) then (some false) else (if 0 ≤ (wrap64 ((a0.size : Int) - 1)) then (if (wrap64 ((a0.size : Int) - 1)) < (a0.size : Int) then (some ((Go.bits .and .u8 (bt a0 (wrap64 ((a0.size : Int) - 1))) 1) == 1)) else (none)) else (none))) = some r := h
 clear h
 by_cases c2 : a0.toList = ([] : List UInt8)
 ·rw [if_pos c2] at H
  have c2b0 : (a0.toList == ([] : List UInt8)) = true := beq_iff_eq.mpr c2
  have c2b1 : (a0.toList != ([] : List UInt8)) = false := bne_eq_false_iff_eq.mpr c2
  clear c2
  obtain rfl := Option.some.inj H
  go_enter Tryz.func225, Tryz.ntmps225
  go_wp2
  go_ret
  exact ⟨w1_, w2_⟩
 ·rw [if_neg c2] at H
  have c2b0 : (a0.toList == ([] : List UInt8)) = false := beq_eq_false_iff_ne.mpr c2
  have c2b1 : (a0.toList != ([] : List UInt8)) = true := bne_iff_ne.mpr c2
  obtain ⟨ji3, hji3⟩ : ∃ j_ : Int, (wrap64 ((a0.size : Int) - 1)) = j_ := ⟨_, rfl⟩
  replace H : (if 0 ≤ (ji3) then (if (ji3) < (a0.size : Int) then (some ((Go.bits .and .u8 (bt a0 (ji3)) 1) == 1)) else (none)) else (none)) = some r := by first | (rw [hji3] at H; exact H) | (simp only [hji3] at H ⊢; exact H)
  have hji3w : (IntKind.i64.wrap ((a0.size : Int) - 1)) = ji3 := (i64_w _).trans hji3
  by_cases c4 : 0 ≤ (ji3)
  ·rw [if_pos c4] at H
   have c4b0 : decide (0 ≤ (ji3)) = true := decide_eq_true c4
   clear c4
   by_cases c5 : (ji3) < (a0.size : Int)
   ·rw [if_pos c5] at H
    have c5b0 : decide ((ji3) < (a0.size : Int)) = true := decide_eq_true c5
    clear c5
    obtain rfl := Option.some.inj H
    have p6 : 0 ≤ ((ji3) : Int) := of_decide_eq_true w4_
    have q6 : (ji3) < (a0.size : Int) := of_decide_eq_true w4_
    have hx6 := bt_at a0 (ji3)
    replace p6 := eq_true p6
    replace q6 := eq_true q6
    go_enter Tryz.func225, Tryz.ntmps225
    go_wp2
    go_ret
    exact ⟨by first | rfl | (simp; done) | (simp only [← hji3] <;> (first | rfl | simp)) | (simp [*]; done), by repeat (first | exact Drawn0.refl _ | apply Drawn0.step)⟩
   ·rw [if_neg c5] at H
    exact absurd H (by simp)
  ·rw [if_neg c4] at H
   exact absurd H (by simp)
end Go.Proofs.YtgmhmpflmgfcdaaGreatDoor.PDivQuotients
