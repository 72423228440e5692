/- Part 31 of the proof. -/
import Derived.Test.YtgmhmpflmgfcdaaGreatDoorHq0
import Derived.Test.YtgmhmpflmgfcdaaGreatDoorHq22
import Derived.Test.YtgmhmpflmgfcdaaGreatDoorHq25
import Derived.Test.YtgmhmpflmgfcdaaGreatDoorHq26
import Derived.Test.YtgmhmpflmgfcdaaGreatDoorHq28
import Derived.Test.YtgmhmpflmgfcdaaGreatDoorHq30
namespace Go.Proofs.YtgmhmpflmgfcdaaGreatDoor.PDivQuotients
open Go.RowKit Go.Proofs.YtgmhmpflmgfcdaaGreatDoorW.PrintWords Go.Proofs.YtgmhmpflmgfcdaaGreatDoorW.PrintLast Go.Proofs.YtgmhmpflmgfcdaaGreatDoorW.PrintMore
attribute [local go_sem] max2_int min2_int max_two min_two max_three min_three max_four min_four   -- for this text's walks alone
set_option linter.unusedVariables false
set_option linter.unusedSimpArgs false
mutual
def z05_Mul.l0 : Nat → ByteArray → ByteArray → List Int → Int → Option (ByteArray × Int)
 | 0, _, _, _, _ => none
 | k + 1, x0, x1, x6, x7 => if x7 < (x0.size : Int) then ((z05_at.f x0 x7).bind fun t375 => (z05_Mul.l1 k x0 x1 x6 x7 0 t375 0)) else ((z05_fit.f k x6).bind fun t372 => ((z05_long.f t372).bind fun bt373 => (some (bt373.1, bt373.2))))
def z05_Mul.l1 : Nat → ByteArray → ByteArray → List Int → Int → Int → Int → Int → Option (ByteArray × Int)
 | 0, _, _, _, _, _, _, _ => none
 | k + 1, x0, x1, x6, x7, x8, x9, x10 => if x10 < (x1.size : Int) then (if 0 ≤ (wrap64 (x7 + x10)) then (if (wrap64 (x7 + x10)) < (x6.length : Int) then ((z05_at.f x1 x10).bind fun t377 => (z05_Mul.l1 k x0 x1 (x6.set ((wrap64 (x7 + x10)) : Int).toNat ((wrap64 ((wrap64 (x8 + (wrap64 (rd x6 (wrap64 (x7 + x10)))))) + (wrap64 (x9 * t377)))) % 256)) x7 ((wrap64 ((wrap64 (x8 + (wrap64 (rd x6 (wrap64 (x7 + x10)))))) + (wrap64 (x9 * t377)))) / 256) x9 (wrap64 (x10 + 1)))) else (none)) else (none)) else (z05_Mul.l2 k x0 x1 x6 x7 x8 (wrap64 (x7 + (x1.size : Int))))
def z05_Mul.l2 : Nat → ByteArray → ByteArray → List Int → Int → Int → Int → Option (ByteArray × Int)
 | 0, _, _, _, _, _, _ => none
 | k + 1, x0, x1, x6, x7, x8, x11 => if x8 > 0 then (if 0 ≤ x11 then (if x11 < (x6.length : Int) then (z05_Mul.l2 k x0 x1 (x6.set (x11 : Int).toNat ((wrap64 (x8 + (wrap64 (rd x6 x11)))) % 256)) x7 ((wrap64 (x8 + (wrap64 (rd x6 x11)))) / 256) (wrap64 (x11 + 1))) else (none)) else (none)) else (z05_Mul.l0 k x0 x1 x6 (wrap64 (x7 + 1)))
end
def z05_Mul.f (k : Nat) (a0 : ByteArray) (a1 : ByteArray) : Option (ByteArray × Int) := if (wrap64 ((a0.size : Int) + (a1.size : Int))) > 16385 then (if a0.toList = ([] : List UInt8) then (some ((⟨#[]⟩ : ByteArray), 0)) else (if a1.toList = ([] : List UInt8) then (some ((⟨#[]⟩ : ByteArray), 0)) else (some ((⟨#[]⟩ : ByteArray), 4)))) else (if 0 ≤ (wrap64 ((wrap64 ((a0.size : Int) + (a1.size : Int))) + 1)) then (if (wrap64 ((wrap64 ((a0.size : Int) + (a1.size : Int))) + 1) : Int).toNat ≤ 281474976710656 then (z05_Mul.l0 k a0 a1 (List.replicate (wrap64 ((wrap64 ((a0.size : Int) + (a1.size : Int))) + 1) : Int).toNat 0) 0) else (none)) else (none))
set_option maxHeartbeats 8000000 in
set_option maxRecDepth 100000 in
theorem z05_Mul.calls (k : Nat) (a0 : ByteArray) (a1 : ByteArray) (r1 : ByteArray) (r2 : Int) (w : World) (h : z05_Mul.f k a0 a1 = some (r1, r2)) :
  Calls Tryz.prog 171 #[.string a0, .string a1] w fun e w' => e = .returned (.tuple #[.string r1, .int .i64 r2]) ∧ Below w.heap.size w w' := by
 have HB := Aside0.mk (Below.refl w.heap.size w)
 have H : (if (wrap64 ((a0.size : Int) + (a1.size : Int))) > 16385 then (if a0.toList = ([] : List UInt8) then (some ((⟨#[]⟩ : ByteArray), 0)) else (if a1.toList = ([] : List UInt8) then (some ((⟨#[]⟩ : ByteArray), 0)) else (some ((⟨#[]⟩ : ByteArray), 4)))) else (if 0 ≤ (wrap64 ((wrap64 ((a0.size : Int) + (a1.size : Int))) + 1)) then (if (wrap64 ((wrap64 ((a0.size : Int) + (a1.size : Int))) + 1) : Int).toNat ≤ 281474976710656 then (z05_Mul.l0 k a0 a1 (List.replicate (wrap64 ((wrap64 ((a0.size : Int) + (a1.size : Int))) + 1) : Int).toNat 0) 0) else (none)) else (none))) = some (r1, r2) := h
 clear h
 by_cases c3 : (wrap64 ((a0.size : Int) + (a1.size : Int))) > 16385
 ·rw [if_pos c3] at H
  have c3b0 : decide (16385 < (wrap64 ((a0.size : Int) + (a1.size : Int)))) = true := decide_eq_true c3
  clear c3
  by_cases c4 : a0.toList = ([] : List UInt8)
  ·rw [if_pos c4] at H
   have c4b0 : (a0.toList == ([] : List UInt8)) = true := beq_iff_eq.mpr c4
   have c4b1 : (a0.toList != ([] : List UInt8)) = false := bne_eq_false_iff_eq.mpr c4
   clear c4
   simp only [Option.some.injEq, Prod.mk.injEq] at H
   obtain ⟨rfl, rfl⟩ := H
   go_enter Tryz.func171, Tryz.ntmps171
   go_wp2
   repeat (go_quiet (fail); try go_wp2)
   go_ret2
   exact ⟨by first | rfl | (simp [errW_none, errW_some] <;> rfl) | (simp [*, errW_none, errW_some] <;> rfl), by repeat (first | (with_reducible first | exact HB.out | apply below_alloc | apply pw_below_drewN | apply below_drew1) | exact HB.out)⟩
  ·rw [if_neg c4] at H
   have c4b0 : (a0.toList == ([] : List UInt8)) = false := beq_eq_false_iff_ne.mpr c4
   have c4b1 : (a0.toList != ([] : List UInt8)) = true := bne_iff_ne.mpr c4
   by_cases c5 : a1.toList = ([] : List UInt8)
   ·rw [if_pos c5] at H
    have c5b0 : (a1.toList == ([] : List UInt8)) = true := beq_iff_eq.mpr c5
    have c5b1 : (a1.toList != ([] : List UInt8)) = false := bne_eq_false_iff_eq.mpr c5
    clear c5
    simp only [Option.some.injEq, Prod.mk.injEq] at H
    obtain ⟨rfl, rfl⟩ := H
    go_enter Tryz.func171, Tryz.ntmps171
    go_wp2
    repeat (go_quiet (fail); try go_wp2)
    go_ret2
    exact ⟨by first | rfl | (simp [errW_none, errW_some] <;> rfl) | (simp [*, errW_none, errW_some] <;> rfl), by repeat (first | (with_reducible first | exact HB.out | apply below_alloc | apply pw_below_drewN | apply below_drew1) | exact HB.out)⟩
   ·rw [if_neg c5] at H
    have c5b0 : (a1.toList == ([] : List UInt8)) = false := beq_eq_false_iff_ne.mpr c5
    have c5b1 : (a1.toList != ([] : List UInt8)) = true := bne_iff_ne.mpr c5
    simp only [Option.some.injEq, Prod.mk.injEq] at H
    obtain ⟨rfl, rfl⟩ := H
    go_enter Tryz.func171, Tryz.ntmps171
    go_wp2
    repeat (go_quiet (fail); try go_wp2)
    go_ret2
    exact ⟨by first | rfl | (simp [errW_none, errW_some] <;> rfl) | (simp [*, errW_none, errW_some] <;> rfl), by repeat (first | (with_reducible first | exact HB.out | apply below_alloc | apply pw_below_drewN | apply below_drew1) | exact HB.out)⟩
 ·rw [if_neg c3] at H
  have c3b0 : decide (16385 < (wrap64 ((a0.size : Int) + (a1.size : Int)))) = false := decide_eq_false c3
  clear c3
  obtain ⟨ji6, hji6⟩ : ∃ j_ : Int, (wrap64 ((wrap64 ((a0.size : Int) + (a1.size : Int))) + 1)) = j_ := ⟨_, rfl⟩
  replace H : (if 0 ≤ (ji6) then (if (ji6 : Int).toNat ≤ 281474976710656 then (z05_Mul.l0 k a0 a1 (List.replicate (ji6 : Int).toNat 0) 0) else (none)) else (none)) = some (r1, r2) := by first | (rw [hji6] at H; exact H) | (simp only [hji6] at H ⊢; exact H)
  have hji6w : (IntKind.i64.wrap ((wrap64 ((a0.size : Int) + (a1.size : Int))) + 1)) = ji6 := (i64_w _).trans hji6
  by_cases c7 : 0 ≤ (ji6)
  ·rw [if_pos c7] at H
   have c7b0 := eq_true c7
   have c7b1 : decide (0 ≤ (ji6)) = true := decide_eq_true c7
   clear c7
   by_cases c8 : (ji6 : Int).toNat ≤ 281474976710656
   ·rw [if_pos c8] at H
    have c8b0 := eq_true c8
    have c8b1 : decide ((ji6 : Int).toNat ≤ 281474976710656) = true := decide_eq_true c8
    clear c8
    obtain ⟨y369, hy369⟩ : ∃ y_ : List Int, y_ = (List.replicate (ji6 : Int).toNat 0) := ⟨_, rfl⟩
    replace H : (z05_Mul.l0 k a0 a1 y369 0) = some (r1, r2) := by first | (rw [hy369]; with_reducible exact H) | (have H2_ := (Option.bind_some _ _).symm.trans H; rw [hy369]; with_reducible exact H2_) | (have H2_ := (Option.bind_some _ _).symm.trans H; with_reducible exact H2_) | with_reducible exact H | (rw [hy369]; exact H) | exact H
    have Ny369 := Aside0.mk hy369
    clear hy369
    have H' := Aside0.mk H
    clear H
    go_enter Tryz.func171, Tryz.ntmps171
    go_wp2_with (first | ((with_reducible refine gate_dst (N := 30) rfl ?_); refine Kd.R_make (Kd.int .u8) _ 5 rfl (N := 30) rfl 143 _ _ rfl ji6 rfl rfl Tryz.underlying143 (.int .u8 0) 1 info5 rfl (by decide) (by omega) 0 (ok := fun _ => True) (okp := fun _ => True) rfl (fun _ hk => hk) trivial (of_decide_eq_true w4_) (Nat.le_trans (Nat.mul_le_mul_right _ (of_decide_eq_true w4_ : ji6.toNat ≤ 281474976710656)) (by omega)) (Below.refl _ _) (Nat.le_refl _) ?_; intro v370 w9 ho10 hb hg_ hnew_; clear hg_ hnew_; (first | rw [← Ny369.out] at ho10 | (simp only [Int.reduceToNat] at ho10; rw [← Ny369.out] at ho10)); have n0_ := Aside0.mk (Kd.R_lower ho10 (below_size w5_)); have n1_ := Aside0.mk (below_step w5_ hb); clear HB; have HO371 := n0_; have HB := n1_; clear n0_ n1_; clear hb ho10))
    go_loopg [7] k (fun kq v7 w' => ∃ (x6_1 : List Int) (x7_1 : Int), v7 = .int .i64 x7_1 ∧ Aside0 (z05_Mul.l0 kq a0 a1 x6_1 x7_1 = some (r1, r2)) ∧ Aside0 (kq ≤ k) ∧ Aside0 (Kd.R (Kd.int .u8) 5 w' w.heap.size (fun _ => True) v370 x6_1) ∧ Aside0 (Below w.heap.size w w'))
    case atStart => exact ⟨(y369), (0), w1_, H', ⟨Nat.le_refl _⟩, ⟨by (with_reducible repeat (first | apply Kd.R_alloc | apply Kd.R_drewN | apply Kd.R_drew)); exact HO371.out⟩, ⟨by repeat (first | (with_reducible first | exact HB.out | apply below_alloc | apply pw_below_drewN | apply below_drew1) | exact HB.out)⟩⟩
    case round =>
     clear H'
     try clear c1
     try clear p2
     try clear c3
     try clear c3b0
     try clear c4
     try clear c4b0
     try clear c4b1
     try clear c5
     try clear c5b0
     try clear c5b1
     try clear p6
     try clear c7
     try clear c7b0
     try clear c7b1
     try clear c8
     try clear c8b0
     try clear c8b1
     obtain ⟨x6_1, x7_1, rfl, HA, HK1, HO_6, HB⟩ := hrel
     cases gk with
     | zero => exact absurd HA.out (by simp [z05_Mul.l0])
     | succ k1 =>
      have H := HA.out
      clear HA
      simp only [z05_Mul.l0] at H
      by_cases c11 : x7_1 < (a0.size : Int)
      ·rw [if_pos c11] at H
       have c11b0 : decide (x7_1 < (a0.size : Int)) = true := decide_eq_true c11
       clear c11
       replace H := Option.bind_eq_some_iff.mp H
       obtain ⟨t375, A120, H⟩ := H
       replace H : (z05_Mul.l1 k1 a0 a1 x6_1 x7_1 0 t375 0) = some (r1, r2) := H
       have A12 := Aside0.mk A120
       clear A120
       have H' := Aside0.mk H
       clear H
       go_wp2_with (first | (go_at_call 136; (with_reducible refine (z05_at.calls a0 x7_1 t375 _ A12.out).mono ?_); rintro e w' ⟨rfl, ⟨nd, rfl⟩⟩; (try first | exact ⟨rfl, _, World.drewN_drewN _ _ _⟩ | exact ⟨rfl, _, Eq.trans (World.drewN_drewN _ _ _) (congrArg (World.drewN _) (Nat.add_assoc _ _ _))⟩)))
       go_loopg [8, 10] k1 (fun kq v8 v10 w' => ∃ (x6_2 : List Int) (x8_2 : Int) (x10_2 : Int), v8 = .int .i64 x8_2 ∧ v10 = .int .i64 x10_2 ∧ Aside0 (z05_Mul.l1 kq a0 a1 x6_2 x7_1 x8_2 t375 x10_2 = some (r1, r2)) ∧ Aside0 (kq ≤ k1) ∧ Aside0 (Kd.R (Kd.int .u8) 5 w' w.heap.size (fun _ => True) v370 x6_2) ∧ Aside0 (Below w.heap.size w w'))
       case atStart => exact ⟨(x6_1), (0), (0), w1_, w1_, H', ⟨Nat.le_refl _⟩, ⟨by (with_reducible repeat (first | apply Kd.R_alloc | apply Kd.R_drewN | apply Kd.R_drew)); exact HO_6.out⟩, ⟨by repeat (first | (with_reducible first | exact HB.out | apply below_alloc | apply pw_below_drewN | apply below_drew1) | exact HB.out)⟩⟩
       case round =>
        clear H'
        try clear c1
        try clear p2
        try clear c3
        try clear c3b0
        try clear c4
        try clear c4b0
        try clear c4b1
        try clear c5
        try clear c5b0
        try clear c5b1
        try clear p6
        try clear c7
        try clear c7b0
        try clear c7b1
        try clear c8
        try clear c8b0
        try clear c8b1
        try clear c11
        try clear c11b0
        try clear p2
        try clear p6
        obtain ⟨x6_2, x8_2, x10_2, rfl, rfl, HA, HK2, HO_6, HB⟩ := hrel
        cases gk with
        | zero => exact absurd HA.out (by simp [z05_Mul.l1])
        | succ k2 =>
         have H := HA.out
         clear HA
         simp only [z05_Mul.l1] at H
         by_cases c13 : x10_2 < (a1.size : Int)
         ·rw [if_pos c13] at H
          have c13b0 : decide (x10_2 < (a1.size : Int)) = true := decide_eq_true c13
          clear c13
          obtain ⟨ji14, hji14⟩ : ∃ j_ : Int, (wrap64 (x7_1 + x10_2)) = j_ := ⟨_, rfl⟩
          replace H : (if 0 ≤ (ji14) then (if (ji14) < (x6_2.length : Int) then ((z05_at.f a1 x10_2).bind fun t377 => (z05_Mul.l1 k2 a0 a1 (x6_2.set ((ji14) : Int).toNat ((wrap64 ((wrap64 (x8_2 + (wrap64 (rd x6_2 (ji14))))) + (wrap64 (t375 * t377)))) % 256)) x7_1 ((wrap64 ((wrap64 (x8_2 + (wrap64 (rd x6_2 (ji14))))) + (wrap64 (t375 * t377)))) / 256) t375 (wrap64 (x10_2 + 1)))) else (none)) else (none)) = some (r1, r2) := by first | (rw [hji14] at H; exact H) | (simp only [hji14] at H ⊢; exact H)
          have hji14w : (IntKind.i64.wrap (x7_1 + x10_2)) = ji14 := (i64_w _).trans hji14
          by_cases c15 : 0 ≤ (ji14)
          ·rw [if_pos c15] at H
           have c15b0 : decide (0 ≤ (ji14)) = true := decide_eq_true c15
           clear c15
           by_cases c16 : (ji14) < (x6_2.length : Int)
           ·rw [if_pos c16] at H
            have c16b0 : decide ((ji14) < (x6_2.length : Int)) = true := decide_eq_true c16
            clear c16
            replace H := Option.bind_eq_some_iff.mp H
            obtain ⟨t377, A170, H⟩ := H
            replace H : (z05_Mul.l1 k2 a0 a1 (x6_2.set ((ji14) : Int).toNat ((wrap64 ((wrap64 (x8_2 + (wrap64 (rd x6_2 (ji14))))) + (wrap64 (t375 * t377)))) % 256)) x7_1 ((wrap64 ((wrap64 (x8_2 + (wrap64 (rd x6_2 (ji14))))) + (wrap64 (t375 * t377)))) / 256) t375 (wrap64 (x10_2 + 1))) = some (r1, r2) := H
            have A17 := Aside0.mk A170
            clear A170
            obtain ⟨y378, hy378⟩ : ∃ y_ : List Int, y_ = (x6_2.set ((ji14) : Int).toNat ((wrap64 ((wrap64 (x8_2 + (wrap64 (rd x6_2 (ji14))))) + (wrap64 (t375 * t377)))) % 256)) := ⟨_, rfl⟩
            replace H : (z05_Mul.l1 k2 a0 a1 y378 x7_1 ((wrap64 ((wrap64 (x8_2 + (wrap64 (rd x6_2 (ji14))))) + (wrap64 (t375 * t377)))) / 256) t375 (wrap64 (x10_2 + 1))) = some (r1, r2) := by first | (rw [hy378]; with_reducible exact H) | (have H2_ := (Option.bind_some _ _).symm.trans H; rw [hy378]; with_reducible exact H2_) | (have H2_ := (Option.bind_some _ _).symm.trans H; with_reducible exact H2_) | with_reducible exact H | (rw [hy378]; exact H) | exact H
            have Ny378 := Aside0.mk hy378
            clear hy378
            have H' := Aside0.mk H
            clear H
            obtain ⟨Ao19, co19, eo19⟩ := Kd.R_slice HO_6.out
            subst eo19
            have p376 : 0 ≤ ((ji14) : Int) := of_decide_eq_true w4_
            have q376 : (ji14) < (x6_2.length : Int) := of_decide_eq_true w4_
            obtain ⟨ad376, e376, hx376_0⟩ := Kd.at_int (Kd.R_reads' HO_6.out).2.2 (ji14) p376 q376
            cases e376
            replace p376 := eq_true p376
            replace q376 := eq_true q376
            go_wp2
            repeat (go_quiet (first | (go_at_call 136; (with_reducible refine (z05_at.calls a1 x10_2 t377 _ A17.out).mono ?_); rintro e w' ⟨rfl, ⟨nd, rfl⟩⟩; (try first | exact ⟨rfl, _, World.drewN_drewN _ _ _⟩ | exact ⟨rfl, _, Eq.trans (World.drewN_drewN _ _ _) (congrArg (World.drewN _) (Nat.add_assoc _ _ _))⟩); have p18 : 0 ≤ ((ji14) : Int) := of_decide_eq_true w4_; have q18 : ((ji14) : Int) < ((x6_2.length : Int) : Int) := of_decide_eq_true w4_; obtain ⟨go18, co18, eo18, gb18, gl18, cl18, HG18⟩ := Kd.R_form HO_6.out (by omega); (first | cases eo18 | (injection eo18 with ea_ en_ ec_; (first | subst ea_ | (injection ea_ with ea_; subst ea_)); subst ec_; clear en_)); have GB18 := Aside0.mk gb18; have GG18 := Aside0.mk HG18; clear gb18 gl18 HG18; (first | simp only [add_plain] at hx376_0 | skip); obtain ⟨hx18_0, hf18_0⟩ := Kd.R_celln 0 HO_6.out ((ji14) : Int) p18 q18; replace p18 := eq_true p18; replace q18 := eq_true q18; obtain ⟨hy20_, hz20_⟩ := Kd.R_celln 0 HO_6.out ((ji14) : Int) (of_decide_eq_true w4_) (of_decide_eq_true w4_); have HP20 := Kd.R_putg HO_6.out ((ji14) : Int) ((wrap64 ((wrap64 (x8_2 + (wrap64 (rd x6_2 (ji14))))) + (wrap64 (t375 * t377)))) % 256)) | ((with_reducible refine gate_store (t := 5) (p := 67) rfl ?_); (try (rw [drewN_self wr]; generalize hq_ : World.drewN wr _ = wr; have n0_ := Aside0.mk (Kd.R_at hq_ HO_6.out); have n1_ := Aside0.mk (below_at hq_ HB.out); clear hq_ HO_6 HB; have HO_6 := n0_; have HB := n1_; clear n0_ n1_; (try (obtain ⟨hy20_, hz20_⟩ := Kd.R_celln 0 HO_6.out ((ji14) : Int) (of_decide_eq_true w4_) (of_decide_eq_true w4_))); (try (have HP20 := Kd.R_putg HO_6.out ((ji14) : Int) ((wrap64 ((wrap64 (x8_2 + (wrap64 (rd x6_2 (ji14))))) + (wrap64 (t375 * t377)))) % 256))))); refine store_event (t := 5) (p := 67) (v := ?vo_w21) (w1 := (wr.setCell ⟨go18, ((ji14) : Int).toNat, none⟩ (.int .u8 ((wrap64 ((wrap64 (x8_2 + (wrap64 (rd x6_2 (ji14))))) + (wrap64 (t375 * t377)))) % 256)))) ?hg ?ho ?hn ?hr ?_; (case ho => rfl); (case hg => rfl); (case hn => rfl); (case hr => first | (go_simp; done) | (go_simp; rfl)); intro w21 hw; have hg : wr.grownBy w21 (some go18) := (by rw [hw]; exact HP20.2); have hp_ : Kd.R (Kd.int .u8) 5 w21 w.heap.size (fun _ => True) (.slice (some ⟨go18, 0, none⟩) x6_2.length co19) y378 := (by rw [hw, Ny378.out]; exact HP20.1); clear HP20; have n0_ := Aside0.mk (hp_); have n1_ := Aside0.mk ((by rw [hw]; exact below_set (HB.out) GB18.out : Below w.heap.size w w21)); clear HO_6; clear HB; have HO_6 := n0_; have HB := n1_; clear n0_ n1_; clear hg hw hp_)); try go_wp2_with (first | (go_at_call 136; (with_reducible refine (z05_at.calls a1 x10_2 t377 _ A17.out).mono ?_); rintro e w' ⟨rfl, ⟨nd, rfl⟩⟩; (try first | exact ⟨rfl, _, World.drewN_drewN _ _ _⟩ | exact ⟨rfl, _, Eq.trans (World.drewN_drewN _ _ _) (congrArg (World.drewN _) (Nat.add_assoc _ _ _))⟩); have p18 : 0 ≤ ((ji14) : Int) := of_decide_eq_true w4_; have q18 : ((ji14) : Int) < ((x6_2.length : Int) : Int) := of_decide_eq_true w4_; obtain ⟨go18, co18, eo18, gb18, gl18, cl18, HG18⟩ := Kd.R_form HO_6.out (by omega); (first | cases eo18 | (injection eo18 with ea_ en_ ec_; (first | subst ea_ | (injection ea_ with ea_; subst ea_)); subst ec_; clear en_)); have GB18 := Aside0.mk gb18; have GG18 := Aside0.mk HG18; clear gb18 gl18 HG18; (first | simp only [add_plain] at hx376_0 | skip); obtain ⟨hx18_0, hf18_0⟩ := Kd.R_celln 0 HO_6.out ((ji14) : Int) p18 q18; replace p18 := eq_true p18; replace q18 := eq_true q18; obtain ⟨hy20_, hz20_⟩ := Kd.R_celln 0 HO_6.out ((ji14) : Int) (of_decide_eq_true w4_) (of_decide_eq_true w4_); have HP20 := Kd.R_putg HO_6.out ((ji14) : Int) ((wrap64 ((wrap64 (x8_2 + (wrap64 (rd x6_2 (ji14))))) + (wrap64 (t375 * t377)))) % 256)) | ((with_reducible refine gate_store (t := 5) (p := 67) rfl ?_); (try (rw [drewN_self wr]; generalize hq_ : World.drewN wr _ = wr; have n0_ := Aside0.mk (Kd.R_at hq_ HO_6.out); have n1_ := Aside0.mk (below_at hq_ HB.out); clear hq_ HO_6 HB; have HO_6 := n0_; have HB := n1_; clear n0_ n1_; (try (obtain ⟨hy20_, hz20_⟩ := Kd.R_celln 0 HO_6.out ((ji14) : Int) (of_decide_eq_true w4_) (of_decide_eq_true w4_))); (try (have HP20 := Kd.R_putg HO_6.out ((ji14) : Int) ((wrap64 ((wrap64 (x8_2 + (wrap64 (rd x6_2 (ji14))))) + (wrap64 (t375 * t377)))) % 256))))); refine store_event (t := 5) (p := 67) (v := ?vo_w21) (w1 := (wr.setCell ⟨go18, ((ji14) : Int).toNat, none⟩ (.int .u8 ((wrap64 ((wrap64 (x8_2 + (wrap64 (rd x6_2 (ji14))))) + (wrap64 (t375 * t377)))) % 256)))) ?hg ?ho ?hn ?hr ?_; (case ho => rfl); (case hg => rfl); (case hn => rfl); (case hr => first | (go_simp; done) | (go_simp; rfl)); intro w21 hw; have hg : wr.grownBy w21 (some go18) := (by rw [hw]; exact HP20.2); have hp_ : Kd.R (Kd.int .u8) 5 w21 w.heap.size (fun _ => True) (.slice (some ⟨go18, 0, none⟩) x6_2.length co19) y378 := (by rw [hw, Ny378.out]; exact HP20.1); clear HP20; have n0_ := Aside0.mk (hp_); have n1_ := Aside0.mk ((by rw [hw]; exact below_set (HB.out) GB18.out : Below w.heap.size w w21)); clear HO_6; clear HB; have HO_6 := n0_; have HB := n1_; clear n0_ n1_; clear hg hw hp_)))
            go_roundg k2
            case measure => have := HK1.out; have := HK2.out; omega
            case rel => exact ⟨(y378), ((wrap64 ((wrap64 (x8_2 + (wrap64 (rd x6_2 (ji14))))) + (wrap64 (t375 * t377)))) / 256), (wrap64 (x10_2 + 1)), (by first | rfl | (simp; done) | (simp only [← hji14] <;> (first | rfl | simp)) | (simp [*]; done)), w1_, H', ⟨by have := HK1.out; have := HK2.out; omega⟩, ⟨by (with_reducible repeat (first | apply Kd.R_alloc | apply Kd.R_drewN | apply Kd.R_drew)); exact HO_6.out⟩, ⟨by repeat (first | (with_reducible first | exact HB.out | apply below_alloc | apply pw_below_drewN | apply below_drew1) | exact HB.out)⟩⟩
           ·rw [if_neg c16] at H
            exact absurd H (by simp)
          ·rw [if_neg c15] at H
           exact absurd H (by simp)
         ·rw [if_neg c13] at H
          have c13b0 : decide (x10_2 < (a1.size : Int)) = false := decide_eq_false c13
          clear c13
          have H' := Aside0.mk H
          clear H
          go_wp2
          repeat (go_quiet (fail); try go_wp2)
          go_loopg [8, 11] k2 (fun kq v8 v11 w' => ∃ (x6_3 : List Int) (x8_3 : Int) (x11_3 : Int), v8 = .int .i64 x8_3 ∧ v11 = .int .i64 x11_3 ∧ Aside0 (z05_Mul.l2 kq a0 a1 x6_3 x7_1 x8_3 x11_3 = some (r1, r2)) ∧ Aside0 (kq ≤ k2) ∧ Aside0 (Kd.R (Kd.int .u8) 5 w' w.heap.size (fun _ => True) v370 x6_3) ∧ Aside0 (Below w.heap.size w w'))
          case atStart => exact ⟨(x6_2), (x8_2), (wrap64 (x7_1 + (a1.size : Int))), w1_, w1_, H', ⟨Nat.le_refl _⟩, ⟨by (with_reducible repeat (first | apply Kd.R_alloc | apply Kd.R_drewN | apply Kd.R_drew)); exact HO_6.out⟩, ⟨by repeat (first | (with_reducible first | exact HB.out | apply below_alloc | apply pw_below_drewN | apply below_drew1) | exact HB.out)⟩⟩
          case round =>
           clear H'
           try clear c1
           try clear p1
           try clear q1
           try clear hx1
           try clear p2
           try clear c3
           try clear c3b0
           try clear p3
           try clear q3
           try clear hx3
           try clear c4
           try clear c4b0
           try clear c4b1
           try clear c5
           try clear c5b0
           try clear c5b1
           try clear p6
           try clear c7
           try clear c7b0
           try clear c7b1
           try clear c8
           try clear c8b0
           try clear c8b1
           try clear c11
           try clear c11b0
           try clear c13
           try clear c13b0
           try clear c15
           try clear c15b0
           try clear c16
           try clear c16b0
           try clear c17
           try clear p18
           try clear q18
           try clear hx18
           try clear hf18
           try clear hx18_0
           try clear hx376_0
           try clear p18
           try clear p2
           try clear p376
           try clear p6
           try clear q18
           try clear q376
           obtain ⟨x6_3, x8_3, x11_3, rfl, rfl, HA, HK3, HO_6, HB⟩ := hrel
           cases gk with
           | zero => exact absurd HA.out (by simp [z05_Mul.l2])
           | succ k3 =>
            have H := HA.out
            clear HA
            simp only [z05_Mul.l2] at H
            by_cases c22 : x8_3 > 0
            ·rw [if_pos c22] at H
             have c22b0 : decide (0 < x8_3) = true := decide_eq_true c22
             clear c22
             by_cases c23 : 0 ≤ x11_3
             ·rw [if_pos c23] at H
              have c23b0 : decide (0 ≤ x11_3) = true := decide_eq_true c23
              clear c23
              by_cases c24 : x11_3 < (x6_3.length : Int)
              ·rw [if_pos c24] at H
               have c24b0 : decide (x11_3 < (x6_3.length : Int)) = true := decide_eq_true c24
               clear c24
               obtain ⟨y380, hy380⟩ : ∃ y_ : List Int, y_ = (x6_3.set (x11_3 : Int).toNat ((wrap64 (x8_3 + (wrap64 (rd x6_3 x11_3)))) % 256)) := ⟨_, rfl⟩
               replace H : (z05_Mul.l2 k3 a0 a1 y380 x7_1 ((wrap64 (x8_3 + (wrap64 (rd x6_3 x11_3)))) / 256) (wrap64 (x11_3 + 1))) = some (r1, r2) := by first | (rw [hy380]; with_reducible exact H) | (have H2_ := (Option.bind_some _ _).symm.trans H; rw [hy380]; with_reducible exact H2_) | (have H2_ := (Option.bind_some _ _).symm.trans H; with_reducible exact H2_) | with_reducible exact H | (rw [hy380]; exact H) | exact H
               have Ny380 := Aside0.mk hy380
               clear hy380
               have H' := Aside0.mk H
               clear H
               obtain ⟨Ao26, co26, eo26⟩ := Kd.R_slice HO_6.out
               subst eo26
               have p379 : 0 ≤ (x11_3 : Int) := of_decide_eq_true w4_
               have q379 : x11_3 < (x6_3.length : Int) := of_decide_eq_true w4_
               obtain ⟨ad379, e379, hx379_0⟩ := Kd.at_int (Kd.R_reads' HO_6.out).2.2 x11_3 p379 q379
               cases e379
               replace p379 := eq_true p379
               replace q379 := eq_true q379
               have p25 : 0 ≤ (x11_3 : Int) := of_decide_eq_true w4_
               have q25 : (x11_3 : Int) < ((x6_3.length : Int) : Int) := of_decide_eq_true w4_
               obtain ⟨go25, co25, eo25, gb25, gl25, cl25, HG25⟩ := Kd.R_form HO_6.out (by omega)
               (first | cases eo25 | (injection eo25 with ea_ en_ ec_; (first | subst ea_ | (injection ea_ with ea_; subst ea_)); subst ec_; clear en_))
               have GB25 := Aside0.mk gb25
               have GG25 := Aside0.mk HG25
               clear gb25 gl25 HG25
               (first | simp only [add_plain] at hx379_0 | skip)
               obtain ⟨hx25_0, hf25_0⟩ := Kd.R_celln 0 HO_6.out (x11_3 : Int) p25 q25
               replace p25 := eq_true p25
               replace q25 := eq_true q25
               have HP27 := Kd.R_putg HO_6.out (x11_3 : Int) ((wrap64 (x8_3 + (wrap64 (rd x6_3 x11_3)))) % 256)
               go_wp2_with (first | ((with_reducible refine gate_store (t := 5) (p := 89) rfl ?_); (try (rw [drewN_self wr]; generalize hq_ : World.drewN wr _ = wr; have n0_ := Aside0.mk (Kd.R_at hq_ HO_6.out); have n1_ := Aside0.mk (below_at hq_ HB.out); clear hq_ HO_6 HB; have HO_6 := n0_; have HB := n1_; clear n0_ n1_; (try (have HP27 := Kd.R_putg HO_6.out (x11_3 : Int) ((wrap64 (x8_3 + (wrap64 (rd x6_3 x11_3)))) % 256))))); refine store_event (t := 5) (p := 89) (v := ?vo_w28) (w1 := (wr.setCell ⟨go25, (x11_3 : Int).toNat, none⟩ (.int .u8 ((wrap64 (x8_3 + (wrap64 (rd x6_3 x11_3)))) % 256)))) ?hg ?ho ?hn ?hr ?_; (case ho => rfl); (case hg => rfl); (case hn => rfl); (case hr => first | (go_simp; done) | (go_simp; rfl)); intro w28 hw; have hg : wr.grownBy w28 (some go25) := (by rw [hw]; exact HP27.2); have hp_ : Kd.R (Kd.int .u8) 5 w28 w.heap.size (fun _ => True) (.slice (some ⟨go25, 0, none⟩) x6_3.length co26) y380 := (by rw [hw, Ny380.out]; exact HP27.1); clear HP27; have n0_ := Aside0.mk (hp_); have n1_ := Aside0.mk ((by rw [hw]; exact below_set (HB.out) GB25.out : Below w.heap.size w w28)); clear HO_6; clear HB; have HO_6 := n0_; have HB := n1_; clear n0_ n1_; clear hg hw hp_))
               go_roundg k3
               case measure => have := HK1.out; have := HK2.out; have := HK3.out; omega
               case rel => exact ⟨(y380), ((wrap64 (x8_3 + (wrap64 (rd x6_3 x11_3)))) / 256), (wrap64 (x11_3 + 1)), w1_, w1_, H', ⟨by have := HK1.out; have := HK2.out; have := HK3.out; omega⟩, ⟨by (with_reducible repeat (first | apply Kd.R_alloc | apply Kd.R_drewN | apply Kd.R_drew)); exact HO_6.out⟩, ⟨by repeat (first | (with_reducible first | exact HB.out | apply below_alloc | apply pw_below_drewN | apply below_drew1) | exact HB.out)⟩⟩
              ·rw [if_neg c24] at H
               exact absurd H (by simp)
             ·rw [if_neg c23] at H
              exact absurd H (by simp)
            ·rw [if_neg c22] at H
             have c22b0 : decide (0 < x8_3) = false := decide_eq_false c22
             clear c22
             have H' := Aside0.mk H
             clear H
             go_wp2
             repeat (go_quiet (fail); try go_wp2)
             go_roundg k3
             case measure => have := HK1.out; have := HK2.out; have := HK3.out; omega
             case rel => exact ⟨(x6_3), (wrap64 (x7_1 + 1)), w1_, H', ⟨by have := HK1.out; have := HK2.out; have := HK3.out; omega⟩, ⟨by (with_reducible repeat (first | apply Kd.R_alloc | apply Kd.R_drewN | apply Kd.R_drew)); exact HO_6.out⟩, ⟨by repeat (first | (with_reducible first | exact HB.out | apply below_alloc | apply pw_below_drewN | apply below_drew1) | exact HB.out)⟩⟩
      ·rw [if_neg c11] at H
       have c11b0 : decide (x7_1 < (a0.size : Int)) = false := decide_eq_false c11
       clear c11
       replace H := Option.bind_eq_some_iff.mp H
       obtain ⟨t372, A290, H⟩ := H
       replace H : ((z05_long.f t372).bind fun bt373 => (some (bt373.1, bt373.2))) = some (r1, r2) := H
       have A29 := Aside0.mk A290
       clear A290
       replace H := Option.bind_eq_some_iff.mp H
       obtain ⟨⟨t373, t374⟩, A300, H⟩ := H
       replace H : (some (t373, t374)) = some (r1, r2) := H
       have A30 := Aside0.mk A300
       clear A300
       simp only [Option.some.injEq, Prod.mk.injEq] at H
       obtain ⟨rfl, rfl⟩ := H
       obtain ⟨Ao31, co31, eo31⟩ := Kd.R_slice HO_6.out
       subst eo31
       go_wp2_with (first | (go_at_call 134; (with_reducible refine (z05_fit.calls k1 _ _ x6_1 t372 _ ?side1 ?side2 A29.out).mono ?_); (case side1 => repeat (first | exact (Kd.R_reads' HO_6.out).2.2 | (with_reducible refine Kd.C_alloc ?_ _) | (with_reducible refine Kd.C_drewN ?_ _) | (with_reducible refine Kd.C_drew ?_))); (case side2 => exact (Kd.R_reads' HO_6.out).2.1); rintro e w32 ⟨rfl, hb⟩; have n0_ := Aside0.mk (Kd.R_below w8_ hb); have n1_ := Aside0.mk (below_step w5_ hb); clear HO_6; clear HB; have HO_6 := n0_; have HB := n1_; clear n0_ n1_; (try clear hb); (try clear hb2); (try clear hk); (try clear hi)) | (go_at_call 199; (with_reducible refine (z05_long.calls t372 t373 t374 _ A30.out).mono ?_); rintro e w' ⟨rfl, ⟨nd, rfl⟩⟩; (try first | exact ⟨rfl, _, World.drewN_drewN _ _ _⟩ | exact ⟨rfl, _, Eq.trans (World.drewN_drewN _ _ _) (congrArg (World.drewN _) (Nat.add_assoc _ _ _))⟩)))
       go_ret2
       exact ⟨by first | rfl | (simp [errW_none, errW_some] <;> rfl) | (simp only [← hji6]; first | rfl | (simp [errW_none, errW_some] <;> rfl)) | (simp [*, errW_none, errW_some] <;> rfl), by repeat (first | (with_reducible first | exact HB.out | apply below_alloc | apply pw_below_drewN | apply below_drew1) | exact HB.out)⟩
   ·rw [if_neg c8] at H
    exact absurd H (by simp)
  ·rw [if_neg c7] at H
   exact absurd H (by simp)
end Go.Proofs.YtgmhmpflmgfcdaaGreatDoor.PDivQuotients
