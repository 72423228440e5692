/- Part 28 of the proof. -/
import Derived.Test.YtgmhmpflmgfcdaaGreatDoorHq0
import Derived.Test.YtgmhmpflmgfcdaaGreatDoorHq22
import Derived.Test.YtgmhmpflmgfcdaaGreatDoorHq24
import Derived.Test.YtgmhmpflmgfcdaaGreatDoorHq25
import Derived.Test.YtgmhmpflmgfcdaaGreatDoorHq26
import Derived.Test.YtgmhmpflmgfcdaaGreatDoorHq27
namespace Go.Proofs.YtgmhmpflmgfcdaaGreatDoor.PDivQuotients
open Go.RowKit Go.Proofs.YtgmhmpflmgfcdaaGreatDoorW.PrintWords Go.Proofs.YtgmhmpflmgfcdaaGreatDoorW.PrintLast Go.Proofs.YtgmhmpflmgfcdaaGreatDoorW.PrintMore
attribute [local go_sem] max2_int min2_int max_two min_two max_three min_three max_four min_four   -- for this text's walks alone
set_option linter.unusedVariables false
set_option linter.unusedSimpArgs false
mutual
def z05_Left.j0 : Nat → ByteArray → Int → Bool → Option (ByteArray × Int)
 | 0, _, _, _ => none
 | k + 1, x0, x1, x21 => if x21 = true then (some ((⟨#[]⟩ : ByteArray), 4)) else (if 0 ≤ (wrap64 ((wrap64 ((x0.size : Int) + (wrap64 (Int.tdiv x1 8)))) + 1)) then (if (wrap64 ((wrap64 ((x0.size : Int) + (wrap64 (Int.tdiv x1 8)))) + 1) : Int).toNat ≤ 281474976710656 then (z05_Left.l0 k x0 x1 (List.replicate (wrap64 ((wrap64 ((x0.size : Int) + (wrap64 (Int.tdiv x1 8)))) + 1) : Int).toNat 0) 0) else (none)) else (none))
def z05_Left.l0 : Nat → ByteArray → Int → List Int → Int → Option (ByteArray × Int)
 | 0, _, _, _, _ => none
 | k + 1, x0, x1, x6, x7 => if x7 < (x0.size : Int) then ((z05_at.f x0 x7).bind fun t236 => (if 0 ≤ (IntKind.u64.wrap (Int.tmod x1 8)) then (if 0 ≤ (wrap64 (x7 + (wrap64 (Int.tdiv x1 8)))) then (if (wrap64 (x7 + (wrap64 (Int.tdiv x1 8)))) < (x6.length : Int) then (if 0 ≤ (wrap64 ((wrap64 (x7 + (wrap64 (Int.tdiv x1 8)))) + 1)) then (if (wrap64 ((wrap64 (x7 + (wrap64 (Int.tdiv x1 8)))) + 1)) < (x6.length : Int) then (z05_Left.l0 k x0 x1 ((x6.set ((wrap64 (x7 + (wrap64 (Int.tdiv x1 8)))) : Int).toNat (Go.bits .or .u8 (rd x6 (wrap64 (x7 + (wrap64 (Int.tdiv x1 8))))) ((shl .i64 t236 (IntKind.u64.wrap (Int.tmod x1 8))) % 256))).set ((wrap64 ((wrap64 (x7 + (wrap64 (Int.tdiv x1 8)))) + 1)) : Int).toNat (((shl .i64 t236 (IntKind.u64.wrap (Int.tmod x1 8))) / 256) % 256)) (wrap64 (x7 + 1))) else (none)) else (none)) else (none)) else (none)) else (none))) else ((z05_fit.f k x6).bind fun t240 => (some (t240, 0)))
end
def z05_Left.f (k : Nat) (a0 : ByteArray) (a1 : Int) : Option (ByteArray × Int) := if a1 < 0 then (some ((⟨#[]⟩ : ByteArray), 2)) else (if a0.toList = ([] : List UInt8) then (some ((⟨#[]⟩ : ByteArray), 0)) else (if a1 > 131072 then (z05_Left.j0 k a0 a1 true) else ((z05_Len.f k a0).bind fun t232 => (z05_Left.j0 k a0 a1 (decide ((wrap64 (t232 + a1)) > 131072))))))
set_option maxHeartbeats 8000000 in
set_option maxRecDepth 100000 in
theorem z05_Left.calls (k : Nat) (a0 : ByteArray) (a1 : Int) (r1 : ByteArray) (r2 : Int) (w : World) (h : z05_Left.f k a0 a1 = some (r1, r2)) :
  Calls Tryz.prog 196 #[.string a0, .int .i64 a1] w fun e w' => e = .returned (.tuple #[.string r1, .int .i64 r2]) ∧ Below w.heap.size w w' := by
 have HB := Aside0.mk (Below.refl w.heap.size w)
 have H : (if a1 < 0 then (some ((⟨#[]⟩ : ByteArray), 2)) else (if a0.toList = ([] : List UInt8) then (some ((⟨#[]⟩ : ByteArray), 0)) else (if a1 > 131072 then (z05_Left.j0 k a0 a1 true) else ((z05_Len.f k a0).bind fun t232 => (z05_Left.j0 k a0 a1 (decide ((wrap64 (t232 + a1)) > 131072))))))) = some (r1, r2) := h
 clear h
 by_cases c3 : a1 < 0
 ·rw [if_pos c3] at H
  have c3b0 : decide (a1 < 0) = true := decide_eq_true c3
  clear c3
  simp only [Option.some.injEq, Prod.mk.injEq] at H
  obtain ⟨rfl, rfl⟩ := H
  go_enter Tryz.func196, Tryz.ntmps196
  go_wp2
  go_ret2
  exact ⟨by first | rfl | (simp [errW_none, errW_some] <;> rfl) | (simp [*, errW_none, errW_some] <;> rfl), by repeat (first | (with_reducible first | exact HB.out | apply below_alloc | apply pw_below_drewN | apply below_drew1) | exact HB.out)⟩
 ·rw [if_neg c3] at H
  have c3b0 : decide (a1 < 0) = false := decide_eq_false c3
  clear c3
  by_cases c4 : a0.toList = ([] : List UInt8)
  ·rw [if_pos c4] at H
   have c4b0 : (a0.toList == ([] : List UInt8)) = true := beq_iff_eq.mpr c4
   have c4b1 : (a0.toList != ([] : List UInt8)) = false := bne_eq_false_iff_eq.mpr c4
   clear c4
   simp only [Option.some.injEq, Prod.mk.injEq] at H
   obtain ⟨rfl, rfl⟩ := H
   go_enter Tryz.func196, Tryz.ntmps196
   go_wp2
   go_ret2
   exact ⟨by first | rfl | (simp [errW_none, errW_some] <;> rfl) | (simp [*, errW_none, errW_some] <;> rfl), by repeat (first | (with_reducible first | exact HB.out | apply below_alloc | apply pw_below_drewN | apply below_drew1) | exact HB.out)⟩
  ·rw [if_neg c4] at H
   have c4b0 : (a0.toList == ([] : List UInt8)) = false := beq_eq_false_iff_ne.mpr c4
   have c4b1 : (a0.toList != ([] : List UInt8)) = true := bne_iff_ne.mpr c4
   have HC5 := Aside0.mk H
   clear H
   go_enter Tryz.func196, Tryz.ntmps196
   go_upto_region 5 with (fail)
   go_cut [21] (fun v21 wc => ∃ (kq : Nat) (x21_4 : Bool), v21 = .bool x21_4 ∧ Aside0 (z05_Left.j0 kq a0 a1 x21_4 = some (r1, r2)) ∧ Aside0 (kq ≤ k) ∧ Aside0 (Below w.heap.size w wc))
   case first =>
    have H := HC5.out
    clear HC5
    by_cases c6 : a1 > 131072
    ·rw [if_pos c6] at H
     have c6b0 : decide (131072 < a1) = true := decide_eq_true c6
     clear c6
     (first | rw [c6b0] | (simp only [i64_w, i32_w]; rw [c6b0]) | skip)
     (try rw [c6b1])
     have H' := Aside0.mk H
     clear H
     go_wp2
     go_meet
     case rel => exact ⟨_, (true), w1_, H', ⟨by first | omega | exact Nat.le_refl _⟩, ⟨by repeat (first | (with_reducible first | exact HB.out | apply below_alloc | apply pw_below_drewN | apply below_drew1) | exact HB.out)⟩⟩
    ·rw [if_neg c6] at H
     have c6b0 : decide (131072 < a1) = false := decide_eq_false c6
     clear c6
     (first | rw [c6b0] | (simp only [i64_w, i32_w]; rw [c6b0]) | skip)
     (try rw [c6b1])
     replace H := Option.bind_eq_some_iff.mp H
     obtain ⟨t232, A70, H⟩ := H
     replace H : (z05_Left.j0 k a0 a1 (decide ((wrap64 (t232 + a1)) > 131072))) = some (r1, r2) := H
     have A7 := Aside0.mk A70
     clear A70
     have H' := Aside0.mk H
     clear H
     go_wp2_with (first | (go_at_call 203; (with_reducible refine (z05_Len.calls k a0 t232 _ A7.out).mono ?_); rintro e w' ⟨rfl, ⟨nd, rfl⟩⟩))
     go_meet
     case rel => exact ⟨_, (decide ((wrap64 (t232 + a1)) > 131072)), w1_, H', ⟨by first | omega | exact Nat.le_refl _⟩, ⟨by repeat (first | (with_reducible first | exact HB.out | apply below_alloc | apply pw_below_drewN | apply below_drew1) | exact HB.out)⟩⟩
   case rest =>
    clear HC5
    try clear c1
    try clear p2
    try clear c3
    try clear c3b0
    try clear c4
    try clear c4b0
    try clear c4b1
    try clear c6
    try clear c6b0
    try clear p6
    obtain ⟨kq, x21_4, rfl, HA, HJ4, HB⟩ := hcut
    cases kq with
    | zero => exact absurd HA.out (by simp [z05_Left.j0])
    | succ kj4 =>
     have H := HA.out
     clear HA
     simp only [z05_Left.j0] at H
     by_cases c8 : x21_4 = true
     ·subst c8
      have H1 : (some ((⟨#[]⟩ : ByteArray), 4)) = some (r1, r2) := by rw [if_pos rfl] at H; exact H
      clear H
      have H := H1
      clear H1
      simp only [Option.some.injEq, Prod.mk.injEq] at H
      obtain ⟨rfl, rfl⟩ := H
      go_wp2
      go_ret2
      exact ⟨by first | rfl | (simp [errW_none, errW_some] <;> rfl) | (simp [*, errW_none, errW_some] <;> rfl), by repeat (first | (with_reducible first | exact HB.out | apply below_alloc | apply pw_below_drewN | apply below_drew1) | exact HB.out)⟩
     ·replace c8 := Bool.eq_false_iff.mpr c8
      subst c8
      have H1 : (if 0 ≤ (wrap64 ((wrap64 ((a0.size : Int) + (wrap64 (Int.tdiv a1 8)))) + 1)) then (if (wrap64 ((wrap64 ((a0.size : Int) + (wrap64 (Int.tdiv a1 8)))) + 1) : Int).toNat ≤ 281474976710656 then (z05_Left.l0 kj4 a0 a1 (List.replicate (wrap64 ((wrap64 ((a0.size : Int) + (wrap64 (Int.tdiv a1 8)))) + 1) : Int).toNat 0) 0) else (none)) else (none)) = some (r1, r2) := by rw [if_neg (show ¬ (false = true) by decide)] at H; exact H
      clear H
      have H := H1
      clear H1
      obtain ⟨ji9, hji9⟩ : ∃ j_ : Int, (wrap64 ((wrap64 ((a0.size : Int) + (wrap64 (Int.tdiv a1 8)))) + 1)) = j_ := ⟨_, rfl⟩
      replace H : (if 0 ≤ (ji9) then (if (ji9 : Int).toNat ≤ 281474976710656 then (z05_Left.l0 kj4 a0 a1 (List.replicate (ji9 : Int).toNat 0) 0) else (none)) else (none)) = some (r1, r2) := by first | (rw [hji9] at H; exact H) | (simp only [hji9] at H ⊢; exact H)
      have hji9w : (IntKind.i64.wrap ((wrap64 ((a0.size : Int) + (wrap64 (Int.tdiv a1 8)))) + 1)) = ji9 := (i64_w _).trans hji9
      by_cases c10 : 0 ≤ (ji9)
      ·rw [if_pos c10] at H
       have c10b0 := eq_true c10
       have c10b1 : decide (0 ≤ (ji9)) = true := decide_eq_true c10
       clear c10
       by_cases c11 : (ji9 : Int).toNat ≤ 281474976710656
       ·rw [if_pos c11] at H
        have c11b0 := eq_true c11
        have c11b1 : decide ((ji9 : Int).toNat ≤ 281474976710656) = true := decide_eq_true c11
        clear c11
        obtain ⟨y233, hy233⟩ : ∃ y_ : List Int, y_ = (List.replicate (ji9 : Int).toNat 0) := ⟨_, rfl⟩
        replace H : (z05_Left.l0 kj4 a0 a1 y233 0) = some (r1, r2) := by first | (rw [hy233]; with_reducible exact H) | (have H2_ := (Option.bind_some _ _).symm.trans H; rw [hy233]; with_reducible exact H2_) | (have H2_ := (Option.bind_some _ _).symm.trans H; with_reducible exact H2_) | with_reducible exact H | (rw [hy233]; exact H) | exact H
        have Ny233 := Aside0.mk hy233
        clear hy233
        have H' := Aside0.mk H
        clear H
        go_wp2_with (first | ((with_reducible refine gate_dst (N := 28) rfl ?_); refine Kd.R_make (Kd.int .u8) _ 5 rfl (N := 28) rfl 143 _ _ rfl ji9 rfl rfl Tryz.underlying143 (.int .u8 0) 1 info5 rfl (by decide) (by omega) 0 (ok := fun _ => True) (okp := fun _ => True) rfl (fun _ hk => hk) trivial (of_decide_eq_true w4_) (Nat.le_trans (Nat.mul_le_mul_right _ (of_decide_eq_true w4_ : ji9.toNat ≤ 281474976710656)) (by omega)) (Below.refl _ _) (Nat.le_refl _) ?_; intro v234 w12 ho13 hb hg_ hnew_; clear hg_ hnew_; (first | rw [← Ny233.out] at ho13 | (simp only [Int.reduceToNat] at ho13; rw [← Ny233.out] at ho13)); have n0_ := Aside0.mk (Kd.R_lower ho13 (below_size w5_)); have n1_ := Aside0.mk (below_step w5_ hb); clear HB; have HO235 := n0_; have HB := n1_; clear n0_ n1_; clear hb ho13))
        go_loopg [7] kj4 (fun kq v7 w' => ∃ (x6_2 : List Int) (x7_2 : Int), v7 = .int .i64 x7_2 ∧ Aside0 (z05_Left.l0 kq a0 a1 x6_2 x7_2 = some (r1, r2)) ∧ Aside0 (kq ≤ kj4) ∧ Aside0 (Kd.R (Kd.int .u8) 5 w' w.heap.size (fun _ => True) v234 x6_2) ∧ Aside0 (Below w.heap.size w w'))
        case atStart => exact ⟨(y233), (0), w1_, H', ⟨Nat.le_refl _⟩, ⟨by (with_reducible repeat (first | apply Kd.R_alloc | apply Kd.R_drewN | apply Kd.R_drew)); exact HO235.out⟩, ⟨by repeat (first | (with_reducible first | exact HB.out | apply below_alloc | apply pw_below_drewN | apply below_drew1) | exact HB.out)⟩⟩
        case round =>
         clear H'
         try clear c1
         try clear p2
         try clear c3
         try clear c3b0
         try clear c4
         try clear c4b0
         try clear c4b1
         try clear c6
         try clear c6b0
         try clear p6
         try clear c8
         try clear c10
         try clear c10b0
         try clear c10b1
         try clear c11
         try clear c11b0
         try clear c11b1
         try clear p2
         try clear p6
         obtain ⟨x6_2, x7_2, rfl, HA, HK2, HO_6, HB⟩ := hrel
         cases gk with
         | zero => exact absurd HA.out (by simp [z05_Left.l0])
         | succ k2 =>
          have H := HA.out
          clear HA
          simp only [z05_Left.l0] at H
          by_cases c14 : x7_2 < (a0.size : Int)
          ·rw [if_pos c14] at H
           have c14b0 : decide (x7_2 < (a0.size : Int)) = true := decide_eq_true c14
           clear c14
           replace H := Option.bind_eq_some_iff.mp H
           obtain ⟨t236, A150, H⟩ := H
           replace H : (if 0 ≤ (IntKind.u64.wrap (Int.tmod a1 8)) then (if 0 ≤ (wrap64 (x7_2 + (wrap64 (Int.tdiv a1 8)))) then (if (wrap64 (x7_2 + (wrap64 (Int.tdiv a1 8)))) < (x6_2.length : Int) then (if 0 ≤ (wrap64 ((wrap64 (x7_2 + (wrap64 (Int.tdiv a1 8)))) + 1)) then (if (wrap64 ((wrap64 (x7_2 + (wrap64 (Int.tdiv a1 8)))) + 1)) < (x6_2.length : Int) then (z05_Left.l0 k2 a0 a1 ((x6_2.set ((wrap64 (x7_2 + (wrap64 (Int.tdiv a1 8)))) : Int).toNat (Go.bits .or .u8 (rd x6_2 (wrap64 (x7_2 + (wrap64 (Int.tdiv a1 8))))) ((shl .i64 t236 (IntKind.u64.wrap (Int.tmod a1 8))) % 256))).set ((wrap64 ((wrap64 (x7_2 + (wrap64 (Int.tdiv a1 8)))) + 1)) : Int).toNat (((shl .i64 t236 (IntKind.u64.wrap (Int.tmod a1 8))) / 256) % 256)) (wrap64 (x7_2 + 1))) else (none)) else (none)) else (none)) else (none)) else (none)) = some (r1, r2) := H
           have A15 := Aside0.mk A150
           clear A150
           obtain ⟨ji16, hji16⟩ : ∃ j_ : Int, (IntKind.u64.wrap (Int.tmod a1 8)) = j_ := ⟨_, rfl⟩
           replace H : (if 0 ≤ (ji16) then (if 0 ≤ (wrap64 (x7_2 + (wrap64 (Int.tdiv a1 8)))) then (if (wrap64 (x7_2 + (wrap64 (Int.tdiv a1 8)))) < (x6_2.length : Int) then (if 0 ≤ (wrap64 ((wrap64 (x7_2 + (wrap64 (Int.tdiv a1 8)))) + 1)) then (if (wrap64 ((wrap64 (x7_2 + (wrap64 (Int.tdiv a1 8)))) + 1)) < (x6_2.length : Int) then (z05_Left.l0 k2 a0 a1 ((x6_2.set ((wrap64 (x7_2 + (wrap64 (Int.tdiv a1 8)))) : Int).toNat (Go.bits .or .u8 (rd x6_2 (wrap64 (x7_2 + (wrap64 (Int.tdiv a1 8))))) ((shl .i64 t236 (ji16)) % 256))).set ((wrap64 ((wrap64 (x7_2 + (wrap64 (Int.tdiv a1 8)))) + 1)) : Int).toNat (((shl .i64 t236 (ji16)) / 256) % 256)) (wrap64 (x7_2 + 1))) else (none)) else (none)) else (none)) else (none)) else (none)) = some (r1, r2) := by first | (rw [hji16] at H; exact H) | (simp only [hji16] at H ⊢; exact H)
           (try rw [hji16] at A15)
           by_cases c17 : 0 ≤ (ji16)
           ·rw [if_pos c17] at H
            have c17b0 := eq_true c17
            have c17b1 : decide (0 ≤ (ji16)) = true := decide_eq_true c17
            clear c17
            obtain ⟨ji18, hji18⟩ : ∃ j_ : Int, (shl .i64 t236 (ji16)) = j_ := ⟨_, rfl⟩
            replace H : (if 0 ≤ (wrap64 (x7_2 + (wrap64 (Int.tdiv a1 8)))) then (if (wrap64 (x7_2 + (wrap64 (Int.tdiv a1 8)))) < (x6_2.length : Int) then (if 0 ≤ (wrap64 ((wrap64 (x7_2 + (wrap64 (Int.tdiv a1 8)))) + 1)) then (if (wrap64 ((wrap64 (x7_2 + (wrap64 (Int.tdiv a1 8)))) + 1)) < (x6_2.length : Int) then (z05_Left.l0 k2 a0 a1 ((x6_2.set ((wrap64 (x7_2 + (wrap64 (Int.tdiv a1 8)))) : Int).toNat (Go.bits .or .u8 (rd x6_2 (wrap64 (x7_2 + (wrap64 (Int.tdiv a1 8))))) ((ji18) % 256))).set ((wrap64 ((wrap64 (x7_2 + (wrap64 (Int.tdiv a1 8)))) + 1)) : Int).toNat (((ji18) / 256) % 256)) (wrap64 (x7_2 + 1))) else (none)) else (none)) else (none)) else (none)) = some (r1, r2) := by first | (rw [hji18] at H; exact H) | (simp only [hji18] at H ⊢; exact H)
            (try rw [hji18] at A15)
            have hji18_ : (IntKind.i64.wrap (t236 * 2 ^ min (ji16).toNat 64)) = ji18 := hji18
            have hji18z : (ji16) ≤ 64 → (IntKind.i64.wrap (t236 * 2 ^ (ji16).toNat)) = ji18 := shl_small hji18
            have hji18y : (wrap64 (t236 * 2 ^ min (ji16).toNat 64)) = ji18 := (i64_w _).symm.trans hji18_
            have hji18x : (ji16) ≤ 64 → (wrap64 (t236 * 2 ^ (ji16).toNat)) = ji18 := fun h_ => (i64_w _).symm.trans (hji18z h_)
            obtain ⟨ji19, hji19⟩ : ∃ j_ : Int, (wrap64 (x7_2 + (wrap64 (Int.tdiv a1 8)))) = j_ := ⟨_, rfl⟩
            replace H : (if 0 ≤ (ji19) then (if (ji19) < (x6_2.length : Int) then (if 0 ≤ (wrap64 ((ji19) + 1)) then (if (wrap64 ((ji19) + 1)) < (x6_2.length : Int) then (z05_Left.l0 k2 a0 a1 ((x6_2.set ((ji19) : Int).toNat (Go.bits .or .u8 (rd x6_2 (ji19)) ((ji18) % 256))).set ((wrap64 ((ji19) + 1)) : Int).toNat (((ji18) / 256) % 256)) (wrap64 (x7_2 + 1))) else (none)) else (none)) else (none)) else (none)) = some (r1, r2) := by first | (rw [hji19] at H; exact H) | (simp only [hji19] at H ⊢; exact H)
            (try rw [hji19] at A15)
            have hji19w : (IntKind.i64.wrap (x7_2 + (wrap64 (Int.tdiv a1 8)))) = ji19 := (i64_w _).trans hji19
            by_cases c20 : 0 ≤ (ji19)
            ·rw [if_pos c20] at H
             have c20b0 : decide (0 ≤ (ji19)) = true := decide_eq_true c20
             clear c20
             by_cases c21 : (ji19) < (x6_2.length : Int)
             ·rw [if_pos c21] at H
              have c21b0 : decide ((ji19) < (x6_2.length : Int)) = true := decide_eq_true c21
              clear c21
              obtain ⟨y238, hy238⟩ : ∃ y_ : List Int, y_ = (x6_2.set ((ji19) : Int).toNat (Go.bits .or .u8 (rd x6_2 (ji19)) ((ji18) % 256))) := ⟨_, rfl⟩
              replace H : (if 0 ≤ (wrap64 ((ji19) + 1)) then (if (wrap64 ((ji19) + 1)) < (x6_2.length : Int) then (z05_Left.l0 k2 a0 a1 (y238.set ((wrap64 ((ji19) + 1)) : Int).toNat (((ji18) / 256) % 256)) (wrap64 (x7_2 + 1))) else (none)) else (none)) = some (r1, r2) := by first | (rw [hy238]; with_reducible exact H) | (have H2_ := (Option.bind_some _ _).symm.trans H; rw [hy238]; with_reducible exact H2_) | (have H2_ := (Option.bind_some _ _).symm.trans H; with_reducible exact H2_) | with_reducible exact H | (rw [hy238]; exact H) | exact H
              have Ny238 := Aside0.mk hy238
              clear hy238
              obtain ⟨ji23, hji23⟩ : ∃ j_ : Int, (wrap64 ((ji19) + 1)) = j_ := ⟨_, rfl⟩
              replace H : (if 0 ≤ (ji23) then (if (ji23) < (x6_2.length : Int) then (z05_Left.l0 k2 a0 a1 (y238.set ((ji23) : Int).toNat (((ji18) / 256) % 256)) (wrap64 (x7_2 + 1))) else (none)) else (none)) = some (r1, r2) := by first | (rw [hji23] at H; exact H) | (simp only [hji23] at H ⊢; exact H)
              (try rw [hji23] at A15)
              have hji23w : (IntKind.i64.wrap ((ji19) + 1)) = ji23 := (i64_w _).trans hji23
              by_cases c24 : 0 ≤ (ji23)
              ·rw [if_pos c24] at H
               have c24b0 : decide (0 ≤ (ji23)) = true := decide_eq_true c24
               clear c24
               by_cases c25 : (ji23) < (x6_2.length : Int)
               ·rw [if_pos c25] at H
                have c25b0 : decide ((ji23) < (x6_2.length : Int)) = true := decide_eq_true c25
                clear c25
                obtain ⟨y239, hy239⟩ : ∃ y_ : List Int, y_ = (y238.set ((ji23) : Int).toNat (((ji18) / 256) % 256)) := ⟨_, rfl⟩
                replace H : (z05_Left.l0 k2 a0 a1 y239 (wrap64 (x7_2 + 1))) = some (r1, r2) := by first | (rw [hy239]; with_reducible exact H) | (have H2_ := (Option.bind_some _ _).symm.trans H; rw [hy239]; with_reducible exact H2_) | (have H2_ := (Option.bind_some _ _).symm.trans H; with_reducible exact H2_) | with_reducible exact H | (rw [hy239]; exact H) | exact H
                have Ny239 := Aside0.mk hy239
                clear hy239
                have H' := Aside0.mk H
                clear H
                go_wp2_with (first | ((with_reducible refine gate_callee (f := 136) rfl ?_); refine goesL_ (some 37) rfl rfl Tryz.func136 (by kernel_rfl) rfl #[.string a0, .int .i64 x7_2] rfl w3_ ?_; (with_reducible refine (z05_at.calls a0 x7_2 t236 _ A15.out).mono ?_); rintro e w' ⟨rfl, ⟨nd, rfl⟩⟩; refine ⟨_, rfl, ?_⟩; (try (rw [drewN_self wr]; generalize hq_ : World.drewN wr _ = wr; have n0_ : Aside0 (Kd.R (Kd.int .u8) 5 wr w.heap.size (fun _ => True) v234 x6_2) := ⟨by rw [← hq_]; exact w8_⟩; have n1_ : Aside0 (Below w.heap.size w wr) := ⟨by rw [← hq_]; exact w5_⟩; clear HO_6 HB hq_; have HO_6 := n0_; have HB := n1_; clear n0_ n1_)); obtain ⟨Ao27, co27, eo27⟩ := Kd.R_slice HO_6.out; subst eo27; have p237 : 0 ≤ ((ji19) : Int) := of_decide_eq_true w4_; have q237 : (ji19) < (x6_2.length : Int) := of_decide_eq_true w4_; obtain ⟨ad237, e237, hx237_0⟩ := Kd.at_int (Kd.R_reads' HO_6.out).2.2 (ji19) p237 q237; cases e237; replace p237 := eq_true p237; replace q237 := eq_true q237; have p22 : 0 ≤ ((ji19) : Int) := of_decide_eq_true w4_; have q22 : ((ji19) : Int) < ((x6_2.length : Int) : Int) := of_decide_eq_true w4_; obtain ⟨go22, co22, eo22, gb22, gl22, cl22, HG22⟩ := Kd.R_form HO_6.out (by omega); (first | cases eo22 | (injection eo22 with ea_ en_ ec_; (first | subst ea_ | (injection ea_ with ea_; subst ea_)); subst ec_; clear en_)); have GB22 := Aside0.mk gb22; have GG22 := Aside0.mk HG22; clear gb22 gl22 HG22; (first | simp only [add_plain] at hx237_0 | skip); obtain ⟨hx22_0, hf22_0⟩ := Kd.R_celln 0 HO_6.out ((ji19) : Int) p22 q22; replace p22 := eq_true p22; replace q22 := eq_true q22; obtain ⟨hy28_, hz28_⟩ := Kd.R_celln 0 HO_6.out ((ji19) : Int) (of_decide_eq_true w4_) (of_decide_eq_true w4_); have HP28 := Kd.R_putg HO_6.out ((ji19) : Int) (Go.bits .or .u8 (rd x6_2 (ji19)) ((ji18) % 256))) | ((with_reducible refine gate_store (t := 5) (p := 57) rfl ?_); refine store_event (t := 5) (p := 57) (v := ?vo_w29) (w1 := (wr.setCell ⟨go22, ((ji19) : Int).toNat, none⟩ (.int .u8 (Go.bits .or .u8 (rd x6_2 (ji19)) ((ji18) % 256))))) ?hg ?ho ?hn ?hr ?_; (case ho => rfl); (case hg => rfl); (case hn => rfl); (case hr => first | (go_simp; done) | (go_simp; rfl)); intro w29 hw; have hg : wr.grownBy w29 (some go22) := (by rw [hw]; exact HP28.2); have hp_ : Kd.R (Kd.int .u8) 5 w29 w.heap.size (fun _ => True) (.slice (some ⟨go22, 0, none⟩) x6_2.length co27) y238 := (by rw [hw, Ny238.out]; exact HP28.1); clear HP28; have n0_ := Aside0.mk (hp_); have n1_ := Aside0.mk ((by rw [hw]; exact below_set (HB.out) GB22.out : Below w.heap.size w w29)); clear HO_6; clear HB; have HO_6 := n0_; have HB := n1_; clear n0_ n1_; clear hg hw hp_; have p26 : 0 ≤ ((ji23) : Int) := of_decide_eq_true w4_; have q26 : ((ji23) : Int) < ((x6_2.length : Int) : Int) := of_decide_eq_true w4_; obtain ⟨hx26_0, hf26_0⟩ := Kd.R_celln 0 HO_6.out ((ji23) : Int) p26 q26; replace p26 := eq_true p26; replace q26 := eq_true q26; obtain ⟨hy30_, hz30_⟩ := Kd.R_celln 0 HO_6.out ((ji23) : Int) (of_decide_eq_true w4_) (of_decide_eq_true w4_); have HP30 := Kd.R_putg HO_6.out ((ji23) : Int) (((ji18) / 256) % 256)) | ((with_reducible refine gate_store (t := 5) (p := 67) rfl ?_); refine store_event (t := 5) (p := 67) (v := ?vo_w31) (w1 := (w29.setCell ⟨go22, ((ji23) : Int).toNat, none⟩ (.int .u8 (((ji18) / 256) % 256)))) ?hg ?ho ?hn ?hr ?_; (case ho => rfl); (case hg => rfl); (case hn => rfl); (case hr => first | (go_simp; done) | (go_simp; rfl)); intro w31 hw; have hg : w29.grownBy w31 (some go22) := (by rw [hw]; exact HP30.2); have hp_ : Kd.R (Kd.int .u8) 5 w31 w.heap.size (fun _ => True) (.slice (some ⟨go22, 0, none⟩) x6_2.length co27) y239 := (by rw [hw, Ny239.out]; exact HP30.1); clear HP30; have n0_ := Aside0.mk (hp_); have n1_ := Aside0.mk ((by rw [hw]; exact below_set (HB.out) GB22.out : Below w.heap.size w w31)); clear HO_6; clear HB; have HO_6 := n0_; have HB := n1_; clear n0_ n1_; clear hg hw hp_))
                go_roundg k2
                case measure => have := HJ4.out; have := HK2.out; omega
                case rel => exact ⟨(y239), (wrap64 (x7_2 + 1)), w1_, H', ⟨by have := HJ4.out; have := HK2.out; omega⟩, ⟨by (with_reducible repeat (first | apply Kd.R_alloc | apply Kd.R_drewN | apply Kd.R_drew)); exact HO_6.out⟩, ⟨by repeat (first | (with_reducible first | exact HB.out | apply below_alloc | apply pw_below_drewN | apply below_drew1) | exact HB.out)⟩⟩
               ·rw [if_neg c25] at H
                exact absurd H (by simp)
              ·rw [if_neg c24] at H
               exact absurd H (by simp)
             ·rw [if_neg c21] at H
              exact absurd H (by simp)
            ·rw [if_neg c20] at H
             exact absurd H (by simp)
           ·rw [if_neg c17] at H
            exact absurd H (by simp)
          ·rw [if_neg c14] at H
           have c14b0 : decide (x7_2 < (a0.size : Int)) = false := decide_eq_false c14
           clear c14
           replace H := Option.bind_eq_some_iff.mp H
           obtain ⟨t240, A320, H⟩ := H
           replace H : (some (t240, 0)) = some (r1, r2) := H
           have A32 := Aside0.mk A320
           clear A320
           simp only [Option.some.injEq, Prod.mk.injEq] at H
           obtain ⟨rfl, rfl⟩ := H
           obtain ⟨Ao33, co33, eo33⟩ := Kd.R_slice HO_6.out
           subst eo33
           go_wp2_with (first | ((with_reducible refine gate_callee (f := 134) rfl ?_); refine goesL_ (some 69) rfl rfl Tryz.func134 (by kernel_rfl) rfl #[.slice Ao33 x6_2.length co33] rfl w3_ ?_; (with_reducible refine (z05_fit.calls k2 _ _ x6_2 t240 _ ?side1 ?side2 A32.out).mono ?_); (case side1 => repeat (first | exact (Kd.R_reads' HO_6.out).2.2 | (with_reducible refine Kd.C_alloc ?_ _) | (with_reducible refine Kd.C_drewN ?_ _) | (with_reducible refine Kd.C_drew ?_))); (case side2 => exact (Kd.R_reads' HO_6.out).2.1); rintro e w34 ⟨rfl, hb⟩; refine ⟨_, rfl, ?_⟩; have n0_ := Aside0.mk (Kd.R_below w8_ hb); have n1_ := Aside0.mk (below_step w5_ hb); clear HO_6; clear HB; have HO_6 := n0_; have HB := n1_; clear n0_ n1_; (try clear hb); (try clear hb2); (try clear hk); (try clear hi)))
           go_ret2
           exact ⟨by first | rfl | (simp [errW_none, errW_some] <;> rfl) | (simp only [← hji9]; first | rfl | (simp [errW_none, errW_some] <;> rfl)) | (simp [*, errW_none, errW_some] <;> rfl), by repeat (first | (with_reducible first | exact HB.out | apply below_alloc | apply pw_below_drewN | apply below_drew1) | exact HB.out)⟩
       ·rw [if_neg c11] at H
        exact absurd H (by simp)
      ·rw [if_neg c10] at H
       exact absurd H (by simp)
def z09_last.f (a0 : ByteArray) : Option (Bool) := if a0.toList = ([] : List UInt8) then (some false) else (if 0 ≤ (wrap64 ((a0.size : Int) - 1)) then (if (wrap64 ((a0.size : Int) - 1)) < (a0.size : Int) then (some ((Go.bits .and .u8 (bt a0 (wrap64 ((a0.size : Int) - 1))) 1) == 1)) else (none)) else (none))
set_option maxHeartbeats 8000000 in
set_option maxRecDepth 100000 in
theorem z09_last.calls (a0 : ByteArray) (r : Bool) (w : World) (h : z09_last.f a0 = some r) :
  Calls Tryz.prog 227 #[.string a0] w fun e w' => e = .returned (.bool r) ∧ Drawn0 w w' := by
 have H : (if a0.toList = ([] : List UInt8) then (some false) else (if 0 ≤ (wrap64 ((a0.size : Int) - 1)) then (if (wrap64 ((a0.size : Int) - 1)) < (a0.size : Int) then (some ((Go.bits .and .u8 (bt a0 (wrap64 ((a0.size : Int) - 1))) 1) == 1)) else (none)) else (none))) = some r := h
 clear h
 by_cases c2 : a0.toList = ([] : List UInt8)
 ·rw [if_pos c2] at H
  have c2b0 : (a0.toList == ([] : List UInt8)) = true := beq_iff_eq.mpr c2
  have c2b1 : (a0.toList != ([] : List UInt8)) = false := bne_eq_false_iff_eq.mpr c2
  clear c2
  obtain rfl := Option.some.inj H
  go_enter Tryz.func227, Tryz.ntmps227
  go_wp2
  go_ret
  exact ⟨w1_, w2_⟩
 ·rw [if_neg c2] at H
  have c2b0 : (a0.toList == ([] : List UInt8)) = false := beq_eq_false_iff_ne.mpr c2
  have c2b1 : (a0.toList != ([] : List UInt8)) = true := bne_iff_ne.mpr c2
  obtain ⟨ji3, hji3⟩ : ∃ j_ : Int, (wrap64 ((a0.size : Int) - 1)) = j_ := ⟨_, rfl⟩
  replace H : (if 0 ≤ (ji3) then (if (ji3) < (a0.size : Int) then (some ((Go.bits .and .u8 (bt a0 (ji3)) 1) == 1)) else (none)) else (none)) = some r := by first | (rw [hji3] at H; exact H) | (simp only [hji3] at H ⊢; exact H)
  have hji3w : (IntKind.i64.wrap ((a0.size : Int) - 1)) = ji3 := (i64_w _).trans hji3
  by_cases c4 : 0 ≤ (ji3)
  ·rw [if_pos c4] at H
   have c4b0 : decide (0 ≤ (ji3)) = true := decide_eq_true c4
   clear c4
   by_cases c5 : (ji3) < (a0.size : Int)
   ·rw [if_pos c5] at H
    have c5b0 : decide ((ji3) < (a0.size : Int)) = true := decide_eq_true c5
    clear c5
    obtain rfl := Option.some.inj H
    have p6 : 0 ≤ ((ji3) : Int) := of_decide_eq_true w4_
    have q6 : (ji3) < (a0.size : Int) := of_decide_eq_true w4_
    have hx6 := bt_at a0 (ji3)
    replace p6 := eq_true p6
    replace q6 := eq_true q6
    go_enter Tryz.func227, Tryz.ntmps227
    go_wp2
    go_ret
    exact ⟨by first | rfl | (simp; done) | (simp only [← hji3] <;> (first | rfl | simp)) | (simp [*]; done), by repeat (first | exact Drawn0.refl _ | apply Drawn0.step)⟩
   ·rw [if_neg c5] at H
    exact absurd H (by simp)
  ·rw [if_neg c4] at H
   exact absurd H (by simp)
end Go.Proofs.YtgmhmpflmgfcdaaGreatDoor.PDivQuotients
