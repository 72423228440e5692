/- Part 29 of the proof. -/
import Derived.Test.YtgmhmpflmgfcdaaGreatDoorHq0
import Derived.Test.YtgmhmpflmgfcdaaGreatDoorHq22
import Derived.Test.YtgmhmpflmgfcdaaGreatDoorHq25
import Derived.Test.YtgmhmpflmgfcdaaGreatDoorHq26
namespace Go.Proofs.YtgmhmpflmgfcdaaGreatDoor.PDivQuotients
open Go.RowKit Go.Proofs.YtgmhmpflmgfcdaaGreatDoorW.PrintWords Go.Proofs.YtgmhmpflmgfcdaaGreatDoorW.PrintLast Go.Proofs.YtgmhmpflmgfcdaaGreatDoorW.PrintMore
attribute [local go_sem] max2_int min2_int max_two min_two max_three min_three max_four min_four   -- for this text's walks alone
set_option linter.unusedVariables false
set_option linter.unusedSimpArgs false
mutual
def z05_add.j0 : Nat → ByteArray → ByteArray → Int → Option (ByteArray)
 | 0, _, _, _ => none
 | k + 1, x0, x1, x5 => if 0 ≤ (wrap64 (x5 + 1)) then (if (wrap64 (x5 + 1) : Int).toNat ≤ 281474976710656 then (z05_add.l0 k x0 x1 x5 (List.replicate (wrap64 (x5 + 1) : Int).toNat 0) 0 0) else (none)) else (none)
def z05_add.l0 : Nat → ByteArray → ByteArray → Int → List Int → Int → Int → Option (ByteArray)
 | 0, _, _, _, _, _, _ => none
 | k + 1, x0, x1, x5, x6, x7, x8 => if x8 ≤ x5 then ((z05_at.f x0 x8).bind fun t282 => ((z05_at.f x1 x8).bind fun t283 => (if 0 ≤ x8 then (if x8 < (x6.length : Int) then (z05_add.l0 k x0 x1 x5 (x6.set (x8 : Int).toNat ((wrap64 ((wrap64 (x7 + t282)) + t283)) % 256)) ((wrap64 ((wrap64 (x7 + t282)) + t283)) / 256) (wrap64 (x8 + 1))) else (none)) else (none)))) else ((z05_fit.f k x6).bind fun t285 => (some t285))
end
def z05_add.f (k : Nat) (a0 : ByteArray) (a1 : ByteArray) : Option (ByteArray) := if (a1.size : Int) > (a0.size : Int) then (z05_add.j0 k a0 a1 (a1.size : Int)) else (z05_add.j0 k a0 a1 (a0.size : Int))
set_option maxHeartbeats 8000000 in
set_option maxRecDepth 100000 in
theorem z05_add.calls (k : Nat) (a0 : ByteArray) (a1 : ByteArray) (r : ByteArray) (w : World) (h : z05_add.f k a0 a1 = some r) :
  Calls Tryz.prog 200 #[.string a0, .string a1] w fun e w' => e = .returned (.string r) ∧ Below w.heap.size w w' := by
 have HB := Aside0.mk (Below.refl w.heap.size w)
 have H : (if (a1.size : Int) > (a0.size : Int) then (z05_add.j0 k a0 a1 (a1.size : Int)) else (z05_add.j0 k a0 a1 (a0.size : Int))) = some r := h
 clear h
 have HC3 := Aside0.mk H
 clear H
 go_enter Tryz.func200, Tryz.ntmps200
 go_upto_if 14 with (fail)
 go_cut [5] (fun v5 wc => ∃ (kq : Nat) (x5_2 : Int), v5 = .int .i64 x5_2 ∧ Aside0 (z05_add.j0 kq a0 a1 x5_2 = some r) ∧ Aside0 (kq ≤ k) ∧ Aside0 (Below w.heap.size w wc))
 case first =>
  have H := HC3.out
  clear HC3
  by_cases c4 : (a1.size : Int) > (a0.size : Int)
  ·rw [if_pos c4] at H
   have c4b0 : decide ((a0.size : Int) < (a1.size : Int)) = true := decide_eq_true c4
   have c4b1 : decide (a0.size < a1.size) = true := decide_eq_true (Int.ofNat_lt.mp c4)
   clear c4
   (first | rw [c4b0] | (simp only [i64_w, i32_w]; rw [c4b0]) | skip)
   (try rw [c4b1])
   have H' := Aside0.mk H
   clear H
   go_wp2
   go_meet
   case rel => exact ⟨_, ((a1.size : Int)), w1_, H', ⟨by first | omega | exact Nat.le_refl _⟩, ⟨by repeat (first | (with_reducible first | exact HB.out | apply below_alloc | apply pw_below_drewN | apply below_drew1) | exact HB.out)⟩⟩
  ·rw [if_neg c4] at H
   have c4b0 : decide ((a0.size : Int) < (a1.size : Int)) = false := decide_eq_false c4
   have c4b1 : decide (a0.size < a1.size) = false := decide_eq_false (fun h => c4 (Int.ofNat_lt.mpr h))
   clear c4
   (first | rw [c4b0] | (simp only [i64_w, i32_w]; rw [c4b0]) | skip)
   (try rw [c4b1])
   have H' := Aside0.mk H
   clear H
   go_wp2
   go_meet
   case rel => exact ⟨_, ((a0.size : Int)), w1_, H', ⟨by first | omega | exact Nat.le_refl _⟩, ⟨by repeat (first | (with_reducible first | exact HB.out | apply below_alloc | apply pw_below_drewN | apply below_drew1) | exact HB.out)⟩⟩
 case rest =>
  clear HC3
  try clear c2
  try clear p2
  try clear c4
  try clear c4b0
  try clear c4b1
  obtain ⟨kq, x5_2, rfl, HA, HJ2, HB⟩ := hcut
  cases kq with
  | zero => exact absurd HA.out (by simp [z05_add.j0])
  | succ kj2 =>
   have H := HA.out
   clear HA
   simp only [z05_add.j0] at H
   obtain ⟨ji5, hji5⟩ : ∃ j_ : Int, (wrap64 (x5_2 + 1)) = j_ := ⟨_, rfl⟩
   replace H : (if 0 ≤ (ji5) then (if (ji5 : Int).toNat ≤ 281474976710656 then (z05_add.l0 kj2 a0 a1 x5_2 (List.replicate (ji5 : Int).toNat 0) 0 0) else (none)) else (none)) = some r := by first | (rw [hji5] at H; exact H) | (simp only [hji5] at H ⊢; exact H)
   have hji5w : (IntKind.i64.wrap (x5_2 + 1)) = ji5 := (i64_w _).trans hji5
   by_cases c6 : 0 ≤ (ji5)
   ·rw [if_pos c6] at H
    have c6b0 := eq_true c6
    have c6b1 : decide (0 ≤ (ji5)) = true := decide_eq_true c6
    clear c6
    by_cases c7 : (ji5 : Int).toNat ≤ 281474976710656
    ·rw [if_pos c7] at H
     have c7b0 := eq_true c7
     have c7b1 : decide ((ji5 : Int).toNat ≤ 281474976710656) = true := decide_eq_true c7
     clear c7
     obtain ⟨y279, hy279⟩ : ∃ y_ : List Int, y_ = (List.replicate (ji5 : Int).toNat 0) := ⟨_, rfl⟩
     replace H : (z05_add.l0 kj2 a0 a1 x5_2 y279 0 0) = some r := by first | (rw [hy279]; with_reducible exact H) | (have H2_ := (Option.bind_some _ _).symm.trans H; rw [hy279]; with_reducible exact H2_) | (have H2_ := (Option.bind_some _ _).symm.trans H; with_reducible exact H2_) | with_reducible exact H | (rw [hy279]; exact H) | exact H
     have Ny279 := Aside0.mk hy279
     clear hy279
     have H' := Aside0.mk H
     clear H
     go_wp2_with (first | ((with_reducible refine gate_dst (N := 19) rfl ?_); refine Kd.R_make (Kd.int .u8) _ 5 rfl (N := 19) rfl 143 _ _ rfl ji5 rfl rfl Tryz.underlying143 (.int .u8 0) 1 info5 rfl (by decide) (by omega) 0 (ok := fun _ => True) (okp := fun _ => True) rfl (fun _ hk => hk) trivial (of_decide_eq_true w4_) (Nat.le_trans (Nat.mul_le_mul_right _ (of_decide_eq_true w4_ : ji5.toNat ≤ 281474976710656)) (by omega)) (Below.refl _ _) (Nat.le_refl _) ?_; intro v280 w8 ho9 hb hg_ hnew_; clear hg_ hnew_; (first | rw [← Ny279.out] at ho9 | (simp only [Int.reduceToNat] at ho9; rw [← Ny279.out] at ho9)); have n0_ := Aside0.mk (Kd.R_lower ho9 (below_size w5_)); have n1_ := Aside0.mk (below_step w5_ hb); clear HB; have HO281 := n0_; have HB := n1_; clear n0_ n1_; clear hb ho9))
     go_loopg [7, 8] kj2 (fun kq v7 v8 w' => ∃ (x6_2 : List Int) (x7_2 : Int) (x8_2 : Int), v7 = .int .i64 x7_2 ∧ v8 = .int .i64 x8_2 ∧ Aside0 (z05_add.l0 kq a0 a1 x5_2 x6_2 x7_2 x8_2 = some r) ∧ Aside0 (kq ≤ kj2) ∧ Aside0 (Kd.R (Kd.int .u8) 5 w' w.heap.size (fun _ => True) v280 x6_2) ∧ Aside0 (Below w.heap.size w w'))
     case atStart => exact ⟨(y279), (0), (0), w1_, w1_, H', ⟨Nat.le_refl _⟩, ⟨by (with_reducible repeat (first | apply Kd.R_alloc | apply Kd.R_drewN | apply Kd.R_drew)); exact HO281.out⟩, ⟨by repeat (first | (with_reducible first | exact HB.out | apply below_alloc | apply pw_below_drewN | apply below_drew1) | exact HB.out)⟩⟩
     case round =>
      clear H'
      try clear c2
      try clear p2
      try clear c4
      try clear c4b0
      try clear c4b1
      try clear c6
      try clear c6b0
      try clear c6b1
      try clear p6
      try clear c7
      try clear c7b0
      try clear c7b1
      try clear p2
      obtain ⟨x6_2, x7_2, x8_2, rfl, rfl, HA, HK2, HO_6, HB⟩ := hrel
      cases gk with
      | zero => exact absurd HA.out (by simp [z05_add.l0])
      | succ k2 =>
       have H := HA.out
       clear HA
       simp only [z05_add.l0] at H
       by_cases c10 : x8_2 ≤ x5_2
       ·rw [if_pos c10] at H
        have c10b0 : decide (x8_2 ≤ x5_2) = true := decide_eq_true c10
        clear c10
        replace H := Option.bind_eq_some_iff.mp H
        obtain ⟨t282, A110, H⟩ := H
        replace H : ((z05_at.f a1 x8_2).bind fun t283 => (if 0 ≤ x8_2 then (if x8_2 < (x6_2.length : Int) then (z05_add.l0 k2 a0 a1 x5_2 (x6_2.set (x8_2 : Int).toNat ((wrap64 ((wrap64 (x7_2 + t282)) + t283)) % 256)) ((wrap64 ((wrap64 (x7_2 + t282)) + t283)) / 256) (wrap64 (x8_2 + 1))) else (none)) else (none))) = some r := H
        have A11 := Aside0.mk A110
        clear A110
        replace H := Option.bind_eq_some_iff.mp H
        obtain ⟨t283, A120, H⟩ := H
        replace H : (if 0 ≤ x8_2 then (if x8_2 < (x6_2.length : Int) then (z05_add.l0 k2 a0 a1 x5_2 (x6_2.set (x8_2 : Int).toNat ((wrap64 ((wrap64 (x7_2 + t282)) + t283)) % 256)) ((wrap64 ((wrap64 (x7_2 + t282)) + t283)) / 256) (wrap64 (x8_2 + 1))) else (none)) else (none)) = some r := H
        have A12 := Aside0.mk A120
        clear A120
        by_cases c13 : 0 ≤ x8_2
        ·rw [if_pos c13] at H
         have c13b0 : decide (0 ≤ x8_2) = true := decide_eq_true c13
         clear c13
         by_cases c14 : x8_2 < (x6_2.length : Int)
         ·rw [if_pos c14] at H
          have c14b0 : decide (x8_2 < (x6_2.length : Int)) = true := decide_eq_true c14
          clear c14
          obtain ⟨y284, hy284⟩ : ∃ y_ : List Int, y_ = (x6_2.set (x8_2 : Int).toNat ((wrap64 ((wrap64 (x7_2 + t282)) + t283)) % 256)) := ⟨_, rfl⟩
          replace H : (z05_add.l0 k2 a0 a1 x5_2 y284 ((wrap64 ((wrap64 (x7_2 + t282)) + t283)) / 256) (wrap64 (x8_2 + 1))) = some r := by first | (rw [hy284]; with_reducible exact H) | (have H2_ := (Option.bind_some _ _).symm.trans H; rw [hy284]; with_reducible exact H2_) | (have H2_ := (Option.bind_some _ _).symm.trans H; with_reducible exact H2_) | with_reducible exact H | (rw [hy284]; exact H) | exact H
          have Ny284 := Aside0.mk hy284
          clear hy284
          have H' := Aside0.mk H
          clear H
          go_wp2_with (first | ((with_reducible refine gate_callee (f := 136) rfl ?_); refine goesL_ (some 28) rfl rfl Tryz.func136 (by kernel_rfl) rfl #[.string a0, .int .i64 x8_2] rfl w3_ ?_; (with_reducible refine (z05_at.calls a0 x8_2 t282 _ A11.out).mono ?_); rintro e w' ⟨rfl, ⟨nd, rfl⟩⟩; refine ⟨_, rfl, ?_⟩; (try (rw [drewN_self wr]; generalize hq_ : World.drewN wr _ = wr; have n0_ : Aside0 (Kd.R (Kd.int .u8) 5 wr w.heap.size (fun _ => True) v280 x6_2) := ⟨by rw [← hq_]; exact w8_⟩; have n1_ : Aside0 (Below w.heap.size w wr) := ⟨by rw [← hq_]; exact w5_⟩; clear HO_6 HB hq_; have HO_6 := n0_; have HB := n1_; clear n0_ n1_))) | ((with_reducible refine gate_callee (f := 136) rfl ?_); refine goesL_ (some 32) rfl rfl Tryz.func136 (by kernel_rfl) rfl #[.string a1, .int .i64 x8_2] rfl w3_ ?_; (with_reducible refine (z05_at.calls a1 x8_2 t283 _ A12.out).mono ?_); rintro e w' ⟨rfl, ⟨nd, rfl⟩⟩; refine ⟨_, rfl, ?_⟩; (try (rw [drewN_self wr]; generalize hq_ : World.drewN wr _ = wr; have n0_ : Aside0 (Kd.R (Kd.int .u8) 5 wr w.heap.size (fun _ => True) v280 x6_2) := ⟨by rw [← hq_]; exact w8_⟩; have n1_ : Aside0 (Below w.heap.size w wr) := ⟨by rw [← hq_]; exact w5_⟩; clear HO_6 HB hq_; have HO_6 := n0_; have HB := n1_; clear n0_ n1_)); have p15 : 0 ≤ (x8_2 : Int) := of_decide_eq_true w4_; have q15 : (x8_2 : Int) < ((x6_2.length : Int) : Int) := of_decide_eq_true w4_; obtain ⟨go15, co15, eo15, gb15, gl15, cl15, HG15⟩ := Kd.R_form HO_6.out (by omega); (first | cases eo15 | (injection eo15 with ea_ en_ ec_; (first | subst ea_ | (injection ea_ with ea_; subst ea_)); subst ec_; clear en_)); have GB15 := Aside0.mk gb15; have GG15 := Aside0.mk HG15; clear gb15 gl15 HG15; obtain ⟨hx15_0, hf15_0⟩ := Kd.R_celln 0 HO_6.out (x8_2 : Int) p15 q15; replace p15 := eq_true p15; replace q15 := eq_true q15; obtain ⟨hy16_, hz16_⟩ := Kd.R_celln 0 HO_6.out (x8_2 : Int) (of_decide_eq_true w4_) (of_decide_eq_true w4_); have HP16 := Kd.R_putg HO_6.out (x8_2 : Int) ((wrap64 ((wrap64 (x7_2 + t282)) + t283)) % 256)) | ((with_reducible refine gate_store (t := 5) (p := 38) rfl ?_); refine store_event (t := 5) (p := 38) (v := ?vo_w17) (w1 := (wr.setCell ⟨go15, (x8_2 : Int).toNat, none⟩ (.int .u8 ((wrap64 ((wrap64 (x7_2 + t282)) + t283)) % 256)))) ?hg ?ho ?hn ?hr ?_; (case ho => rfl); (case hg => rfl); (case hn => rfl); (case hr => first | (go_simp; done) | (go_simp; rfl)); intro w17 hw; have hg : wr.grownBy w17 (some go15) := (by rw [hw]; exact HP16.2); have hp_ : Kd.R (Kd.int .u8) 5 w17 w.heap.size (fun _ => True) (.slice (some ⟨go15, 0, none⟩) x6_2.length co15) y284 := (by rw [hw, Ny284.out]; exact HP16.1); clear HP16; have n0_ := Aside0.mk (hp_); have n1_ := Aside0.mk ((by rw [hw]; exact below_set (HB.out) GB15.out : Below w.heap.size w w17)); clear HO_6; clear HB; have HO_6 := n0_; have HB := n1_; clear n0_ n1_; clear hg hw hp_))
          go_roundg k2
          case measure => have := HJ2.out; have := HK2.out; omega
          case rel => exact ⟨(y284), ((wrap64 ((wrap64 (x7_2 + t282)) + t283)) / 256), (wrap64 (x8_2 + 1)), w1_, w1_, H', ⟨by have := HJ2.out; have := HK2.out; omega⟩, ⟨by (with_reducible repeat (first | apply Kd.R_alloc | apply Kd.R_drewN | apply Kd.R_drew)); exact HO_6.out⟩, ⟨by repeat (first | (with_reducible first | exact HB.out | apply below_alloc | apply pw_below_drewN | apply below_drew1) | exact HB.out)⟩⟩
         ·rw [if_neg c14] at H
          exact absurd H (by simp)
        ·rw [if_neg c13] at H
         exact absurd H (by simp)
       ·rw [if_neg c10] at H
        have c10b0 : decide (x8_2 ≤ x5_2) = false := decide_eq_false c10
        clear c10
        replace H := Option.bind_eq_some_iff.mp H
        obtain ⟨t285, A180, H⟩ := H
        replace H : (some t285) = some r := H
        have A18 := Aside0.mk A180
        clear A180
        obtain rfl := Option.some.inj H
        obtain ⟨Ao19, co19, eo19⟩ := Kd.R_slice HO_6.out
        subst eo19
        go_wp2_with (first | ((with_reducible refine gate_callee (f := 134) rfl ?_); refine goesL_ (some 42) rfl rfl Tryz.func134 (by kernel_rfl) rfl #[.slice Ao19 x6_2.length co19] rfl w3_ ?_; (with_reducible refine (z05_fit.calls k2 _ _ x6_2 t285 _ ?side1 ?side2 A18.out).mono ?_); (case side1 => repeat (first | exact (Kd.R_reads' HO_6.out).2.2 | (with_reducible refine Kd.C_alloc ?_ _) | (with_reducible refine Kd.C_drewN ?_ _) | (with_reducible refine Kd.C_drew ?_))); (case side2 => exact (Kd.R_reads' HO_6.out).2.1); rintro e w20 ⟨rfl, hb⟩; refine ⟨_, rfl, ?_⟩; have n0_ := Aside0.mk (Kd.R_below w8_ hb); have n1_ := Aside0.mk (below_step w5_ hb); clear HO_6; clear HB; have HO_6 := n0_; have HB := n1_; clear n0_ n1_; (try clear hb); (try clear hb2); (try clear hk); (try clear hi)))
        go_ret
        exact ⟨by first | rfl | (simp [errW_none, errW_some] <;> rfl) | (simp only [← hji5]; first | rfl | (simp [errW_none, errW_some] <;> rfl)) | (simp [*, errW_none, errW_some] <;> rfl), by repeat (first | (with_reducible first | exact HB.out | apply below_alloc | apply pw_below_drewN | apply below_drew1) | exact HB.out)⟩
    ·rw [if_neg c7] at H
     exact absurd H (by simp)
   ·rw [if_neg c6] at H
    exact absurd H (by simp)
end Go.Proofs.YtgmhmpflmgfcdaaGreatDoor.PDivQuotients
