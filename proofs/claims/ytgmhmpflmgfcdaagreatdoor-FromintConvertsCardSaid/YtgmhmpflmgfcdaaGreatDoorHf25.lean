/- Part 25 of what is proved: Rp20. -/
import Derived.Test.YtgmhmpflmgfcdaaGreatDoorHf0
import Derived.Test.YtgmhmpflmgfcdaaGreatDoorHf18
import Derived.Test.YtgmhmpflmgfcdaaGreatDoorHf21
import Derived.Test.YtgmhmpflmgfcdaaGreatDoorHf22
namespace Go.Proofs.YtgmhmpflmgfcdaaGreatDoor.PDivQuotients
open Go.RowKit Go.Proofs.YtgmhmpflmgfcdaaGreatDoorW.PrintWords Go.Proofs.YtgmhmpflmgfcdaaGreatDoorW.PrintLast Go.Proofs.YtgmhmpflmgfcdaaGreatDoorW.PrintMore
attribute [local go_sem] max2_int min2_int max_two min_two max_three min_three max_four min_four   -- for this text's walks alone
set_option linter.unusedVariables false
set_option linter.unusedSimpArgs false
def abacusref05_Of.l0 : Nat → Int → List Int → Int → Option (ByteArray)
  | 0, _, _, _ => none
  | k + 1, x0, x3, x4 => if x4 < 8 then (if 0 ≤ (IntKind.u64.wrap (wrap64 (8 * x4))) then (if 0 ≤ x4 then (if x4 < (x3.length : Int) then (abacusref05_Of.l0 k x0 (x3.set (x4 : Int).toNat ((shr .u64 x0 (IntKind.u64.wrap (wrap64 (8 * x4)))) % 256)) (wrap64 (x4 + 1))) else (none)) else (none)) else (none)) else ((abacusref05_fit.f k x3).bind fun t278 => (some t278))
def abacusref05_Of.f (k : Nat) (a0 : Int) : Option (ByteArray) := if 8 ≤ 281474976710656 then (abacusref05_Of.l0 k a0 (List.replicate 8 0) 0) else (none)
set_option maxHeartbeats 8000000 in
set_option maxRecDepth 100000 in
theorem abacusref05_Of.calls (k : Nat) (a0 : Int) (r : ByteArray) (w : World) (h : abacusref05_Of.f k a0 = some r) :
    Calls Tryz.prog 58 #[.int .u64 a0] w fun e w' => e = .returned (.string r) ∧ Below w.heap.size w w' := by
  have HB := Aside0.mk (Below.refl w.heap.size w)
  have H : (if 8 ≤ 281474976710656 then (abacusref05_Of.l0 k a0 (List.replicate 8 0) 0) else (none)) = some r := h
  clear h
  by_cases c2 : 8 ≤ 281474976710656
  · rw [if_pos c2] at H
    have c2b0 := eq_true c2
    have c2b1 : decide (8 ≤ 281474976710656) = true := decide_eq_true c2
    clear c2
    obtain ⟨y274, hy274⟩ : ∃ y_ : List Int, y_ = (List.replicate 8 0) := ⟨_, rfl⟩
    replace H : (abacusref05_Of.l0 k a0 y274 0) = some r := by first | (rw [hy274]; with_reducible exact H) | (have H2_ := (Option.bind_some _ _).symm.trans H; rw [hy274]; with_reducible exact H2_) | (have H2_ := (Option.bind_some _ _).symm.trans H; with_reducible exact H2_) | with_reducible exact H | (rw [hy274]; exact H) | exact H
    have Ny274 := Aside0.mk hy274
    clear hy274
    have H' := Aside0.mk H
    clear H
    go_enter Tryz.func58, Tryz.ntmps58
    go_wp2_with (first | ((with_reducible refine gate_dst (N := 5) rfl ?_); refine Kd.R_make (Kd.int .u8) _ 5 rfl (N := 5) rfl 143 _ _ rfl 8 rfl rfl Tryz.underlying143 (.int .u8 0) 1 info5 rfl (by decide) (by omega) 0 (ok := fun _ => True) (okp := fun _ => True) rfl (fun _ hk => hk) trivial (by omega) (by omega) (Below.refl _ _) (Nat.le_refl _) ?_; intro v275 w3 ho4 hb hg_ hnew_; clear hg_ hnew_; (first | rw [← Ny274.out] at ho4 | (simp only [Int.reduceToNat] at ho4; rw [← Ny274.out] at ho4)); have n0_ := Aside0.mk (Kd.R_lower ho4 (below_size w4_)); have n1_ := Aside0.mk (below_step w4_ hb); clear HB; have HO276 := n0_; have HB := n1_; clear n0_ n1_; clear hb ho4))
    go_loopg [4] k (fun kq v4 w' => ∃ (x3_1 : List Int) (x4_1 : Int), v4 = .int .i64 x4_1 ∧ Aside0 (abacusref05_Of.l0 kq a0 x3_1 x4_1 = some r) ∧ Aside0 (kq ≤ k) ∧ Aside0 (Kd.R (Kd.int .u8) 5 w' w.heap.size (fun _ => True) v275 x3_1) ∧ Aside0 (Below w.heap.size w w'))
    case atStart => exact ⟨(y274), (0), w1_, H', ⟨Nat.le_refl _⟩, ⟨by (with_reducible repeat (first | apply Kd.R_alloc | apply Kd.R_drewN | apply Kd.R_drew)); exact HO276.out⟩, ⟨by repeat (first | (with_reducible first | exact HB.out | apply below_alloc | apply pw_below_drewN | apply below_drew1) | exact HB.out)⟩⟩
    case round =>
      clear H'
      try clear c2
      try clear c2b0
      try clear c2b1
      try clear p2
      obtain ⟨x3_1, x4_1, rfl, HA, HK1, HO_3, HB⟩ := hrel
      cases gk with
      | zero => exact absurd HA.out (by simp [abacusref05_Of.l0])
      | succ k1 =>
        have H := HA.out
        clear HA
        simp only [abacusref05_Of.l0] at H
        by_cases c5 : x4_1 < 8
        · rw [if_pos c5] at H
          have c5b0 : decide (x4_1 < 8) = true := decide_eq_true c5
          clear c5
          obtain ⟨ji6, hji6⟩ : ∃ j_ : Int, (IntKind.u64.wrap (wrap64 (8 * x4_1))) = j_ := ⟨_, rfl⟩
          replace H : (if 0 ≤ (ji6) then (if 0 ≤ x4_1 then (if x4_1 < (x3_1.length : Int) then (abacusref05_Of.l0 k1 a0 (x3_1.set (x4_1 : Int).toNat ((shr .u64 a0 (ji6)) % 256)) (wrap64 (x4_1 + 1))) else (none)) else (none)) else (none)) = some r := by first | (rw [hji6] at H; exact H) | (simp only [hji6] at H ⊢; exact H)
          by_cases c7 : 0 ≤ (ji6)
          · rw [if_pos c7] at H
            have c7b0 := eq_true c7
            have c7b1 : decide (0 ≤ (ji6)) = true := decide_eq_true c7
            clear c7
            obtain ⟨ji8, hji8⟩ : ∃ j_ : Int, (shr .u64 a0 (ji6)) = j_ := ⟨_, rfl⟩
            replace H : (if 0 ≤ x4_1 then (if x4_1 < (x3_1.length : Int) then (abacusref05_Of.l0 k1 a0 (x3_1.set (x4_1 : Int).toNat ((ji8) % 256)) (wrap64 (x4_1 + 1))) else (none)) else (none)) = some r := by first | (rw [hji8] at H; exact H) | (simp only [hji8] at H ⊢; exact H)
            have hji8_ : (a0 / 2 ^ min (ji6).toNat 64) = ji8 := hji8
            have hji8z : (ji6) ≤ 64 → (a0 / 2 ^ (ji6).toNat) = ji8 := shr_small hji8
            by_cases c9 : 0 ≤ x4_1
            · rw [if_pos c9] at H
              have c9b0 : decide (0 ≤ x4_1) = true := decide_eq_true c9
              clear c9
              by_cases c10 : x4_1 < (x3_1.length : Int)
              · rw [if_pos c10] at H
                have c10b0 : decide (x4_1 < (x3_1.length : Int)) = true := decide_eq_true c10
                clear c10
                obtain ⟨y277, hy277⟩ : ∃ y_ : List Int, y_ = (x3_1.set (x4_1 : Int).toNat ((ji8) % 256)) := ⟨_, rfl⟩
                replace H : (abacusref05_Of.l0 k1 a0 y277 (wrap64 (x4_1 + 1))) = some r := by first | (rw [hy277]; with_reducible exact H) | (have H2_ := (Option.bind_some _ _).symm.trans H; rw [hy277]; with_reducible exact H2_) | (have H2_ := (Option.bind_some _ _).symm.trans H; with_reducible exact H2_) | with_reducible exact H | (rw [hy277]; exact H) | exact H
                have Ny277 := Aside0.mk hy277
                clear hy277
                have H' := Aside0.mk H
                clear H
                have p11 : 0 ≤ (x4_1 : Int) := of_decide_eq_true w3_
                have q11 : (x4_1 : Int) < ((x3_1.length : Int) : Int) := of_decide_eq_true w3_
                obtain ⟨go11, co11, eo11, gb11, gl11, cl11, HG11⟩ := Kd.R_form HO_3.out (by omega)
                (first | cases eo11 | (injection eo11 with ea_ en_ ec_; (first | subst ea_ | (injection ea_ with ea_; subst ea_)); subst ec_; clear en_))
                have GB11 := Aside0.mk gb11
                have GG11 := Aside0.mk HG11
                clear gb11 gl11 HG11
                obtain ⟨hx11_0, hf11_0⟩ := Kd.R_celln 0 HO_3.out (x4_1 : Int) p11 q11
                replace p11 := eq_true p11
                replace q11 := eq_true q11
                have HP12 := Kd.R_putg HO_3.out (x4_1 : Int) ((ji8) % 256)
                go_wp2_with (first | ((with_reducible refine gate_store (t := 5) (p := 18) rfl ?_); refine store_event (t := 5) (p := 18) (v := ?vo_w13) (w1 := (wr.setCell ⟨go11, (x4_1 : Int).toNat, none⟩ (.int .u8 ((ji8) % 256)))) ?hg ?ho ?hn ?hr ?_; (case ho => rfl); (case hg => rfl); (case hn => rfl); (case hr => first | (go_simp; done) | (go_simp; rfl)); intro w13 hw; have hg : wr.grownBy w13 (some go11) := (by rw [hw]; exact HP12.2); have hp_ : Kd.R (Kd.int .u8) 5 w13 w.heap.size (fun _ => True) (.slice (some ⟨go11, 0, none⟩) x3_1.length co11) y277 := (by rw [hw, Ny277.out]; exact HP12.1); clear HP12; have n0_ := Aside0.mk (hp_); have n1_ := Aside0.mk ((by rw [hw]; exact below_set (HB.out) GB11.out : Below w.heap.size w w13)); clear HO_3; clear HB; have HO_3 := n0_; have HB := n1_; clear n0_ n1_; clear hg hw hp_))
                go_roundg k1
                case measure => have := HK1.out; omega
                case rel => exact ⟨(y277), (wrap64 (x4_1 + 1)), w1_, H', ⟨by have := HK1.out; omega⟩, ⟨by (with_reducible repeat (first | apply Kd.R_alloc | apply Kd.R_drewN | apply Kd.R_drew)); exact HO_3.out⟩, ⟨by repeat (first | (with_reducible first | exact HB.out | apply below_alloc | apply pw_below_drewN | apply below_drew1) | exact HB.out)⟩⟩
              · rw [if_neg c10] at H
                exact absurd H (by simp)
            · rw [if_neg c9] at H
              exact absurd H (by simp)
          · rw [if_neg c7] at H
            exact absurd H (by simp)
        · rw [if_neg c5] at H
          have c5b0 : decide (x4_1 < 8) = false := decide_eq_false c5
          clear c5
          replace H := Option.bind_eq_some_iff.mp H
          obtain ⟨t278, A140, H⟩ := H
          replace H : (some t278) = some r := H
          have A14 := Aside0.mk A140
          clear A140
          obtain rfl := Option.some.inj H
          obtain ⟨Ao15, co15, eo15⟩ := Kd.R_slice HO_3.out
          subst eo15
          go_wp2_with (first | ((with_reducible refine gate_callee (f := 134) rfl ?_); refine goesL_ (some 20) rfl rfl Tryz.func134 (by kernel_rfl) rfl #[.slice Ao15 x3_1.length co15] rfl w2_ ?_; (with_reducible refine (abacusref05_fit.calls k1 _ _ x3_1 t278 _ ?side1 ?side2 A14.out).mono ?_); (case side1 => repeat (first | exact (Kd.R_reads' HO_3.out).2.2 | (with_reducible refine Kd.C_alloc ?_ _) | (with_reducible refine Kd.C_drewN ?_ _) | (with_reducible refine Kd.C_drew ?_))); (case side2 => exact (Kd.R_reads' HO_3.out).2.1); rintro e w16 ⟨rfl, hb⟩; refine ⟨_, rfl, ?_⟩; have n0_ := Aside0.mk (Kd.R_below (by (with_reducible repeat (first | apply Kd.R_alloc | apply Kd.R_drewN | apply Kd.R_drew)); exact HO_3.out) hb); have n1_ := Aside0.mk (below_step w4_ hb); clear HO_3; clear HB; have HO_3 := n0_; have HB := n1_; clear n0_ n1_; (try clear hb); (try clear hb2); (try clear hk); (try clear hi)))
          go_ret
          exact ⟨by first | rfl | (simp [errW_none, errW_some] <;> rfl) | (simp [*, errW_none, errW_some] <;> rfl), by repeat (first | (with_reducible first | exact HB.out | apply below_alloc | apply pw_below_drewN | apply below_drew1) | exact HB.out)⟩
  · rw [if_neg c2] at H
    exact absurd H (by simp)
mutual
def abacusref05_add.j0 : Nat → ByteArray → ByteArray → Int → Option (ByteArray)
  | 0, _, _, _ => none
  | k + 1, x0, x1, x5 => if 0 ≤ (wrap64 (x5 + 1)) then (if (wrap64 (x5 + 1) : Int).toNat ≤ 281474976710656 then (abacusref05_add.l0 k x0 x1 x5 (List.replicate (wrap64 (x5 + 1) : Int).toNat 0) 0 0) else (none)) else (none)
def abacusref05_add.l0 : Nat → ByteArray → ByteArray → Int → List Int → Int → Int → Option (ByteArray)
  | 0, _, _, _, _, _, _ => none
  | k + 1, x0, x1, x5, x6, x7, x8 => if x8 ≤ x5 then ((abacusref05_at.f x0 x8).bind fun t282 => ((abacusref05_at.f x1 x8).bind fun t283 => (if 0 ≤ x8 then (if x8 < (x6.length : Int) then (abacusref05_add.l0 k x0 x1 x5 (x6.set (x8 : Int).toNat ((wrap64 ((wrap64 (x7 + t282)) + t283)) % 256)) ((wrap64 ((wrap64 (x7 + t282)) + t283)) / 256) (wrap64 (x8 + 1))) else (none)) else (none)))) else ((abacusref05_fit.f k x6).bind fun t285 => (some t285))
end
def abacusref05_add.f (k : Nat) (a0 : ByteArray) (a1 : ByteArray) : Option (ByteArray) := if (a1.size : Int) > (a0.size : Int) then (abacusref05_add.j0 k a0 a1 (a1.size : Int)) else (abacusref05_add.j0 k a0 a1 (a0.size : Int))
set_option maxHeartbeats 8000000 in
set_option maxRecDepth 100000 in
theorem abacusref05_add.calls (k : Nat) (a0 : ByteArray) (a1 : ByteArray) (r : ByteArray) (w : World) (h : abacusref05_add.f k a0 a1 = some r) :
    Calls Tryz.prog 200 #[.string a0, .string a1] w fun e w' => e = .returned (.string r) ∧ Below w.heap.size w w' := by
  have HB := Aside0.mk (Below.refl w.heap.size w)
  have H : (if (a1.size : Int) > (a0.size : Int) then (abacusref05_add.j0 k a0 a1 (a1.size : Int)) else (abacusref05_add.j0 k a0 a1 (a0.size : Int))) = some r := h
  clear h
  have HC3 := Aside0.mk H
  clear H
  go_enter Tryz.func200, Tryz.ntmps200
  go_upto_if 14 with (fail)
  go_cut [5] (fun v5 wc => ∃ (kq : Nat) (x5_2 : Int), v5 = .int .i64 x5_2 ∧ Aside0 (abacusref05_add.j0 kq a0 a1 x5_2 = some r) ∧ Aside0 (kq ≤ k) ∧ Aside0 (Below w.heap.size w wc))
  case first =>
    have H := HC3.out
    clear HC3
    by_cases c4 : (a1.size : Int) > (a0.size : Int)
    · rw [if_pos c4] at H
      have c4b0 : decide ((a0.size : Int) < (a1.size : Int)) = true := decide_eq_true c4
      have c4b1 : decide (a0.size < a1.size) = true := decide_eq_true (Int.ofNat_lt.mp c4)
      clear c4
      (first | rw [c4b0] | (simp only [i64_w, i32_w]; rw [c4b0]) | skip)
      (try rw [c4b1])
      have H' := Aside0.mk H
      clear H
      go_wp2
      go_meet
      case rel => exact ⟨_, ((a1.size : Int)), w1_, H', ⟨by first | omega | exact Nat.le_refl _⟩, ⟨by repeat (first | (with_reducible first | exact HB.out | apply below_alloc | apply pw_below_drewN | apply below_drew1) | exact HB.out)⟩⟩
    · rw [if_neg c4] at H
      have c4b0 : decide ((a0.size : Int) < (a1.size : Int)) = false := decide_eq_false c4
      have c4b1 : decide (a0.size < a1.size) = false := decide_eq_false (fun h => c4 (Int.ofNat_lt.mpr h))
      clear c4
      (first | rw [c4b0] | (simp only [i64_w, i32_w]; rw [c4b0]) | skip)
      (try rw [c4b1])
      have H' := Aside0.mk H
      clear H
      go_wp2
      go_meet
      case rel => exact ⟨_, ((a0.size : Int)), w1_, H', ⟨by first | omega | exact Nat.le_refl _⟩, ⟨by repeat (first | (with_reducible first | exact HB.out | apply below_alloc | apply pw_below_drewN | apply below_drew1) | exact HB.out)⟩⟩
  case rest =>
    clear HC3
    try clear c2
    try clear p2
    try clear c4
    try clear c4b0
    try clear c4b1
    obtain ⟨kq, x5_2, rfl, HA, HJ2, HB⟩ := hcut
    cases kq with
    | zero => exact absurd HA.out (by simp [abacusref05_add.j0])
    | succ kj2 =>
      have H := HA.out
      clear HA
      simp only [abacusref05_add.j0] at H
      obtain ⟨ji5, hji5⟩ : ∃ j_ : Int, (wrap64 (x5_2 + 1)) = j_ := ⟨_, rfl⟩
      replace H : (if 0 ≤ (ji5) then (if (ji5 : Int).toNat ≤ 281474976710656 then (abacusref05_add.l0 kj2 a0 a1 x5_2 (List.replicate (ji5 : Int).toNat 0) 0 0) else (none)) else (none)) = some r := by first | (rw [hji5] at H; exact H) | (simp only [hji5] at H ⊢; exact H)
      have hji5w : (IntKind.i64.wrap (x5_2 + 1)) = ji5 := (i64_w _).trans hji5
      by_cases c6 : 0 ≤ (ji5)
      · rw [if_pos c6] at H
        have c6b0 := eq_true c6
        have c6b1 : decide (0 ≤ (ji5)) = true := decide_eq_true c6
        clear c6
        by_cases c7 : (ji5 : Int).toNat ≤ 281474976710656
        · rw [if_pos c7] at H
          have c7b0 := eq_true c7
          have c7b1 : decide ((ji5 : Int).toNat ≤ 281474976710656) = true := decide_eq_true c7
          clear c7
          obtain ⟨y279, hy279⟩ : ∃ y_ : List Int, y_ = (List.replicate (ji5 : Int).toNat 0) := ⟨_, rfl⟩
          replace H : (abacusref05_add.l0 kj2 a0 a1 x5_2 y279 0 0) = some r := by first | (rw [hy279]; with_reducible exact H) | (have H2_ := (Option.bind_some _ _).symm.trans H; rw [hy279]; with_reducible exact H2_) | (have H2_ := (Option.bind_some _ _).symm.trans H; with_reducible exact H2_) | with_reducible exact H | (rw [hy279]; exact H) | exact H
          have Ny279 := Aside0.mk hy279
          clear hy279
          have H' := Aside0.mk H
          clear H
          go_wp2_with (first | ((with_reducible refine gate_dst (N := 19) rfl ?_); refine Kd.R_make (Kd.int .u8) _ 5 rfl (N := 19) rfl 143 _ _ rfl ji5 rfl rfl Tryz.underlying143 (.int .u8 0) 1 info5 rfl (by decide) (by omega) 0 (ok := fun _ => True) (okp := fun _ => True) rfl (fun _ hk => hk) trivial (of_decide_eq_true w3_) (Nat.le_trans (Nat.mul_le_mul_right _ (of_decide_eq_true w3_ : ji5.toNat ≤ 281474976710656)) (by omega)) (Below.refl _ _) (Nat.le_refl _) ?_; intro v280 w8 ho9 hb hg_ hnew_; clear hg_ hnew_; (first | rw [← Ny279.out] at ho9 | (simp only [Int.reduceToNat] at ho9; rw [← Ny279.out] at ho9)); have n0_ := Aside0.mk (Kd.R_lower ho9 (below_size w4_)); have n1_ := Aside0.mk (below_step w4_ hb); clear HB; have HO281 := n0_; have HB := n1_; clear n0_ n1_; clear hb ho9))
          go_loopg [7, 8] kj2 (fun kq v7 v8 w' => ∃ (x6_2 : List Int) (x7_2 : Int) (x8_2 : Int), v7 = .int .i64 x7_2 ∧ v8 = .int .i64 x8_2 ∧ Aside0 (abacusref05_add.l0 kq a0 a1 x5_2 x6_2 x7_2 x8_2 = some r) ∧ Aside0 (kq ≤ kj2) ∧ Aside0 (Kd.R (Kd.int .u8) 5 w' w.heap.size (fun _ => True) v280 x6_2) ∧ Aside0 (Below w.heap.size w w'))
          case atStart => exact ⟨(y279), (0), (0), w1_, w1_, H', ⟨Nat.le_refl _⟩, ⟨by (with_reducible repeat (first | apply Kd.R_alloc | apply Kd.R_drewN | apply Kd.R_drew)); exact HO281.out⟩, ⟨by repeat (first | (with_reducible first | exact HB.out | apply below_alloc | apply pw_below_drewN | apply below_drew1) | exact HB.out)⟩⟩
          case round =>
            clear H'
            try clear c2
            try clear p2
            try clear c4
            try clear c4b0
            try clear c4b1
            try clear c6
            try clear c6b0
            try clear c6b1
            try clear p6
            try clear c7
            try clear c7b0
            try clear c7b1
            try clear p2
            obtain ⟨x6_2, x7_2, x8_2, rfl, rfl, HA, HK2, HO_6, HB⟩ := hrel
            cases gk with
            | zero => exact absurd HA.out (by simp [abacusref05_add.l0])
            | succ k2 =>
              have H := HA.out
              clear HA
              simp only [abacusref05_add.l0] at H
              by_cases c10 : x8_2 ≤ x5_2
              · rw [if_pos c10] at H
                have c10b0 : decide (x8_2 ≤ x5_2) = true := decide_eq_true c10
                clear c10
                replace H := Option.bind_eq_some_iff.mp H
                obtain ⟨t282, A110, H⟩ := H
                replace H : ((abacusref05_at.f a1 x8_2).bind fun t283 => (if 0 ≤ x8_2 then (if x8_2 < (x6_2.length : Int) then (abacusref05_add.l0 k2 a0 a1 x5_2 (x6_2.set (x8_2 : Int).toNat ((wrap64 ((wrap64 (x7_2 + t282)) + t283)) % 256)) ((wrap64 ((wrap64 (x7_2 + t282)) + t283)) / 256) (wrap64 (x8_2 + 1))) else (none)) else (none))) = some r := H
                have A11 := Aside0.mk A110
                clear A110
                replace H := Option.bind_eq_some_iff.mp H
                obtain ⟨t283, A120, H⟩ := H
                replace H : (if 0 ≤ x8_2 then (if x8_2 < (x6_2.length : Int) then (abacusref05_add.l0 k2 a0 a1 x5_2 (x6_2.set (x8_2 : Int).toNat ((wrap64 ((wrap64 (x7_2 + t282)) + t283)) % 256)) ((wrap64 ((wrap64 (x7_2 + t282)) + t283)) / 256) (wrap64 (x8_2 + 1))) else (none)) else (none)) = some r := H
                have A12 := Aside0.mk A120
                clear A120
                by_cases c13 : 0 ≤ x8_2
                · rw [if_pos c13] at H
                  have c13b0 : decide (0 ≤ x8_2) = true := decide_eq_true c13
                  clear c13
                  by_cases c14 : x8_2 < (x6_2.length : Int)
                  · rw [if_pos c14] at H
                    have c14b0 : decide (x8_2 < (x6_2.length : Int)) = true := decide_eq_true c14
                    clear c14
                    obtain ⟨y284, hy284⟩ : ∃ y_ : List Int, y_ = (x6_2.set (x8_2 : Int).toNat ((wrap64 ((wrap64 (x7_2 + t282)) + t283)) % 256)) := ⟨_, rfl⟩
                    replace H : (abacusref05_add.l0 k2 a0 a1 x5_2 y284 ((wrap64 ((wrap64 (x7_2 + t282)) + t283)) / 256) (wrap64 (x8_2 + 1))) = some r := by first | (rw [hy284]; with_reducible exact H) | (have H2_ := (Option.bind_some _ _).symm.trans H; rw [hy284]; with_reducible exact H2_) | (have H2_ := (Option.bind_some _ _).symm.trans H; with_reducible exact H2_) | with_reducible exact H | (rw [hy284]; exact H) | exact H
                    have Ny284 := Aside0.mk hy284
                    clear hy284
                    have H' := Aside0.mk H
                    clear H
                    go_wp2_with (first | ((with_reducible refine gate_callee (f := 136) rfl ?_); refine goesL_ (some 28) rfl rfl Tryz.func136 (by kernel_rfl) rfl #[.string a0, .int .i64 x8_2] rfl w2_ ?_; (with_reducible refine (abacusref05_at.calls a0 x8_2 t282 _ A11.out).mono ?_); rintro e w' ⟨rfl, ⟨nd, rfl⟩⟩; refine ⟨_, rfl, ?_⟩; (try (rw [drewN_self wr]; generalize hq_ : World.drewN wr _ = wr; have n0_ : Aside0 (Kd.R (Kd.int .u8) 5 wr w.heap.size (fun _ => True) v280 x6_2) := ⟨by rw [← hq_]; exact w7_⟩; have n1_ : Aside0 (Below w.heap.size w wr) := ⟨by rw [← hq_]; exact w4_⟩; clear HO_6 HB hq_; have HO_6 := n0_; have HB := n1_; clear n0_ n1_))) | ((with_reducible refine gate_callee (f := 136) rfl ?_); refine goesL_ (some 32) rfl rfl Tryz.func136 (by kernel_rfl) rfl #[.string a1, .int .i64 x8_2] rfl w2_ ?_; (with_reducible refine (abacusref05_at.calls a1 x8_2 t283 _ A12.out).mono ?_); rintro e w' ⟨rfl, ⟨nd, rfl⟩⟩; refine ⟨_, rfl, ?_⟩; (try (rw [drewN_self wr]; generalize hq_ : World.drewN wr _ = wr; have n0_ : Aside0 (Kd.R (Kd.int .u8) 5 wr w.heap.size (fun _ => True) v280 x6_2) := ⟨by rw [← hq_]; exact w7_⟩; have n1_ : Aside0 (Below w.heap.size w wr) := ⟨by rw [← hq_]; exact w4_⟩; clear HO_6 HB hq_; have HO_6 := n0_; have HB := n1_; clear n0_ n1_)); have p15 : 0 ≤ (x8_2 : Int) := of_decide_eq_true w3_; have q15 : (x8_2 : Int) < ((x6_2.length : Int) : Int) := of_decide_eq_true w3_; obtain ⟨go15, co15, eo15, gb15, gl15, cl15, HG15⟩ := Kd.R_form HO_6.out (by omega); (first | cases eo15 | (injection eo15 with ea_ en_ ec_; (first | subst ea_ | (injection ea_ with ea_; subst ea_)); subst ec_; clear en_)); have GB15 := Aside0.mk gb15; have GG15 := Aside0.mk HG15; clear gb15 gl15 HG15; obtain ⟨hx15_0, hf15_0⟩ := Kd.R_celln 0 HO_6.out (x8_2 : Int) p15 q15; replace p15 := eq_true p15; replace q15 := eq_true q15; obtain ⟨hy16_, hz16_⟩ := Kd.R_celln 0 HO_6.out (x8_2 : Int) (of_decide_eq_true w3_) (of_decide_eq_true w3_); have HP16 := Kd.R_putg HO_6.out (x8_2 : Int) ((wrap64 ((wrap64 (x7_2 + t282)) + t283)) % 256)) | ((with_reducible refine gate_store (t := 5) (p := 38) rfl ?_); refine store_event (t := 5) (p := 38) (v := ?vo_w17) (w1 := (wr.setCell ⟨go15, (x8_2 : Int).toNat, none⟩ (.int .u8 ((wrap64 ((wrap64 (x7_2 + t282)) + t283)) % 256)))) ?hg ?ho ?hn ?hr ?_; (case ho => rfl); (case hg => rfl); (case hn => rfl); (case hr => first | (go_simp; done) | (go_simp; rfl)); intro w17 hw; have hg : wr.grownBy w17 (some go15) := (by rw [hw]; exact HP16.2); have hp_ : Kd.R (Kd.int .u8) 5 w17 w.heap.size (fun _ => True) (.slice (some ⟨go15, 0, none⟩) x6_2.length co15) y284 := (by rw [hw, Ny284.out]; exact HP16.1); clear HP16; have n0_ := Aside0.mk (hp_); have n1_ := Aside0.mk ((by rw [hw]; exact below_set (HB.out) GB15.out : Below w.heap.size w w17)); clear HO_6; clear HB; have HO_6 := n0_; have HB := n1_; clear n0_ n1_; clear hg hw hp_))
                    go_roundg k2
                    case measure => have := HJ2.out; have := HK2.out; omega
                    case rel => exact ⟨(y284), ((wrap64 ((wrap64 (x7_2 + t282)) + t283)) / 256), (wrap64 (x8_2 + 1)), w1_, w1_, H', ⟨by have := HJ2.out; have := HK2.out; omega⟩, ⟨by (with_reducible repeat (first | apply Kd.R_alloc | apply Kd.R_drewN | apply Kd.R_drew)); exact HO_6.out⟩, ⟨by repeat (first | (with_reducible first | exact HB.out | apply below_alloc | apply pw_below_drewN | apply below_drew1) | exact HB.out)⟩⟩
                  · rw [if_neg c14] at H
                    exact absurd H (by simp)
                · rw [if_neg c13] at H
                  exact absurd H (by simp)
              · rw [if_neg c10] at H
                have c10b0 : decide (x8_2 ≤ x5_2) = false := decide_eq_false c10
                clear c10
                replace H := Option.bind_eq_some_iff.mp H
                obtain ⟨t285, A180, H⟩ := H
                replace H : (some t285) = some r := H
                have A18 := Aside0.mk A180
                clear A180
                obtain rfl := Option.some.inj H
                obtain ⟨Ao19, co19, eo19⟩ := Kd.R_slice HO_6.out
                subst eo19
                go_wp2_with (first | ((with_reducible refine gate_callee (f := 134) rfl ?_); refine goesL_ (some 42) rfl rfl Tryz.func134 (by kernel_rfl) rfl #[.slice Ao19 x6_2.length co19] rfl w2_ ?_; (with_reducible refine (abacusref05_fit.calls k2 _ _ x6_2 t285 _ ?side1 ?side2 A18.out).mono ?_); (case side1 => repeat (first | exact (Kd.R_reads' HO_6.out).2.2 | (with_reducible refine Kd.C_alloc ?_ _) | (with_reducible refine Kd.C_drewN ?_ _) | (with_reducible refine Kd.C_drew ?_))); (case side2 => exact (Kd.R_reads' HO_6.out).2.1); rintro e w20 ⟨rfl, hb⟩; refine ⟨_, rfl, ?_⟩; have n0_ := Aside0.mk (Kd.R_below w7_ hb); have n1_ := Aside0.mk (below_step w4_ hb); clear HO_6; clear HB; have HO_6 := n0_; have HB := n1_; clear n0_ n1_; (try clear hb); (try clear hb2); (try clear hk); (try clear hi)))
                go_ret
                exact ⟨by first | rfl | (simp [errW_none, errW_some] <;> rfl) | (simp only [← hji5]; first | rfl | (simp [errW_none, errW_some] <;> rfl)) | (simp [*, errW_none, errW_some] <;> rfl), by repeat (first | (with_reducible first | exact HB.out | apply below_alloc | apply pw_below_drewN | apply below_drew1) | exact HB.out)⟩
        · rw [if_neg c7] at H
          exact absurd H (by simp)
      · rw [if_neg c6] at H
        exact absurd H (by simp)
def abacusref05_Sqrt.l0 : Nat → ByteArray → ByteArray → ByteArray → Int → Option (ByteArray × ByteArray)
  | 0, _, _, _, _ => none
  | k + 1, x0, x4, x5, x6 => if x6 ≥ 0 then ((abacusref05_bit.f x0 (wrap64 ((wrap64 (2 * x6)) + 1))).bind fun t287 => ((abacusref05_double.f k x5 t287).bind fun t288 => ((abacusref05_bit.f x0 (wrap64 (2 * x6))).bind fun t289 => ((abacusref05_double.f k t288 t289).bind fun t290 => ((abacusref05_double.f k x4 0).bind fun t291 => ((abacusref05_double.f k t291 1).bind fun t292 => ((abacusref05_double.f k x4 0).bind fun t293 => ((abacusref05_Cmp.f t290 t292).bind fun t294 => (if t294 ≥ 0 then ((abacusref05_sub.f k t290 t292).bind fun t295 => ((abacusref05_Of.f k 1).bind fun t296 => ((abacusref05_add.f k t293 t296).bind fun t297 => (abacusref05_Sqrt.l0 k x0 t297 t295 (wrap64 (x6 - 1)))))) else (abacusref05_Sqrt.l0 k x0 t293 t290 (wrap64 (x6 - 1)))))))))))) else (some (x4, x5))
def abacusref05_Sqrt.f (k : Nat) (a0 : ByteArray) : Option (ByteArray × ByteArray) := (abacusref05_Len.f k a0).bind fun t286 => (abacusref05_Sqrt.l0 k a0 (⟨#[]⟩ : ByteArray) (⟨#[]⟩ : ByteArray) (wrap64 (Int.tdiv (wrap64 (t286 + 1)) 2)))
set_option maxHeartbeats 8000000 in
set_option maxRecDepth 100000 in
theorem abacusref05_Sqrt.calls (k : Nat) (a0 : ByteArray) (r1 : ByteArray) (r2 : ByteArray) (w : World) (h : abacusref05_Sqrt.f k a0 = some (r1, r2)) :
    Calls Tryz.prog 228 #[.string a0] w fun e w' => e = .returned (.tuple #[.string r1, .string r2]) ∧ Below w.heap.size w w' := by
  have HB := Aside0.mk (Below.refl w.heap.size w)
  have H : ((abacusref05_Len.f k a0).bind fun t286 => (abacusref05_Sqrt.l0 k a0 (⟨#[]⟩ : ByteArray) (⟨#[]⟩ : ByteArray) (wrap64 (Int.tdiv (wrap64 (t286 + 1)) 2)))) = some (r1, r2) := h
  clear h
  replace H := Option.bind_eq_some_iff.mp H
  obtain ⟨t286, A20, H⟩ := H
  replace H : (abacusref05_Sqrt.l0 k a0 (⟨#[]⟩ : ByteArray) (⟨#[]⟩ : ByteArray) (wrap64 (Int.tdiv (wrap64 (t286 + 1)) 2))) = some (r1, r2) := H
  have A2 := Aside0.mk A20
  clear A20
  have H' := Aside0.mk H
  clear H
  go_enter Tryz.func228, Tryz.ntmps228
  go_wp2_with (first | ((with_reducible refine gate_callee (f := 203) rfl ?_); refine goesL_ (some 9) rfl rfl Tryz.func203 (by kernel_rfl) rfl #[.string a0] rfl w2_ ?_; (with_reducible refine (abacusref05_Len.calls k a0 t286 _ A2.out).mono ?_); rintro e w' ⟨rfl, ⟨nd, rfl⟩⟩; refine ⟨_, rfl, ?_⟩))
  go_loopg [4, 5, 6] k (fun kq v4 v5 v6 w' => ∃ (x4_1 : ByteArray) (x5_1 : ByteArray) (x6_1 : Int), v4 = .string x4_1 ∧ v5 = .string x5_1 ∧ v6 = .int .i64 x6_1 ∧ Aside0 (abacusref05_Sqrt.l0 kq a0 x4_1 x5_1 x6_1 = some (r1, r2)) ∧ Aside0 (kq ≤ k) ∧ Aside0 (Below w.heap.size w w'))
  case atStart => exact ⟨((⟨#[]⟩ : ByteArray)), ((⟨#[]⟩ : ByteArray)), (wrap64 (Int.tdiv (wrap64 (t286 + 1)) 2)), w1_, w1_, w1_, H', ⟨Nat.le_refl _⟩, ⟨by repeat (first | (with_reducible first | exact HB.out | apply below_alloc | apply pw_below_drewN | apply below_drew1) | exact HB.out)⟩⟩
  case round =>
    clear H'
    try clear c2
    try clear p2
    obtain ⟨x4_1, x5_1, x6_1, rfl, rfl, rfl, HA, HK1, HB⟩ := hrel
    cases gk with
    | zero => exact absurd HA.out (by simp [abacusref05_Sqrt.l0])
    | succ k1 =>
      have H := HA.out
      clear HA
      simp only [abacusref05_Sqrt.l0] at H
      by_cases c3 : x6_1 ≥ 0
      · rw [if_pos c3] at H
        have c3b0 : decide (0 ≤ x6_1) = true := decide_eq_true c3
        clear c3
        replace H := Option.bind_eq_some_iff.mp H
        obtain ⟨t287, A40, H⟩ := H
        replace H : ((abacusref05_double.f k1 x5_1 t287).bind fun t288 => ((abacusref05_bit.f a0 (wrap64 (2 * x6_1))).bind fun t289 => ((abacusref05_double.f k1 t288 t289).bind fun t290 => ((abacusref05_double.f k1 x4_1 0).bind fun t291 => ((abacusref05_double.f k1 t291 1).bind fun t292 => ((abacusref05_double.f k1 x4_1 0).bind fun t293 => ((abacusref05_Cmp.f t290 t292).bind fun t294 => (if t294 ≥ 0 then ((abacusref05_sub.f k1 t290 t292).bind fun t295 => ((abacusref05_Of.f k1 1).bind fun t296 => ((abacusref05_add.f k1 t293 t296).bind fun t297 => (abacusref05_Sqrt.l0 k1 a0 t297 t295 (wrap64 (x6_1 - 1)))))) else (abacusref05_Sqrt.l0 k1 a0 t293 t290 (wrap64 (x6_1 - 1))))))))))) = some (r1, r2) := H
        have A4 := Aside0.mk A40
        clear A40
        replace H := Option.bind_eq_some_iff.mp H
        obtain ⟨t288, A50, H⟩ := H
        replace H : ((abacusref05_bit.f a0 (wrap64 (2 * x6_1))).bind fun t289 => ((abacusref05_double.f k1 t288 t289).bind fun t290 => ((abacusref05_double.f k1 x4_1 0).bind fun t291 => ((abacusref05_double.f k1 t291 1).bind fun t292 => ((abacusref05_double.f k1 x4_1 0).bind fun t293 => ((abacusref05_Cmp.f t290 t292).bind fun t294 => (if t294 ≥ 0 then ((abacusref05_sub.f k1 t290 t292).bind fun t295 => ((abacusref05_Of.f k1 1).bind fun t296 => ((abacusref05_add.f k1 t293 t296).bind fun t297 => (abacusref05_Sqrt.l0 k1 a0 t297 t295 (wrap64 (x6_1 - 1)))))) else (abacusref05_Sqrt.l0 k1 a0 t293 t290 (wrap64 (x6_1 - 1)))))))))) = some (r1, r2) := H
        have A5 := Aside0.mk A50
        clear A50
        replace H := Option.bind_eq_some_iff.mp H
        obtain ⟨t289, A60, H⟩ := H
        replace H : ((abacusref05_double.f k1 t288 t289).bind fun t290 => ((abacusref05_double.f k1 x4_1 0).bind fun t291 => ((abacusref05_double.f k1 t291 1).bind fun t292 => ((abacusref05_double.f k1 x4_1 0).bind fun t293 => ((abacusref05_Cmp.f t290 t292).bind fun t294 => (if t294 ≥ 0 then ((abacusref05_sub.f k1 t290 t292).bind fun t295 => ((abacusref05_Of.f k1 1).bind fun t296 => ((abacusref05_add.f k1 t293 t296).bind fun t297 => (abacusref05_Sqrt.l0 k1 a0 t297 t295 (wrap64 (x6_1 - 1)))))) else (abacusref05_Sqrt.l0 k1 a0 t293 t290 (wrap64 (x6_1 - 1))))))))) = some (r1, r2) := H
        have A6 := Aside0.mk A60
        clear A60
        replace H := Option.bind_eq_some_iff.mp H
        obtain ⟨t290, A70, H⟩ := H
        replace H : ((abacusref05_double.f k1 x4_1 0).bind fun t291 => ((abacusref05_double.f k1 t291 1).bind fun t292 => ((abacusref05_double.f k1 x4_1 0).bind fun t293 => ((abacusref05_Cmp.f t290 t292).bind fun t294 => (if t294 ≥ 0 then ((abacusref05_sub.f k1 t290 t292).bind fun t295 => ((abacusref05_Of.f k1 1).bind fun t296 => ((abacusref05_add.f k1 t293 t296).bind fun t297 => (abacusref05_Sqrt.l0 k1 a0 t297 t295 (wrap64 (x6_1 - 1)))))) else (abacusref05_Sqrt.l0 k1 a0 t293 t290 (wrap64 (x6_1 - 1)))))))) = some (r1, r2) := H
        have A7 := Aside0.mk A70
        clear A70
        replace H := Option.bind_eq_some_iff.mp H
        obtain ⟨t291, A80, H⟩ := H
        replace H : ((abacusref05_double.f k1 t291 1).bind fun t292 => ((abacusref05_double.f k1 x4_1 0).bind fun t293 => ((abacusref05_Cmp.f t290 t292).bind fun t294 => (if t294 ≥ 0 then ((abacusref05_sub.f k1 t290 t292).bind fun t295 => ((abacusref05_Of.f k1 1).bind fun t296 => ((abacusref05_add.f k1 t293 t296).bind fun t297 => (abacusref05_Sqrt.l0 k1 a0 t297 t295 (wrap64 (x6_1 - 1)))))) else (abacusref05_Sqrt.l0 k1 a0 t293 t290 (wrap64 (x6_1 - 1))))))) = some (r1, r2) := H
        have A8 := Aside0.mk A80
        clear A80
        replace H := Option.bind_eq_some_iff.mp H
        obtain ⟨t292, A90, H⟩ := H
        replace H : ((abacusref05_double.f k1 x4_1 0).bind fun t293 => ((abacusref05_Cmp.f t290 t292).bind fun t294 => (if t294 ≥ 0 then ((abacusref05_sub.f k1 t290 t292).bind fun t295 => ((abacusref05_Of.f k1 1).bind fun t296 => ((abacusref05_add.f k1 t293 t296).bind fun t297 => (abacusref05_Sqrt.l0 k1 a0 t297 t295 (wrap64 (x6_1 - 1)))))) else (abacusref05_Sqrt.l0 k1 a0 t293 t290 (wrap64 (x6_1 - 1)))))) = some (r1, r2) := H
        have A9 := Aside0.mk A90
        clear A90
        replace H := Option.bind_eq_some_iff.mp H
        obtain ⟨t293, A100, H⟩ := H
        replace H : ((abacusref05_Cmp.f t290 t292).bind fun t294 => (if t294 ≥ 0 then ((abacusref05_sub.f k1 t290 t292).bind fun t295 => ((abacusref05_Of.f k1 1).bind fun t296 => ((abacusref05_add.f k1 t293 t296).bind fun t297 => (abacusref05_Sqrt.l0 k1 a0 t297 t295 (wrap64 (x6_1 - 1)))))) else (abacusref05_Sqrt.l0 k1 a0 t293 t290 (wrap64 (x6_1 - 1))))) = some (r1, r2) := H
        have A10 := Aside0.mk A100
        clear A100
        replace H := Option.bind_eq_some_iff.mp H
        obtain ⟨t294, A110, H⟩ := H
        replace H : (if t294 ≥ 0 then ((abacusref05_sub.f k1 t290 t292).bind fun t295 => ((abacusref05_Of.f k1 1).bind fun t296 => ((abacusref05_add.f k1 t293 t296).bind fun t297 => (abacusref05_Sqrt.l0 k1 a0 t297 t295 (wrap64 (x6_1 - 1)))))) else (abacusref05_Sqrt.l0 k1 a0 t293 t290 (wrap64 (x6_1 - 1)))) = some (r1, r2) := H
        have A11 := Aside0.mk A110
        clear A110
        by_cases c12 : t294 ≥ 0
        · rw [if_pos c12] at H
          have c12b0 : decide (0 ≤ t294) = true := decide_eq_true c12
          clear c12
          replace H := Option.bind_eq_some_iff.mp H
          obtain ⟨t295, A130, H⟩ := H
          replace H : ((abacusref05_Of.f k1 1).bind fun t296 => ((abacusref05_add.f k1 t293 t296).bind fun t297 => (abacusref05_Sqrt.l0 k1 a0 t297 t295 (wrap64 (x6_1 - 1))))) = some (r1, r2) := H
          have A13 := Aside0.mk A130
          clear A130
          replace H := Option.bind_eq_some_iff.mp H
          obtain ⟨t296, A140, H⟩ := H
          replace H : ((abacusref05_add.f k1 t293 t296).bind fun t297 => (abacusref05_Sqrt.l0 k1 a0 t297 t295 (wrap64 (x6_1 - 1)))) = some (r1, r2) := H
          have A14 := Aside0.mk A140
          clear A140
          replace H := Option.bind_eq_some_iff.mp H
          obtain ⟨t297, A150, H⟩ := H
          replace H : (abacusref05_Sqrt.l0 k1 a0 t297 t295 (wrap64 (x6_1 - 1))) = some (r1, r2) := H
          have A15 := Aside0.mk A150
          clear A150
          have H' := Aside0.mk H
          clear H
          go_wp2_with (first | ((with_reducible refine gate_callee (f := 205) rfl ?_); refine goesL_ (some 21) rfl rfl Tryz.func205 (by kernel_rfl) rfl #[.string a0, .int .i64 (wrap64 ((wrap64 (2 * x6_1)) + 1))] rfl w2_ ?_; (with_reducible refine (abacusref05_bit.calls a0 (wrap64 ((wrap64 (2 * x6_1)) + 1)) t287 _ A4.out).mono ?_); rintro e w' ⟨rfl, ⟨nd, rfl⟩⟩; refine ⟨_, rfl, ?_⟩) | ((with_reducible refine gate_callee (f := 204) rfl ?_); refine goesL_ (some 22) rfl rfl Tryz.func204 (by kernel_rfl) rfl #[.string x5_1, .int .i64 t287] rfl w2_ ?_; (with_reducible refine (abacusref05_double.calls k1 x5_1 t287 t288 _ A5.out).mono ?_); rintro e w16 ⟨rfl, hb⟩; refine ⟨_, rfl, ?_⟩; have n0_ := Aside0.mk (below_step w4_ hb); clear HB; have HB := n0_; clear n0_; (try clear hb); (try clear hb2); (try clear hk); (try clear hi)) | ((with_reducible refine gate_callee (f := 205) rfl ?_); refine goesL_ (some 26) rfl rfl Tryz.func205 (by kernel_rfl) rfl #[.string a0, .int .i64 (wrap64 (2 * x6_1))] rfl w2_ ?_; (with_reducible refine (abacusref05_bit.calls a0 (wrap64 (2 * x6_1)) t289 _ A6.out).mono ?_); rintro e w' ⟨rfl, ⟨nd, rfl⟩⟩; refine ⟨_, rfl, ?_⟩) | ((with_reducible refine gate_callee (f := 204) rfl ?_); refine goesL_ (some 27) rfl rfl Tryz.func204 (by kernel_rfl) rfl #[.string t288, .int .i64 t289] rfl w2_ ?_; (with_reducible refine (abacusref05_double.calls k1 t288 t289 t290 _ A7.out).mono ?_); rintro e w17 ⟨rfl, hb⟩; refine ⟨_, rfl, ?_⟩; have n0_ := Aside0.mk (below_step w4_ hb); clear HB; have HB := n0_; clear n0_; (try clear hb); (try clear hb2); (try clear hk); (try clear hi)) | ((with_reducible refine gate_callee (f := 204) rfl ?_); refine goesL_ (some 29) rfl rfl Tryz.func204 (by kernel_rfl) rfl #[.string x4_1, .int .i64 0] rfl w2_ ?_; (with_reducible refine (abacusref05_double.calls k1 x4_1 0 t291 _ A8.out).mono ?_); rintro e w18 ⟨rfl, hb⟩; refine ⟨_, rfl, ?_⟩; have n0_ := Aside0.mk (below_step w4_ hb); clear HB; have HB := n0_; clear n0_; (try clear hb); (try clear hb2); (try clear hk); (try clear hi)) | ((with_reducible refine gate_callee (f := 204) rfl ?_); refine goesL_ (some 30) rfl rfl Tryz.func204 (by kernel_rfl) rfl #[.string t291, .int .i64 1] rfl w2_ ?_; (with_reducible refine (abacusref05_double.calls k1 t291 1 t292 _ A9.out).mono ?_); rintro e w19 ⟨rfl, hb⟩; refine ⟨_, rfl, ?_⟩; have n0_ := Aside0.mk (below_step w4_ hb); clear HB; have HB := n0_; clear n0_; (try clear hb); (try clear hb2); (try clear hk); (try clear hi)) | ((with_reducible refine gate_callee (f := 204) rfl ?_); refine goesL_ (some 32) rfl rfl Tryz.func204 (by kernel_rfl) rfl #[.string x4_1, .int .i64 0] rfl w2_ ?_; (with_reducible refine (abacusref05_double.calls k1 x4_1 0 t293 _ A10.out).mono ?_); rintro e w20 ⟨rfl, hb⟩; refine ⟨_, rfl, ?_⟩; have n0_ := Aside0.mk (below_step w4_ hb); clear HB; have HB := n0_; clear n0_; (try clear hb); (try clear hb2); (try clear hk); (try clear hi)) | ((with_reducible refine gate_callee (f := 57) rfl ?_); refine goesL_ (some 35) rfl rfl Tryz.func57 (by kernel_rfl) rfl #[.string t290, .string t292] rfl w2_ ?_; (with_reducible refine (abacusref05_Cmp.calls t290 t292 t294 _ A11.out).mono ?_); rintro e w' ⟨rfl, ⟨nd, rfl⟩⟩; refine ⟨_, rfl, ?_⟩) | ((with_reducible refine gate_callee (f := 206) rfl ?_); refine goesL_ (some 39) rfl rfl Tryz.func206 (by kernel_rfl) rfl #[.string t290, .string t292] rfl w2_ ?_; (with_reducible refine (abacusref05_sub.calls k1 t290 t292 t295 _ A13.out).mono ?_); rintro e w21 ⟨rfl, hb⟩; refine ⟨_, rfl, ?_⟩; have n0_ := Aside0.mk (below_step w4_ hb); clear HB; have HB := n0_; clear n0_; (try clear hb); (try clear hb2); (try clear hk); (try clear hi)) | ((with_reducible refine gate_callee (f := 58) rfl ?_); refine goesL_ (some 41) rfl rfl Tryz.func58 (by kernel_rfl) rfl #[.int .u64 1] rfl w2_ ?_; (with_reducible refine (abacusref05_Of.calls k1 1 t296 _ A14.out).mono ?_); rintro e w22 ⟨rfl, hb⟩; refine ⟨_, rfl, ?_⟩; have n0_ := Aside0.mk (below_step w4_ hb); clear HB; have HB := n0_; clear n0_; (try clear hb); (try clear hb2); (try clear hk); (try clear hi)) | ((with_reducible refine gate_callee (f := 200) rfl ?_); refine goesL_ (some 42) rfl rfl Tryz.func200 (by kernel_rfl) rfl #[.string t293, .string t296] rfl w2_ ?_; (with_reducible refine (abacusref05_add.calls k1 t293 t296 t297 _ A15.out).mono ?_); rintro e w23 ⟨rfl, hb⟩; refine ⟨_, rfl, ?_⟩; have n0_ := Aside0.mk (below_step w4_ hb); clear HB; have HB := n0_; clear n0_; (try clear hb); (try clear hb2); (try clear hk); (try clear hi)))
          go_roundg k1
          case measure => have := HK1.out; omega
          case rel => exact ⟨(t297), (t295), (wrap64 (x6_1 - 1)), w1_, w1_, w1_, H', ⟨by have := HK1.out; omega⟩, ⟨by repeat (first | (with_reducible first | exact HB.out | apply below_alloc | apply pw_below_drewN | apply below_drew1) | exact HB.out)⟩⟩
        · rw [if_neg c12] at H
          have c12b0 : decide (0 ≤ t294) = false := decide_eq_false c12
          clear c12
          have H' := Aside0.mk H
          clear H
          go_wp2_with (first | ((with_reducible refine gate_callee (f := 205) rfl ?_); refine goesL_ (some 21) rfl rfl Tryz.func205 (by kernel_rfl) rfl #[.string a0, .int .i64 (wrap64 ((wrap64 (2 * x6_1)) + 1))] rfl w2_ ?_; (with_reducible refine (abacusref05_bit.calls a0 (wrap64 ((wrap64 (2 * x6_1)) + 1)) t287 _ A4.out).mono ?_); rintro e w' ⟨rfl, ⟨nd, rfl⟩⟩; refine ⟨_, rfl, ?_⟩) | ((with_reducible refine gate_callee (f := 204) rfl ?_); refine goesL_ (some 22) rfl rfl Tryz.func204 (by kernel_rfl) rfl #[.string x5_1, .int .i64 t287] rfl w2_ ?_; (with_reducible refine (abacusref05_double.calls k1 x5_1 t287 t288 _ A5.out).mono ?_); rintro e w24 ⟨rfl, hb⟩; refine ⟨_, rfl, ?_⟩; have n0_ := Aside0.mk (below_step w4_ hb); clear HB; have HB := n0_; clear n0_; (try clear hb); (try clear hb2); (try clear hk); (try clear hi)) | ((with_reducible refine gate_callee (f := 205) rfl ?_); refine goesL_ (some 26) rfl rfl Tryz.func205 (by kernel_rfl) rfl #[.string a0, .int .i64 (wrap64 (2 * x6_1))] rfl w2_ ?_; (with_reducible refine (abacusref05_bit.calls a0 (wrap64 (2 * x6_1)) t289 _ A6.out).mono ?_); rintro e w' ⟨rfl, ⟨nd, rfl⟩⟩; refine ⟨_, rfl, ?_⟩) | ((with_reducible refine gate_callee (f := 204) rfl ?_); refine goesL_ (some 27) rfl rfl Tryz.func204 (by kernel_rfl) rfl #[.string t288, .int .i64 t289] rfl w2_ ?_; (with_reducible refine (abacusref05_double.calls k1 t288 t289 t290 _ A7.out).mono ?_); rintro e w25 ⟨rfl, hb⟩; refine ⟨_, rfl, ?_⟩; have n0_ := Aside0.mk (below_step w4_ hb); clear HB; have HB := n0_; clear n0_; (try clear hb); (try clear hb2); (try clear hk); (try clear hi)) | ((with_reducible refine gate_callee (f := 204) rfl ?_); refine goesL_ (some 29) rfl rfl Tryz.func204 (by kernel_rfl) rfl #[.string x4_1, .int .i64 0] rfl w2_ ?_; (with_reducible refine (abacusref05_double.calls k1 x4_1 0 t291 _ A8.out).mono ?_); rintro e w26 ⟨rfl, hb⟩; refine ⟨_, rfl, ?_⟩; have n0_ := Aside0.mk (below_step w4_ hb); clear HB; have HB := n0_; clear n0_; (try clear hb); (try clear hb2); (try clear hk); (try clear hi)) | ((with_reducible refine gate_callee (f := 204) rfl ?_); refine goesL_ (some 30) rfl rfl Tryz.func204 (by kernel_rfl) rfl #[.string t291, .int .i64 1] rfl w2_ ?_; (with_reducible refine (abacusref05_double.calls k1 t291 1 t292 _ A9.out).mono ?_); rintro e w27 ⟨rfl, hb⟩; refine ⟨_, rfl, ?_⟩; have n0_ := Aside0.mk (below_step w4_ hb); clear HB; have HB := n0_; clear n0_; (try clear hb); (try clear hb2); (try clear hk); (try clear hi)) | ((with_reducible refine gate_callee (f := 204) rfl ?_); refine goesL_ (some 32) rfl rfl Tryz.func204 (by kernel_rfl) rfl #[.string x4_1, .int .i64 0] rfl w2_ ?_; (with_reducible refine (abacusref05_double.calls k1 x4_1 0 t293 _ A10.out).mono ?_); rintro e w28 ⟨rfl, hb⟩; refine ⟨_, rfl, ?_⟩; have n0_ := Aside0.mk (below_step w4_ hb); clear HB; have HB := n0_; clear n0_; (try clear hb); (try clear hb2); (try clear hk); (try clear hi)) | ((with_reducible refine gate_callee (f := 57) rfl ?_); refine goesL_ (some 35) rfl rfl Tryz.func57 (by kernel_rfl) rfl #[.string t290, .string t292] rfl w2_ ?_; (with_reducible refine (abacusref05_Cmp.calls t290 t292 t294 _ A11.out).mono ?_); rintro e w' ⟨rfl, ⟨nd, rfl⟩⟩; refine ⟨_, rfl, ?_⟩))
          go_roundg k1
          case measure => have := HK1.out; omega
          case rel => exact ⟨(t293), (t290), (wrap64 (x6_1 - 1)), w1_, w1_, w1_, H', ⟨by have := HK1.out; omega⟩, ⟨by repeat (first | (with_reducible first | exact HB.out | apply below_alloc | apply pw_below_drewN | apply below_drew1) | exact HB.out)⟩⟩
      · rw [if_neg c3] at H
        have c3b0 : decide (0 ≤ x6_1) = false := decide_eq_false c3
        clear c3
        simp only [Option.some.injEq, Prod.mk.injEq] at H
        obtain ⟨rfl, rfl⟩ := H
        go_wp2
        go_ret2
        exact ⟨by first | rfl | (simp [errW_none, errW_some] <;> rfl) | (simp [*, errW_none, errW_some] <;> rfl), by repeat (first | (with_reducible first | exact HB.out | apply below_alloc | apply pw_below_drewN | apply below_drew1) | exact HB.out)⟩
end Go.Proofs.YtgmhmpflmgfcdaaGreatDoor.PDivQuotients
