/- Part 32 of what is proved: Dlj, Rd, Unq, Grd, Sht, Pck, Opb, Pa, Fin2, R20, R19d, R20j. -/
import Derived.Outline
import Derived.Test.YtgmhmpflmgfcdaaGreatDoorHf1
import Derived.Test.YtgmhmpflmgfcdaaGreatDoorHf2
import Derived.Test.YtgmhmpflmgfcdaaGreatDoorHf3
import Derived.Test.YtgmhmpflmgfcdaaGreatDoorHf4
import Derived.Test.YtgmhmpflmgfcdaaGreatDoorHf5
import Derived.Test.YtgmhmpflmgfcdaaGreatDoorHf6
import Derived.Test.YtgmhmpflmgfcdaaGreatDoorHf27
import Derived.Test.YtgmhmpflmgfcdaaGreatDoorHf28
import Derived.Test.YtgmhmpflmgfcdaaGreatDoorHf31
set_option linter.unusedSimpArgs false
set_option linter.unusedVariables false
set_option linter.unnecessarySimpa false
set_option maxRecDepth 100000
set_option maxHeartbeats 1600000
namespace Go.Proofs.YtgmhmpflmgfcdaaGreatDoor
open Go.RowKit Go.Proofs.YtgmhmpflmgfcdaaGreatDoorW.PrintWords Go.Proofs.YtgmhmpflmgfcdaaGreatDoor.PDivQuotients
def flA (r : Nat × Nat) : Value := .tuple #[BV r.1, .int .u8 r.2]
theorem src_topQ (root : Bool) (n d : Nat) (e : Int) (hd : 0 < d) (hn : n ≠ 0) : Top (srcX root n d e hd) (topR root (topX n d + e)) := by
  cases root
  · exact rat_top n d e hn hd
  · exact root_top _ _ (rat_top n d e hn hd)
theorem numX_zero (g : Nat) (h : g = 0) : numX g 1 = 0 := by unfold numX; rw [if_pos h]
theorem lenN_div_le (g k : Nat) : lenN (g / k) ≤ lenN g := len_monoQ _ _ (Nat.div_le_self g k)
theorem r9deliver_any (f m : Nat) (neg root : Bool) (n d : Nat) (e : Int) (w : World) (hf : f < 4) (hm : m < 5) (h0 : n ≠ 0) (hn : lenN n ≤ 100000) (hd : lenN d ≤ 20000) (hd0 : 0 < d) (he : -200000 ≤ e) (he2 : e ≤ 200000) :
    Calls Tryz.prog 152 #[.int .u8 f, .int .u8 m, exV neg n d e, .bool root] w fun e' w' => e' = .returned (flA (deliverR (srcX root n d e hd0) f m neg (topR root (topX n d + e)))) ∧ Below w.heap.size w w' := by
  have hnb : nb n ≤ 16384 := by unfold nb; omega
  have hdb : nb d ≤ 16384 := by unfold nb; omega
  obtain ⟨p1, p2, -, -, -, -⟩ := formB f hf
  obtain ⟨-, -, -, k4, k5, k6, -, -⟩ := formK f hf
  have cT := fun w => r9top_any neg root n d e w h0 hnb hdb (by omega) (by omega)
  have cM := fun w => r7Emin_any f w
  have cP := fun w => r7Precision_any f w
  have cX := fun w => r7Emax_any f w
  have cO := fun w => r9Over_any f m neg w hf hm
  have cY := fun w => r9tiny_any f m neg root n d e w hf hm h0 hn hd hd0 he he2
  have ht := topX_bound n d
  have hTop := src_topQ root n d e hd0 h0
  obtain ⟨T, hT⟩ : ∃ T, topR root (topX n d + e) = T := ⟨_, rfl⟩
  rw [hT] at hTop ⊢
  simp only [hT] at cT cY
  have hTb : -2000000 ≤ T ∧ T ≤ 2000000 := by rw [← hT]; unfold topR; split <;> omega
  have gb := grid_bounds (srcX root n d e hd0) f m neg T hf hTop
  unfold deliverR
  by_cases h1 : (eF f : Int) < T
  · rw [if_pos h1]
    exact r9Dl_x _ f m (pF f) (eF f) neg root _ _ e T (eminI f) w p2 hTb.1 hTb.2 (by omega) (by omega) cT cP cX (decide_eq_true h1) cO
  rw [if_neg h1]
  by_cases h2 : T < eminI f
  · have ha : atN f T = (eminI f - (pF f : Int) + 1) := by unfold atN; omega
    rw [ha] at gb ⊢
    have g1 : root = false → e - (eminI f - (pF f : Int) + 1) ≤ 29990 := by
      rintro rfl
      have hT' : topX n d + e = T := hT
      omega
    have g2 : root = true → e - 2 * (eminI f - (pF f : Int) + 1) ≤ 29990 := by
      rintro rfl
      have hT' : (topX n d + e) / 2 = T := hT
      omega
    have hS := src_nb root n d e (eminI f - (pF f : Int) + 1) hd0 hn g1 g2
    have cF := fun w => r9find_any neg root n d e (eminI f - (pF f : Int) + 1) w hnb hdb hd0 (by omega) (by omega) (by omega) (by omega) hn g1 g2
    have cK := fun w => r9taken_any (srcX root n d e hd0) m neg (eminI f - (pF f : Int) + 1) w hm hS
    have hx : (gridR (srcX root n d e hd0) m neg (eminI f - (pF f : Int) + 1)).2 = (srcX root n d e hd0).ex (eminI f - (pF f : Int) + 1) := rfl
    rw [hx]
    obtain ⟨g, hg⟩ : ∃ g, (gridR (srcX root n d e hd0) m neg (eminI f - (pF f : Int) + 1)).1 = g := ⟨_, rfl⟩
    rw [hg] at gb ⊢
    simp only [hg] at cK
    have hgl : lenN g ≤ 114 := (lenN_le g 114).2 (Nat.lt_of_le_of_lt gb.1 (Nat.pow_lt_pow_right (by decide) (by omega)))
    have hgb : nb g ≤ 16384 := by unfold nb; omega
    have cA := fun w => r6Make_any neg g 1 (eminI f - (pF f : Int) + 1) w hgb (by decide) (by decide) (by omega) (by omega)
    rw [strB_one] at cA
    by_cases h3 : g = 0
    · obtain ⟨s1, s2⟩ := str_noneO (numX g 1) (numX_zero g h3)
      rw [if_pos h3]
      exact r9Dl_nt 0 _ 0 _ _ _ _ _ _ _ _ _ _ f m (pF f) (eF f) neg root _ _ e T (eminI f) w p2 hTb.1 hTb.2 (by omega) (by omega) cT cP cX (decide_eq_false h1) cM (decide_eq_true h2) cF cK cA s1 s2 (fun w => r7Zero_any f neg w hf)
    obtain ⟨x1, x2, x3⟩ := numX_one g h3 (eminI f - (pF f : Int) + 1)
    obtain ⟨-, -, l3⟩ := low_split g h3
    have x4 : negX' neg g = neg := by unfold negX'; rw [if_neg h3]
    rw [x1, x2, x3, x4] at cA
    obtain ⟨s1, s2⟩ := str_fullO (g / 2 ^ lowZ g) l3
    have hlz := lowZ_lt g h3
    have cB := fun w => r8Of_any f neg (g / 2 ^ lowZ g) ((eminI f - (pF f : Int) + 1) + lowZ g) w hf l3 (Nat.le_trans (lenN_div_le g _) (by omega)) (by omega) (by omega)
    have ho := ofR_enc f neg g (eminI f - (pF f : Int) + 1) hf h3 gb.1 gb.2.2 (by rcases gb.2.1 with h | h; exact Or.inl h; exact Or.inr h)
    rw [ho] at cB
    rw [if_neg h3]
    by_cases h4 : (eF f : Int) < lenN g - 1 + (eminI f - (pF f : Int) + 1)
    · rw [if_pos h4] at cB ⊢
      exact r9Dl_ot _ 0 _ _ _ _ _ _ _ _ _ _ _ f m (pF f) (eF f) neg root _ _ e T (eminI f) w p2 hTb.1 hTb.2 (by omega) (by omega) cT cP cX (decide_eq_false h1) cM (decide_eq_true h2) cF cK cA s1 s2 cB cO
    rw [if_neg h4] at cB ⊢
    cases hE : (srcX root n d e hd0).ex (eminI f - (pF f : Int) + 1)
    · rw [hE] at cF cK
      rw [if_neg (by decide)]
      cases hY : tinyR (srcX root n d e hd0) f m neg T
      · rw [hY] at cY
        exact r9Dl_it 0 0 _ _ _ _ _ _ _ _ _ _ f m (pF f) (eF f) neg root _ _ e T (eminI f) w p2 hTb.1 hTb.2 (by omega) (by omega) cT cP cX (decide_eq_false h1) cM (decide_eq_true h2) cF cK cA s1 s2 cB cY
      · rw [hY] at cY
        exact r9Dl_ut 0 0 _ _ _ _ _ _ _ _ _ _ f m (pF f) (eF f) neg root _ _ e T (eminI f) w p2 hTb.1 hTb.2 (by omega) (by omega) cT cP cX (decide_eq_false h1) cM (decide_eq_true h2) cF cK cA s1 s2 cB cY
    · rw [hE] at cF cK
      rw [if_pos rfl]
      exact r9Dl_et 0 0 _ _ _ _ _ _ _ _ _ _ f m (pF f) (eF f) neg root _ _ e T (eminI f) w p2 hTb.1 hTb.2 (by omega) (by omega) cT cP cX (decide_eq_false h1) cM (decide_eq_true h2) cF cK cA s1 s2 cB
  · have ha : atN f T = (T - (pF f : Int) + 1) := by unfold atN; omega
    rw [ha] at gb ⊢
    have g1 : root = false → e - (T - (pF f : Int) + 1) ≤ 29990 := by
      rintro rfl
      have hT' : topX n d + e = T := hT
      omega
    have g2 : root = true → e - 2 * (T - (pF f : Int) + 1) ≤ 29990 := by
      rintro rfl
      have hT' : (topX n d + e) / 2 = T := hT
      omega
    have hS := src_nb root n d e (T - (pF f : Int) + 1) hd0 hn g1 g2
    have cF := fun w => r9find_any neg root n d e (T - (pF f : Int) + 1) w hnb hdb hd0 (by omega) (by omega) (by omega) (by omega) hn g1 g2
    have cK := fun w => r9taken_any (srcX root n d e hd0) m neg (T - (pF f : Int) + 1) w hm hS
    have hx : (gridR (srcX root n d e hd0) m neg (T - (pF f : Int) + 1)).2 = (srcX root n d e hd0).ex (T - (pF f : Int) + 1) := rfl
    rw [hx]
    obtain ⟨g, hg⟩ : ∃ g, (gridR (srcX root n d e hd0) m neg (T - (pF f : Int) + 1)).1 = g := ⟨_, rfl⟩
    rw [hg] at gb ⊢
    simp only [hg] at cK
    have hgl : lenN g ≤ 114 := (lenN_le g 114).2 (Nat.lt_of_le_of_lt gb.1 (Nat.pow_lt_pow_right (by decide) (by omega)))
    have hgb : nb g ≤ 16384 := by unfold nb; omega
    have cA := fun w => r6Make_any neg g 1 (T - (pF f : Int) + 1) w hgb (by decide) (by decide) (by omega) (by omega)
    rw [strB_one] at cA
    by_cases h3 : g = 0
    · obtain ⟨s1, s2⟩ := str_noneO (numX g 1) (numX_zero g h3)
      rw [if_pos h3]
      exact r9Dl_nf 0 _ 0 _ _ _ _ _ _ _ _ _ _ f m (pF f) (eF f) neg root _ _ e T (eminI f) w p2 hTb.1 hTb.2 (by omega) (by omega) cT cP cX (decide_eq_false h1) cM (decide_eq_false h2) cF cK cA s1 s2 (fun w => r7Zero_any f neg w hf)
    obtain ⟨x1, x2, x3⟩ := numX_one g h3 (T - (pF f : Int) + 1)
    obtain ⟨-, -, l3⟩ := low_split g h3
    have x4 : negX' neg g = neg := by unfold negX'; rw [if_neg h3]
    rw [x1, x2, x3, x4] at cA
    obtain ⟨s1, s2⟩ := str_fullO (g / 2 ^ lowZ g) l3
    have hlz := lowZ_lt g h3
    have cB := fun w => r8Of_any f neg (g / 2 ^ lowZ g) ((T - (pF f : Int) + 1) + lowZ g) w hf l3 (Nat.le_trans (lenN_div_le g _) (by omega)) (by omega) (by omega)
    have ho := ofR_enc f neg g (T - (pF f : Int) + 1) hf h3 gb.1 gb.2.2 (by rcases gb.2.1 with h | h; exact Or.inl h; exact Or.inr h)
    rw [ho] at cB
    rw [if_neg h3]
    by_cases h4 : (eF f : Int) < lenN g - 1 + (T - (pF f : Int) + 1)
    · rw [if_pos h4] at cB ⊢
      exact r9Dl_of _ 0 _ _ _ _ _ _ _ _ _ _ _ f m (pF f) (eF f) neg root _ _ e T (eminI f) w p2 hTb.1 hTb.2 (by omega) (by omega) cT cP cX (decide_eq_false h1) cM (decide_eq_false h2) cF cK cA s1 s2 cB cO
    rw [if_neg h4] at cB ⊢
    cases hE : (srcX root n d e hd0).ex (T - (pF f : Int) + 1)
    · rw [hE] at cF cK
      rw [if_neg (by decide)]
      cases hY : tinyR (srcX root n d e hd0) f m neg T
      · rw [hY] at cY
        exact r9Dl_if 0 0 _ _ _ _ _ _ _ _ _ _ f m (pF f) (eF f) neg root _ _ e T (eminI f) w p2 hTb.1 hTb.2 (by omega) (by omega) cT cP cX (decide_eq_false h1) cM (decide_eq_false h2) cF cK cA s1 s2 cB cY
      · rw [hY] at cY
        exact r9Dl_uf 0 0 _ _ _ _ _ _ _ _ _ _ f m (pF f) (eF f) neg root _ _ e T (eminI f) w p2 hTb.1 hTb.2 (by omega) (by omega) cT cP cX (decide_eq_false h1) cM (decide_eq_false h2) cF cK cA s1 s2 cB cY
    · rw [hE] at cF cK
      rw [if_pos rfl]
      exact r9Dl_ef 0 0 _ _ _ _ _ _ _ _ _ _ f m (pF f) (eF f) neg root _ _ e T (eminI f) w p2 hTb.1 hTb.2 (by omega) (by omega) cT cP cX (decide_eq_false h1) cM (decide_eq_false h2) cF cK cA s1 s2 cB
open Go.RowKit Go.Proofs.YtgmhmpflmgfcdaaGreatDoorW.PrintWords Go.Proofs.YtgmhmpflmgfcdaaGreatDoor.PDivQuotients
theorem r6odd_any (v : Nat) (w : World) (hv : nb v ≤ 100000) : Calls Tryz.prog 225 #[.string (strB v)] w fun e' w' => e' = .returned (.bool (decide (v % 2 = 1))) ∧ Below w.heap.size w w' :=
  (abacusref06_odd.calls _ _ w (odd_strB v hv)).mono fun _ _ h => ⟨h.1, h.2.below⟩
structure OneF (n d : Nat) (e : Int) : Prop where
  num : n ≠ 0
  odd : n % 2 = 1
  den : d % 2 = 1
  gcd : Nat.gcd n d = 1
  len : lenN n ≤ 60000
  lend : lenN d ≤ 20000
  lo : -200000 ≤ e
  hi : e ≤ 200000
theorem oneF (n d : Nat) (e : Int) (hn : n ≠ 0) (hd : d ≠ 0) (h1 : lenN n ≤ 19000) (h2 : lenN d ≤ 19000) (h3 : -150000 ≤ e) (h4 : e ≤ 150000) : OneF (numX n d) (denX n d) (expX n d e) := by
  obtain ⟨o1, o2, o3⟩ := mkx_odd n d hn hd
  obtain ⟨-, -, x3, -⟩ := mkx_parts n d hn hd
  have a1 : lenN (numX n d) ≤ lenN n := by
    unfold numX; rw [if_neg hn]
    exact Nat.le_trans (lenN_div_le _ _) (lenN_div_le _ _)
  have a2 : lenN (denX n d) ≤ lenN d := by
    unfold denX; rw [if_neg hn]
    exact Nat.le_trans (lenN_div_le _ _) (lenN_div_le _ _)
  have z1 := lowZ_lt n hn
  have z2 := lowZ_lt d hd
  have a3 : expX n d e = e + lowZ n - lowZ d := by unfold expX; rw [if_neg hn]
  exact ⟨x3, o1, o2, o3, by omega, by omega, by rw [a3]; omega, by rw [a3]; omega⟩
theorem r6May_any (neg : Bool) (n d : Nat) (e : Int) (w : World) (h : OneF n d e) :
    Calls Tryz.prog 207 #[exV neg n d e] w fun e' w' => e' = .returned (.bool true) ∧ Below w.heap.size w w' := by
  have hn : nb n ≤ 16384 := by have := h.len; unfold nb; omega
  have hd : nb d ≤ 16384 := by have := h.lend; unfold nb; omega
  have l1 := h.lo
  have l2 := h.hi
  obtain ⟨f1, f1'⟩ := strE_full n h.num
  obtain ⟨g1, g1'⟩ := strE_one (Nat.gcd n d) h.gcd
  have cO := fun w => r6odd_any d w (by omega)
  have co := fun w => r6odd_any n w (by omega)
  rw [decide_eq_true h.den] at cO
  rw [decide_eq_true h.odd] at co
  exact r6May_w neg _ _ _ e w (by omega) (by omega) (decide_eq_false (by omega)) (decide_eq_false (by omega)) (fun w => r5May_any n w hn) (fun w => r5May_any d w hd) f1 f1' cO co (fun w => r5Gcd_any n d w hn hd) g1 g1'
theorem r9Fault_any (f m : Nat) (neg : Bool) (n d : Nat) (e : Int) (w : World) (hf : f < 4) (hm : m < 5) (h : OneF n d e) :
    Calls Tryz.prog 151 #[.int .u8 f, .int .u8 m, exV neg n d e] w fun e' w' => e' = .returned (.int .i64 0) ∧ Below w.heap.size w w' := by
  have hn : nb n ≤ 8192 := by have := h.len; unfold nb; omega
  have hd : nb d ≤ 8192 := by have := h.lend; unfold nb; omega
  have cR := fun w => r7Right_any f w
  have cM := fun w => r7RightMode_any m w
  rw [decide_eq_true hf] at cR
  rw [decide_eq_true hm] at cM
  exact r9Fault_w f m neg _ _ e w (decide_eq_false (by rw [size_strB]; omega)) (decide_eq_false (by rw [size_strB]; omega)) cR cM (fun w => r6May_any neg n d e w h)
theorem r9Round_any (f m : Nat) (neg : Bool) (n d : Nat) (e : Int) (w : World) (hf : f < 4) (hm : m < 5) (h : OneF n d e) :
    Calls Tryz.prog 64 #[.int .u8 f, .int .u8 m, exV neg n d e] w fun e' w' => e' = .returned (.tuple #[BV (rndX f m neg n d e).1, .int .u8 ((rndX f m neg n d e).2 : Nat), .int .i64 0]) ∧ Below w.heap.size w w' := by
  have hd0 : 0 < d := by have := h.den; omega
  obtain ⟨f1, f1'⟩ := strE_full n h.num
  have cD := fun w => r9deliver_any f m neg false n d e w hf hm h.num (by have := h.len; omega) h.lend hd0 h.lo h.hi
  rw [rnd_src f m neg n d e hd0]
  exact r9Round_w f m _ _ _ _ e neg w (fun w => r9Fault_any f m neg n d e w hf hm h) f1 f1' cD
open Go.RowKit
theorem set_pwQ (a b : Nat) (x : Int) (d c s : Nat) (y : Int) (f : Nat) : setRow (parts a b x d) 0 (parts c s y f).toList = parts c s y f := set_all _ _ rfl
theorem set_limbsQ (a b : Nat) : setRow (limbs a) 0 (limbs b).toList = limbs b := set_all _ _ rfl
open Go.RowKit
theorem set_limbs (a b : Nat) : setRow (limbs a) 0 (limbs b).toList = limbs b := set_all _ _ rfl
theorem wideOf_1 (w : World) : Calls Tryz.prog 47 #[.int .u64 1] w fun e w' => e = .returned (W 1) ∧ Below w.heap.size w w' := wideOf_any 1 w (by decide)
theorem roundGrid_up (m s k : Nat) (e at_ n : Int) (neg mo lo : Bool) (w : World) (hT : Tab w) (h1 : -2000000 ≤ e) (h2 : e ≤ 2000000) (h3 : -2000000 ≤ at_) (h4 : at_ ≤ 2000000) (hn : at_ - e = n) (hn0 : n ≤ 0) (cL : CK_ 101 #[W s, .int .i64 (-n)] (.tuple #[W k, .bool lo])) :
    Calls Tryz.prog 144 #[.int .u8 m, RV neg s e mo, .int .i64 at_] w fun e w' => e = .returned (.tuple #[W k, .bool (!mo)]) ∧ Below w.heap.size w w' := by
  have H := Own.start w
  have HT := Lib.hid hT
  clear hT
  go_enter Tryz.func144, Tryz.ntmps144
  exact walk1
theorem roundGrid_f_t (m s k : Nat) (e at_ n : Int) (half : Int) (neg ex : Bool) (w : World) (hT : Tab w) (h1 : -2000000 ≤ e) (h2 : e ≤ 2000000) (h3 : -2000000 ≤ at_) (h4 : at_ ≤ 2000000) (hn : at_ - e = n) (hn0 : 0 < n) (cC : CT_ 122 #[W s, .int .i64 n] (.tuple #[W k, .int .i64 half, .bool ex])) (cR : ∀ w, Calls Tryz.prog 123 #[.int .u8 m, .bool neg, .bool (Go.bits .and .u64 (limb k 0) 1 == 1), .int .i64 half, .bool ex] w fun e w' => e = .returned (.bool true) ∧ w = w') :
    Calls Tryz.prog 144 #[.int .u8 m, RV neg s e false, .int .i64 at_] w fun e w' => e = .returned (.tuple #[W (k + 1), .bool ex]) ∧ Below w.heap.size w w' := by
  have H := Own.start w
  have HT := Lib.hid hT
  clear hT
  have n0 : ¬ n ≤ 0 := by omega
  go_enter Tryz.func144, Tryz.ntmps144
  exact walk1
theorem roundGrid_f_f (m s k : Nat) (e at_ n : Int) (half : Int) (neg ex : Bool) (w : World) (hT : Tab w) (h1 : -2000000 ≤ e) (h2 : e ≤ 2000000) (h3 : -2000000 ≤ at_) (h4 : at_ ≤ 2000000) (hn : at_ - e = n) (hn0 : 0 < n) (cC : CT_ 122 #[W s, .int .i64 n] (.tuple #[W k, .int .i64 half, .bool ex])) (cR : ∀ w, Calls Tryz.prog 123 #[.int .u8 m, .bool neg, .bool (Go.bits .and .u64 (limb k 0) 1 == 1), .int .i64 half, .bool ex] w fun e w' => e = .returned (.bool false) ∧ w = w') :
    Calls Tryz.prog 144 #[.int .u8 m, RV neg s e false, .int .i64 at_] w fun e w' => e = .returned (.tuple #[W k, .bool ex]) ∧ Below w.heap.size w w' := by
  have H := Own.start w
  have HT := Lib.hid hT
  clear hT
  have n0 : ¬ n ≤ 0 := by omega
  go_enter Tryz.func144, Tryz.ntmps144
  exact walk1
theorem roundGrid_tz_t (m s k : Nat) (e at_ n : Int) (half : Int) (neg ex : Bool) (w : World) (hT : Tab w) (h1 : -2000000 ≤ e) (h2 : e ≤ 2000000) (h3 : -2000000 ≤ at_) (h4 : at_ ≤ 2000000) (hn : at_ - e = n) (hn0 : 0 < n) (hz : (half == 0) = true) (cC : CT_ 122 #[W s, .int .i64 n] (.tuple #[W k, .int .i64 half, .bool ex])) (cR : ∀ w, Calls Tryz.prog 123 #[.int .u8 m, .bool neg, .bool (Go.bits .and .u64 (limb k 0) 1 == 1), .int .i64 1, .bool false] w fun e w' => e = .returned (.bool true) ∧ w = w') :
    Calls Tryz.prog 144 #[.int .u8 m, RV neg s e true, .int .i64 at_] w fun e w' => e = .returned (.tuple #[W (k + 1), .bool false]) ∧ Below w.heap.size w w' := by
  have H := Own.start w
  have HT := Lib.hid hT
  clear hT
  have n0 : ¬ n ≤ 0 := by omega
  go_enter Tryz.func144, Tryz.ntmps144
  exact walk1
theorem roundGrid_tz_f (m s k : Nat) (e at_ n : Int) (half : Int) (neg ex : Bool) (w : World) (hT : Tab w) (h1 : -2000000 ≤ e) (h2 : e ≤ 2000000) (h3 : -2000000 ≤ at_) (h4 : at_ ≤ 2000000) (hn : at_ - e = n) (hn0 : 0 < n) (hz : (half == 0) = true) (cC : CT_ 122 #[W s, .int .i64 n] (.tuple #[W k, .int .i64 half, .bool ex])) (cR : ∀ w, Calls Tryz.prog 123 #[.int .u8 m, .bool neg, .bool (Go.bits .and .u64 (limb k 0) 1 == 1), .int .i64 1, .bool false] w fun e w' => e = .returned (.bool false) ∧ w = w') :
    Calls Tryz.prog 144 #[.int .u8 m, RV neg s e true, .int .i64 at_] w fun e w' => e = .returned (.tuple #[W k, .bool false]) ∧ Below w.heap.size w w' := by
  have H := Own.start w
  have HT := Lib.hid hT
  clear hT
  have n0 : ¬ n ≤ 0 := by omega
  go_enter Tryz.func144, Tryz.ntmps144
  exact walk1
theorem roundGrid_tn_t (m s k : Nat) (e at_ n : Int) (half : Int) (neg ex : Bool) (w : World) (hT : Tab w) (h1 : -2000000 ≤ e) (h2 : e ≤ 2000000) (h3 : -2000000 ≤ at_) (h4 : at_ ≤ 2000000) (hn : at_ - e = n) (hn0 : 0 < n) (hz : (half == 0) = false) (cC : CT_ 122 #[W s, .int .i64 n] (.tuple #[W k, .int .i64 half, .bool ex])) (cR : ∀ w, Calls Tryz.prog 123 #[.int .u8 m, .bool neg, .bool (Go.bits .and .u64 (limb k 0) 1 == 1), .int .i64 half, .bool false] w fun e w' => e = .returned (.bool true) ∧ w = w') :
    Calls Tryz.prog 144 #[.int .u8 m, RV neg s e true, .int .i64 at_] w fun e w' => e = .returned (.tuple #[W (k + 1), .bool false]) ∧ Below w.heap.size w w' := by
  have H := Own.start w
  have HT := Lib.hid hT
  clear hT
  have n0 : ¬ n ≤ 0 := by omega
  go_enter Tryz.func144, Tryz.ntmps144
  exact walk1
theorem roundGrid_tn_f (m s k : Nat) (e at_ n : Int) (half : Int) (neg ex : Bool) (w : World) (hT : Tab w) (h1 : -2000000 ≤ e) (h2 : e ≤ 2000000) (h3 : -2000000 ≤ at_) (h4 : at_ ≤ 2000000) (hn : at_ - e = n) (hn0 : 0 < n) (hz : (half == 0) = false) (cC : CT_ 122 #[W s, .int .i64 n] (.tuple #[W k, .int .i64 half, .bool ex])) (cR : ∀ w, Calls Tryz.prog 123 #[.int .u8 m, .bool neg, .bool (Go.bits .and .u64 (limb k 0) 1 == 1), .int .i64 half, .bool false] w fun e w' => e = .returned (.bool false) ∧ w = w') :
    Calls Tryz.prog 144 #[.int .u8 m, RV neg s e true, .int .i64 at_] w fun e w' => e = .returned (.tuple #[W k, .bool false]) ∧ Below w.heap.size w w' := by
  have H := Own.start w
  have HT := Lib.hid hT
  clear hT
  have n0 : ¬ n ≤ 0 := by omega
  go_enter Tryz.func144, Tryz.ntmps144
  exact walk1
open Go.RowKit
theorem shapeGreatest_0 (neg : Bool) (w : World) :
    Calls Tryz.prog 202 #[.int .u8 0, .bool neg] w fun e w' => e = .returned (BV (greatN 0 neg)) ∧ Below w.heap.size w w' := by
  have H := Own.start w
  have cI : ∀ w, Calls Tryz.prog 77 #[.int .u8 0, .bool false] w fun e w' => e = .returned (.agg #[.int .u64 0, .int .u64 2139095040]) ∧ Below w.heap.size w w' := fun w => shapeInf_any 0 false w (by decide)
  have cW : ∀ w, Calls Tryz.prog 158 #[.int .u8 0, .agg #[.int .u64 0, .int .u64 2139095039], .bool neg] w fun e w' => e = .returned (BV (greatN 0 neg)) ∧ Below w.heap.size w w' := by
    intro w
    have := shapeWith_any 0 2139095039 neg w (by decide)
    rw [or_sign 0 2139095039 neg (by decide)] at this
    exact this
  have cC : ∀ w, Calls Tryz.prog 154 #[.int .u8 0] w fun e w' => e = .returned (.int .i64 0) ∧ w = w' := fun w => shapeCheck_any 0 w (by decide)
  have cN : ∀ w, Calls Tryz.prog 177 #[.int .u8 0] w fun e w' => e = .returned (.int .i64 32) ∧ Below w.heap.size w w' := fun w => shapeWidth_any 0 w (by decide)
  go_enter Tryz.func202, Tryz.ntmps202
  go_wp2_with (first
    | ((with_reducible show wpList _ _ _ (⟨_, .box _ _, _, _, _, _⟩ :: _) _ _); refine H.box rfl rfl (cells_agg _) ?_; (intro g w H; simp only [Act.put, q1_, q2_, q3_, List.set_nil]))
    | ((with_reducible show wpList _ _ _ (⟨_, .alloc 27, _, _, _, _⟩ :: _) _ _); refine H.new rfl (T := 27) rfl tB_z (cells_agg _) ?_; (intro g w H; simp only [Act.put, q1_, q2_, q3_, List.set_nil]))
    | ((with_reducible show wpList _ _ _ (⟨_, .alloc 25, _, _, _, _⟩ :: _) _ _); refine H.new rfl (T := 25) rfl tu_z (cells_int _ _) ?_; (intro g w H; simp only [Act.put, q1_, q2_, q3_, List.set_nil]))
    | ((with_reducible show wpList _ _ _ (⟨_, .load 27 _, _, _, _, _⟩ :: _) _ _); (first | refine H.load rfl (ty := 27) rfl rfl 0 rfl Tryz.underlying27 rfl (by with_reducible exact ext_2 _ _) (by exact tB_s) ?_ | refine H.load rfl (ty := 27) rfl rfl 1 rfl Tryz.underlying27 rfl (by with_reducible exact ext_2 _ _) (by exact tB_s) ?_); simp only [Act.put, q1_, q2_, q3_, List.set_nil])
    | ((with_reducible show wpList _ _ _ (⟨_, .load 25 _, _, _, _, _⟩ :: _) _ _); (first | refine H.load1 rfl (ty := 25) rfl rfl 0 rfl Tryz.underlying25 rfl (by with_reducible exact get_20 _ _) ?_ | refine H.load1 rfl (ty := 25) rfl rfl 0 rfl Tryz.underlying25 rfl (by with_reducible exact get_21 _ _) ?_ | refine H.load1 rfl (ty := 25) rfl rfl 0 rfl Tryz.underlying25 rfl (by with_reducible exact limbs_o0 _) ?_ | refine H.load1 rfl (ty := 25) rfl rfl 0 rfl Tryz.underlying25 rfl (by with_reducible exact limbs_o1 _) ?_ | refine H.load1 rfl (ty := 25) rfl rfl 0 rfl Tryz.underlying25 rfl (by with_reducible exact limbs_o2 _) ?_ | refine H.load1 rfl (ty := 25) rfl rfl 0 rfl Tryz.underlying25 rfl (by with_reducible exact limbs_o3 _) ?_ | refine H.load1 rfl (ty := 25) rfl rfl 0 rfl Tryz.underlying25 rfl (by with_reducible exact limbs_o4 _) ?_ | refine H.load1 rfl (ty := 25) rfl rfl 0 rfl Tryz.underlying25 rfl (by with_reducible exact limbs_o5 _) ?_ | refine H.load1 rfl (ty := 25) rfl rfl 0 rfl Tryz.underlying25 rfl (by with_reducible exact get_10 _) ?_ | refine H.load1 rfl (ty := 25) rfl rfl 1 rfl Tryz.underlying25 rfl (by with_reducible exact get_20 _ _) ?_ | refine H.load1 rfl (ty := 25) rfl rfl 1 rfl Tryz.underlying25 rfl (by with_reducible exact get_21 _ _) ?_ | refine H.load1 rfl (ty := 25) rfl rfl 1 rfl Tryz.underlying25 rfl (by with_reducible exact limbs_o0 _) ?_ | refine H.load1 rfl (ty := 25) rfl rfl 1 rfl Tryz.underlying25 rfl (by with_reducible exact limbs_o1 _) ?_ | refine H.load1 rfl (ty := 25) rfl rfl 1 rfl Tryz.underlying25 rfl (by with_reducible exact limbs_o2 _) ?_ | refine H.load1 rfl (ty := 25) rfl rfl 1 rfl Tryz.underlying25 rfl (by with_reducible exact limbs_o3 _) ?_ | refine H.load1 rfl (ty := 25) rfl rfl 1 rfl Tryz.underlying25 rfl (by with_reducible exact limbs_o4 _) ?_ | refine H.load1 rfl (ty := 25) rfl rfl 1 rfl Tryz.underlying25 rfl (by with_reducible exact limbs_o5 _) ?_ | refine H.load1 rfl (ty := 25) rfl rfl 1 rfl Tryz.underlying25 rfl (by with_reducible exact get_10 _) ?_); simp only [Act.put, q1_, q2_, q3_, List.set_nil])
    | ((with_reducible show wpList _ _ _ (⟨_, .store 27 _ _, _, _, _, _⟩ :: _) _ _); (first | refine H.store rfl (ty := 27) rfl rfl (cells_agg _) 0 rfl v2_ (by exact tB_s) (one_of rfl) (ble_le rfl) ?_ | refine H.store rfl (ty := 27) rfl rfl (cells_agg _) 1 rfl v2_ (by exact tB_s) (one_of rfl) (ble_le rfl) ?_); (intro w H; simp only [q2_, q3_] at H; simp only [Act.put, q1_, q2_, q3_, List.set_nil]))
    | ((with_reducible show wpList _ _ _ (⟨_, .store 25 _ _, _, _, _, _⟩ :: _) _ _); (first | refine H.store rfl (ty := 25) rfl rfl (cells_int _ _) 0 rfl (by with_reducible exact set_20 _ _ _) (by exact tu_s) (one_of rfl) (ble_le rfl) ?_ | refine H.store rfl (ty := 25) rfl rfl (cells_int _ _) 0 rfl (by with_reducible exact set_21 _ _ _) (by exact tu_s) (one_of rfl) (ble_le rfl) ?_ | refine H.store rfl (ty := 25) rfl rfl (cells_int _ _) 0 rfl (by with_reducible exact set_10 _ _) (by exact tu_s) (one_of rfl) (ble_le rfl) ?_ | refine H.store rfl (ty := 25) rfl rfl (cells_int _ _) 1 rfl (by with_reducible exact set_20 _ _ _) (by exact tu_s) (one_of rfl) (ble_le rfl) ?_ | refine H.store rfl (ty := 25) rfl rfl (cells_int _ _) 1 rfl (by with_reducible exact set_21 _ _ _) (by exact tu_s) (one_of rfl) (ble_le rfl) ?_ | refine H.store rfl (ty := 25) rfl rfl (cells_int _ _) 1 rfl (by with_reducible exact set_10 _ _) (by exact tu_s) (one_of rfl) (ble_le rfl) ?_); (intro w H; simp only [q2_, q3_] at H; simp only [Act.put, q1_, q2_, q3_, List.set_nil]))
    | ((first | go_at_call 77 | go_at_call 177 | go_at_call 158); (with_reducible first | refine (cI _).mono ?_ | refine (cN _).mono ?_ | refine (cW _).mono ?_); rintro e w ⟨rfl, hb⟩; replace H := H.call hb; clear hb)
    | (go_at_call 154; ((with_reducible refine (cC _).mono ?_); rintro e w' ⟨rfl, rfl⟩))
    )
  (first | refine bodyPost_ret (results_c rfl rfl (H.result 0 rfl Tryz.underlying27 rfl (by exact tB_s) (ext_2 _ _))) rfl ⟨?_, H.below⟩ | refine bodyPost_ret (results_c rfl rfl (H.result 1 rfl Tryz.underlying27 rfl (by exact tB_s) (ext_2 _ _))) rfl ⟨?_, H.below⟩)
  exact rfl
theorem shapeGreatest_1 (neg : Bool) (w : World) :
    Calls Tryz.prog 202 #[.int .u8 1, .bool neg] w fun e w' => e = .returned (BV (greatN 1 neg)) ∧ Below w.heap.size w w' := by
  have H := Own.start w
  have cI : ∀ w, Calls Tryz.prog 77 #[.int .u8 1, .bool false] w fun e w' => e = .returned (.agg #[.int .u64 0, .int .u64 9218868437227405312]) ∧ Below w.heap.size w w' := fun w => shapeInf_any 1 false w (by decide)
  have cW : ∀ w, Calls Tryz.prog 158 #[.int .u8 1, .agg #[.int .u64 0, .int .u64 9218868437227405311], .bool neg] w fun e w' => e = .returned (BV (greatN 1 neg)) ∧ Below w.heap.size w w' := by
    intro w
    have := shapeWith_any 1 9218868437227405311 neg w (by decide)
    rw [or_sign 1 9218868437227405311 neg (by decide)] at this
    exact this
  have cC : ∀ w, Calls Tryz.prog 154 #[.int .u8 1] w fun e w' => e = .returned (.int .i64 0) ∧ w = w' := fun w => shapeCheck_any 1 w (by decide)
  have cN : ∀ w, Calls Tryz.prog 177 #[.int .u8 1] w fun e w' => e = .returned (.int .i64 64) ∧ Below w.heap.size w w' := fun w => shapeWidth_any 1 w (by decide)
  go_enter Tryz.func202, Tryz.ntmps202
  go_wp2_with (first
    | ((with_reducible show wpList _ _ _ (⟨_, .box _ _, _, _, _, _⟩ :: _) _ _); refine H.box rfl rfl (cells_agg _) ?_; (intro g w H; simp only [Act.put, q1_, q2_, q3_, List.set_nil]))
    | ((with_reducible show wpList _ _ _ (⟨_, .alloc 27, _, _, _, _⟩ :: _) _ _); refine H.new rfl (T := 27) rfl tB_z (cells_agg _) ?_; (intro g w H; simp only [Act.put, q1_, q2_, q3_, List.set_nil]))
    | ((with_reducible show wpList _ _ _ (⟨_, .alloc 25, _, _, _, _⟩ :: _) _ _); refine H.new rfl (T := 25) rfl tu_z (cells_int _ _) ?_; (intro g w H; simp only [Act.put, q1_, q2_, q3_, List.set_nil]))
    | ((with_reducible show wpList _ _ _ (⟨_, .load 27 _, _, _, _, _⟩ :: _) _ _); (first | refine H.load rfl (ty := 27) rfl rfl 0 rfl Tryz.underlying27 rfl (by with_reducible exact ext_2 _ _) (by exact tB_s) ?_ | refine H.load rfl (ty := 27) rfl rfl 1 rfl Tryz.underlying27 rfl (by with_reducible exact ext_2 _ _) (by exact tB_s) ?_); simp only [Act.put, q1_, q2_, q3_, List.set_nil])
    | ((with_reducible show wpList _ _ _ (⟨_, .load 25 _, _, _, _, _⟩ :: _) _ _); (first | refine H.load1 rfl (ty := 25) rfl rfl 0 rfl Tryz.underlying25 rfl (by with_reducible exact get_20 _ _) ?_ | refine H.load1 rfl (ty := 25) rfl rfl 0 rfl Tryz.underlying25 rfl (by with_reducible exact get_21 _ _) ?_ | refine H.load1 rfl (ty := 25) rfl rfl 0 rfl Tryz.underlying25 rfl (by with_reducible exact limbs_o0 _) ?_ | refine H.load1 rfl (ty := 25) rfl rfl 0 rfl Tryz.underlying25 rfl (by with_reducible exact limbs_o1 _) ?_ | refine H.load1 rfl (ty := 25) rfl rfl 0 rfl Tryz.underlying25 rfl (by with_reducible exact limbs_o2 _) ?_ | refine H.load1 rfl (ty := 25) rfl rfl 0 rfl Tryz.underlying25 rfl (by with_reducible exact limbs_o3 _) ?_ | refine H.load1 rfl (ty := 25) rfl rfl 0 rfl Tryz.underlying25 rfl (by with_reducible exact limbs_o4 _) ?_ | refine H.load1 rfl (ty := 25) rfl rfl 0 rfl Tryz.underlying25 rfl (by with_reducible exact limbs_o5 _) ?_ | refine H.load1 rfl (ty := 25) rfl rfl 0 rfl Tryz.underlying25 rfl (by with_reducible exact get_10 _) ?_ | refine H.load1 rfl (ty := 25) rfl rfl 1 rfl Tryz.underlying25 rfl (by with_reducible exact get_20 _ _) ?_ | refine H.load1 rfl (ty := 25) rfl rfl 1 rfl Tryz.underlying25 rfl (by with_reducible exact get_21 _ _) ?_ | refine H.load1 rfl (ty := 25) rfl rfl 1 rfl Tryz.underlying25 rfl (by with_reducible exact limbs_o0 _) ?_ | refine H.load1 rfl (ty := 25) rfl rfl 1 rfl Tryz.underlying25 rfl (by with_reducible exact limbs_o1 _) ?_ | refine H.load1 rfl (ty := 25) rfl rfl 1 rfl Tryz.underlying25 rfl (by with_reducible exact limbs_o2 _) ?_ | refine H.load1 rfl (ty := 25) rfl rfl 1 rfl Tryz.underlying25 rfl (by with_reducible exact limbs_o3 _) ?_ | refine H.load1 rfl (ty := 25) rfl rfl 1 rfl Tryz.underlying25 rfl (by with_reducible exact limbs_o4 _) ?_ | refine H.load1 rfl (ty := 25) rfl rfl 1 rfl Tryz.underlying25 rfl (by with_reducible exact limbs_o5 _) ?_ | refine H.load1 rfl (ty := 25) rfl rfl 1 rfl Tryz.underlying25 rfl (by with_reducible exact get_10 _) ?_); simp only [Act.put, q1_, q2_, q3_, List.set_nil])
    | ((with_reducible show wpList _ _ _ (⟨_, .store 27 _ _, _, _, _, _⟩ :: _) _ _); (first | refine H.store rfl (ty := 27) rfl rfl (cells_agg _) 0 rfl v2_ (by exact tB_s) (one_of rfl) (ble_le rfl) ?_ | refine H.store rfl (ty := 27) rfl rfl (cells_agg _) 1 rfl v2_ (by exact tB_s) (one_of rfl) (ble_le rfl) ?_); (intro w H; simp only [q2_, q3_] at H; simp only [Act.put, q1_, q2_, q3_, List.set_nil]))
    | ((with_reducible show wpList _ _ _ (⟨_, .store 25 _ _, _, _, _, _⟩ :: _) _ _); (first | refine H.store rfl (ty := 25) rfl rfl (cells_int _ _) 0 rfl (by with_reducible exact set_20 _ _ _) (by exact tu_s) (one_of rfl) (ble_le rfl) ?_ | refine H.store rfl (ty := 25) rfl rfl (cells_int _ _) 0 rfl (by with_reducible exact set_21 _ _ _) (by exact tu_s) (one_of rfl) (ble_le rfl) ?_ | refine H.store rfl (ty := 25) rfl rfl (cells_int _ _) 0 rfl (by with_reducible exact set_10 _ _) (by exact tu_s) (one_of rfl) (ble_le rfl) ?_ | refine H.store rfl (ty := 25) rfl rfl (cells_int _ _) 1 rfl (by with_reducible exact set_20 _ _ _) (by exact tu_s) (one_of rfl) (ble_le rfl) ?_ | refine H.store rfl (ty := 25) rfl rfl (cells_int _ _) 1 rfl (by with_reducible exact set_21 _ _ _) (by exact tu_s) (one_of rfl) (ble_le rfl) ?_ | refine H.store rfl (ty := 25) rfl rfl (cells_int _ _) 1 rfl (by with_reducible exact set_10 _ _) (by exact tu_s) (one_of rfl) (ble_le rfl) ?_); (intro w H; simp only [q2_, q3_] at H; simp only [Act.put, q1_, q2_, q3_, List.set_nil]))
    | ((first | go_at_call 77 | go_at_call 177 | go_at_call 158); (with_reducible first | refine (cI _).mono ?_ | refine (cN _).mono ?_ | refine (cW _).mono ?_); rintro e w ⟨rfl, hb⟩; replace H := H.call hb; clear hb)
    | (go_at_call 154; ((with_reducible refine (cC _).mono ?_); rintro e w' ⟨rfl, rfl⟩))
    )
  (first | refine bodyPost_ret (results_c rfl rfl (H.result 0 rfl Tryz.underlying27 rfl (by exact tB_s) (ext_2 _ _))) rfl ⟨?_, H.below⟩ | refine bodyPost_ret (results_c rfl rfl (H.result 1 rfl Tryz.underlying27 rfl (by exact tB_s) (ext_2 _ _))) rfl ⟨?_, H.below⟩)
  exact rfl
theorem shapeGreatest_2 (neg : Bool) (w : World) :
    Calls Tryz.prog 202 #[.int .u8 2, .bool neg] w fun e w' => e = .returned (BV (greatN 2 neg)) ∧ Below w.heap.size w w' := by
  have H := Own.start w
  have cI : ∀ w, Calls Tryz.prog 77 #[.int .u8 2, .bool false] w fun e w' => e = .returned (.agg #[.int .u64 0, .int .u64 31744]) ∧ Below w.heap.size w w' := fun w => shapeInf_any 2 false w (by decide)
  have cW : ∀ w, Calls Tryz.prog 158 #[.int .u8 2, .agg #[.int .u64 0, .int .u64 31743], .bool neg] w fun e w' => e = .returned (BV (greatN 2 neg)) ∧ Below w.heap.size w w' := by
    intro w
    have := shapeWith_any 2 31743 neg w (by decide)
    rw [or_sign 2 31743 neg (by decide)] at this
    exact this
  have cC : ∀ w, Calls Tryz.prog 154 #[.int .u8 2] w fun e w' => e = .returned (.int .i64 0) ∧ w = w' := fun w => shapeCheck_any 2 w (by decide)
  have cN : ∀ w, Calls Tryz.prog 177 #[.int .u8 2] w fun e w' => e = .returned (.int .i64 16) ∧ Below w.heap.size w w' := fun w => shapeWidth_any 2 w (by decide)
  go_enter Tryz.func202, Tryz.ntmps202
  go_wp2_with (first
    | ((with_reducible show wpList _ _ _ (⟨_, .box _ _, _, _, _, _⟩ :: _) _ _); refine H.box rfl rfl (cells_agg _) ?_; (intro g w H; simp only [Act.put, q1_, q2_, q3_, List.set_nil]))
    | ((with_reducible show wpList _ _ _ (⟨_, .alloc 27, _, _, _, _⟩ :: _) _ _); refine H.new rfl (T := 27) rfl tB_z (cells_agg _) ?_; (intro g w H; simp only [Act.put, q1_, q2_, q3_, List.set_nil]))
    | ((with_reducible show wpList _ _ _ (⟨_, .alloc 25, _, _, _, _⟩ :: _) _ _); refine H.new rfl (T := 25) rfl tu_z (cells_int _ _) ?_; (intro g w H; simp only [Act.put, q1_, q2_, q3_, List.set_nil]))
    | ((with_reducible show wpList _ _ _ (⟨_, .load 27 _, _, _, _, _⟩ :: _) _ _); (first | refine H.load rfl (ty := 27) rfl rfl 0 rfl Tryz.underlying27 rfl (by with_reducible exact ext_2 _ _) (by exact tB_s) ?_ | refine H.load rfl (ty := 27) rfl rfl 1 rfl Tryz.underlying27 rfl (by with_reducible exact ext_2 _ _) (by exact tB_s) ?_); simp only [Act.put, q1_, q2_, q3_, List.set_nil])
    | ((with_reducible show wpList _ _ _ (⟨_, .load 25 _, _, _, _, _⟩ :: _) _ _); (first | refine H.load1 rfl (ty := 25) rfl rfl 0 rfl Tryz.underlying25 rfl (by with_reducible exact get_20 _ _) ?_ | refine H.load1 rfl (ty := 25) rfl rfl 0 rfl Tryz.underlying25 rfl (by with_reducible exact get_21 _ _) ?_ | refine H.load1 rfl (ty := 25) rfl rfl 0 rfl Tryz.underlying25 rfl (by with_reducible exact limbs_o0 _) ?_ | refine H.load1 rfl (ty := 25) rfl rfl 0 rfl Tryz.underlying25 rfl (by with_reducible exact limbs_o1 _) ?_ | refine H.load1 rfl (ty := 25) rfl rfl 0 rfl Tryz.underlying25 rfl (by with_reducible exact limbs_o2 _) ?_ | refine H.load1 rfl (ty := 25) rfl rfl 0 rfl Tryz.underlying25 rfl (by with_reducible exact limbs_o3 _) ?_ | refine H.load1 rfl (ty := 25) rfl rfl 0 rfl Tryz.underlying25 rfl (by with_reducible exact limbs_o4 _) ?_ | refine H.load1 rfl (ty := 25) rfl rfl 0 rfl Tryz.underlying25 rfl (by with_reducible exact limbs_o5 _) ?_ | refine H.load1 rfl (ty := 25) rfl rfl 0 rfl Tryz.underlying25 rfl (by with_reducible exact get_10 _) ?_ | refine H.load1 rfl (ty := 25) rfl rfl 1 rfl Tryz.underlying25 rfl (by with_reducible exact get_20 _ _) ?_ | refine H.load1 rfl (ty := 25) rfl rfl 1 rfl Tryz.underlying25 rfl (by with_reducible exact get_21 _ _) ?_ | refine H.load1 rfl (ty := 25) rfl rfl 1 rfl Tryz.underlying25 rfl (by with_reducible exact limbs_o0 _) ?_ | refine H.load1 rfl (ty := 25) rfl rfl 1 rfl Tryz.underlying25 rfl (by with_reducible exact limbs_o1 _) ?_ | refine H.load1 rfl (ty := 25) rfl rfl 1 rfl Tryz.underlying25 rfl (by with_reducible exact limbs_o2 _) ?_ | refine H.load1 rfl (ty := 25) rfl rfl 1 rfl Tryz.underlying25 rfl (by with_reducible exact limbs_o3 _) ?_ | refine H.load1 rfl (ty := 25) rfl rfl 1 rfl Tryz.underlying25 rfl (by with_reducible exact limbs_o4 _) ?_ | refine H.load1 rfl (ty := 25) rfl rfl 1 rfl Tryz.underlying25 rfl (by with_reducible exact limbs_o5 _) ?_ | refine H.load1 rfl (ty := 25) rfl rfl 1 rfl Tryz.underlying25 rfl (by with_reducible exact get_10 _) ?_); simp only [Act.put, q1_, q2_, q3_, List.set_nil])
    | ((with_reducible show wpList _ _ _ (⟨_, .store 27 _ _, _, _, _, _⟩ :: _) _ _); (first | refine H.store rfl (ty := 27) rfl rfl (cells_agg _) 0 rfl v2_ (by exact tB_s) (one_of rfl) (ble_le rfl) ?_ | refine H.store rfl (ty := 27) rfl rfl (cells_agg _) 1 rfl v2_ (by exact tB_s) (one_of rfl) (ble_le rfl) ?_); (intro w H; simp only [q2_, q3_] at H; simp only [Act.put, q1_, q2_, q3_, List.set_nil]))
    | ((with_reducible show wpList _ _ _ (⟨_, .store 25 _ _, _, _, _, _⟩ :: _) _ _); (first | refine H.store rfl (ty := 25) rfl rfl (cells_int _ _) 0 rfl (by with_reducible exact set_20 _ _ _) (by exact tu_s) (one_of rfl) (ble_le rfl) ?_ | refine H.store rfl (ty := 25) rfl rfl (cells_int _ _) 0 rfl (by with_reducible exact set_21 _ _ _) (by exact tu_s) (one_of rfl) (ble_le rfl) ?_ | refine H.store rfl (ty := 25) rfl rfl (cells_int _ _) 0 rfl (by with_reducible exact set_10 _ _) (by exact tu_s) (one_of rfl) (ble_le rfl) ?_ | refine H.store rfl (ty := 25) rfl rfl (cells_int _ _) 1 rfl (by with_reducible exact set_20 _ _ _) (by exact tu_s) (one_of rfl) (ble_le rfl) ?_ | refine H.store rfl (ty := 25) rfl rfl (cells_int _ _) 1 rfl (by with_reducible exact set_21 _ _ _) (by exact tu_s) (one_of rfl) (ble_le rfl) ?_ | refine H.store rfl (ty := 25) rfl rfl (cells_int _ _) 1 rfl (by with_reducible exact set_10 _ _) (by exact tu_s) (one_of rfl) (ble_le rfl) ?_); (intro w H; simp only [q2_, q3_] at H; simp only [Act.put, q1_, q2_, q3_, List.set_nil]))
    | ((first | go_at_call 77 | go_at_call 177 | go_at_call 158); (with_reducible first | refine (cI _).mono ?_ | refine (cN _).mono ?_ | refine (cW _).mono ?_); rintro e w ⟨rfl, hb⟩; replace H := H.call hb; clear hb)
    | (go_at_call 154; ((with_reducible refine (cC _).mono ?_); rintro e w' ⟨rfl, rfl⟩))
    )
  (first | refine bodyPost_ret (results_c rfl rfl (H.result 0 rfl Tryz.underlying27 rfl (by exact tB_s) (ext_2 _ _))) rfl ⟨?_, H.below⟩ | refine bodyPost_ret (results_c rfl rfl (H.result 1 rfl Tryz.underlying27 rfl (by exact tB_s) (ext_2 _ _))) rfl ⟨?_, H.below⟩)
  exact rfl
theorem shapeGreatest_3 (neg : Bool) (w : World) :
    Calls Tryz.prog 202 #[.int .u8 3, .bool neg] w fun e w' => e = .returned (BV (greatN 3 neg)) ∧ Below w.heap.size w w' := by
  have H := Own.start w
  have cI : ∀ w, Calls Tryz.prog 77 #[.int .u8 3, .bool false] w fun e w' => e = .returned (.agg #[.int .u64 9223090561878065152, .int .u64 0]) ∧ Below w.heap.size w w' := fun w => shapeInf_any 3 false w (by decide)
  have cW : ∀ w, Calls Tryz.prog 158 #[.int .u8 3, .agg #[.int .u64 9223090561878065151, .int .u64 (IntKind.u64.wrap (-1))], .bool neg] w fun e w' => e = .returned (BV (greatN 3 neg)) ∧ Below w.heap.size w w' := by
    intro w
    have := shapeWith_any 3 170135991163610696904058773219554885631 neg w (by decide)
    rw [or_sign 3 170135991163610696904058773219554885631 neg (by decide)] at this
    exact this
  have cC : ∀ w, Calls Tryz.prog 154 #[.int .u8 3] w fun e w' => e = .returned (.int .i64 0) ∧ w = w' := fun w => shapeCheck_any 3 w (by decide)
  have cN : ∀ w, Calls Tryz.prog 177 #[.int .u8 3] w fun e w' => e = .returned (.int .i64 128) ∧ Below w.heap.size w w' := fun w => shapeWidth_any 3 w (by decide)
  go_enter Tryz.func202, Tryz.ntmps202
  go_wp2_with (first
    | ((with_reducible show wpList _ _ _ (⟨_, .box _ _, _, _, _, _⟩ :: _) _ _); refine H.box rfl rfl (cells_agg _) ?_; (intro g w H; simp only [Act.put, q1_, q2_, q3_, List.set_nil]))
    | ((with_reducible show wpList _ _ _ (⟨_, .alloc 27, _, _, _, _⟩ :: _) _ _); refine H.new rfl (T := 27) rfl tB_z (cells_agg _) ?_; (intro g w H; simp only [Act.put, q1_, q2_, q3_, List.set_nil]))
    | ((with_reducible show wpList _ _ _ (⟨_, .alloc 25, _, _, _, _⟩ :: _) _ _); refine H.new rfl (T := 25) rfl tu_z (cells_int _ _) ?_; (intro g w H; simp only [Act.put, q1_, q2_, q3_, List.set_nil]))
    | ((with_reducible show wpList _ _ _ (⟨_, .load 27 _, _, _, _, _⟩ :: _) _ _); (first | refine H.load rfl (ty := 27) rfl rfl 0 rfl Tryz.underlying27 rfl (by with_reducible exact ext_2 _ _) (by exact tB_s) ?_ | refine H.load rfl (ty := 27) rfl rfl 1 rfl Tryz.underlying27 rfl (by with_reducible exact ext_2 _ _) (by exact tB_s) ?_); simp only [Act.put, q1_, q2_, q3_, List.set_nil])
    | ((with_reducible show wpList _ _ _ (⟨_, .load 25 _, _, _, _, _⟩ :: _) _ _); (first | refine H.load1 rfl (ty := 25) rfl rfl 0 rfl Tryz.underlying25 rfl (by with_reducible exact get_20 _ _) ?_ | refine H.load1 rfl (ty := 25) rfl rfl 0 rfl Tryz.underlying25 rfl (by with_reducible exact get_21 _ _) ?_ | refine H.load1 rfl (ty := 25) rfl rfl 0 rfl Tryz.underlying25 rfl (by with_reducible exact limbs_o0 _) ?_ | refine H.load1 rfl (ty := 25) rfl rfl 0 rfl Tryz.underlying25 rfl (by with_reducible exact limbs_o1 _) ?_ | refine H.load1 rfl (ty := 25) rfl rfl 0 rfl Tryz.underlying25 rfl (by with_reducible exact limbs_o2 _) ?_ | refine H.load1 rfl (ty := 25) rfl rfl 0 rfl Tryz.underlying25 rfl (by with_reducible exact limbs_o3 _) ?_ | refine H.load1 rfl (ty := 25) rfl rfl 0 rfl Tryz.underlying25 rfl (by with_reducible exact limbs_o4 _) ?_ | refine H.load1 rfl (ty := 25) rfl rfl 0 rfl Tryz.underlying25 rfl (by with_reducible exact limbs_o5 _) ?_ | refine H.load1 rfl (ty := 25) rfl rfl 0 rfl Tryz.underlying25 rfl (by with_reducible exact get_10 _) ?_ | refine H.load1 rfl (ty := 25) rfl rfl 1 rfl Tryz.underlying25 rfl (by with_reducible exact get_20 _ _) ?_ | refine H.load1 rfl (ty := 25) rfl rfl 1 rfl Tryz.underlying25 rfl (by with_reducible exact get_21 _ _) ?_ | refine H.load1 rfl (ty := 25) rfl rfl 1 rfl Tryz.underlying25 rfl (by with_reducible exact limbs_o0 _) ?_ | refine H.load1 rfl (ty := 25) rfl rfl 1 rfl Tryz.underlying25 rfl (by with_reducible exact limbs_o1 _) ?_ | refine H.load1 rfl (ty := 25) rfl rfl 1 rfl Tryz.underlying25 rfl (by with_reducible exact limbs_o2 _) ?_ | refine H.load1 rfl (ty := 25) rfl rfl 1 rfl Tryz.underlying25 rfl (by with_reducible exact limbs_o3 _) ?_ | refine H.load1 rfl (ty := 25) rfl rfl 1 rfl Tryz.underlying25 rfl (by with_reducible exact limbs_o4 _) ?_ | refine H.load1 rfl (ty := 25) rfl rfl 1 rfl Tryz.underlying25 rfl (by with_reducible exact limbs_o5 _) ?_ | refine H.load1 rfl (ty := 25) rfl rfl 1 rfl Tryz.underlying25 rfl (by with_reducible exact get_10 _) ?_); simp only [Act.put, q1_, q2_, q3_, List.set_nil])
    | ((with_reducible show wpList _ _ _ (⟨_, .store 27 _ _, _, _, _, _⟩ :: _) _ _); (first | refine H.store rfl (ty := 27) rfl rfl (cells_agg _) 0 rfl v2_ (by exact tB_s) (one_of rfl) (ble_le rfl) ?_ | refine H.store rfl (ty := 27) rfl rfl (cells_agg _) 1 rfl v2_ (by exact tB_s) (one_of rfl) (ble_le rfl) ?_); (intro w H; simp only [q2_, q3_] at H; simp only [Act.put, q1_, q2_, q3_, List.set_nil]))
    | ((with_reducible show wpList _ _ _ (⟨_, .store 25 _ _, _, _, _, _⟩ :: _) _ _); (first | refine H.store rfl (ty := 25) rfl rfl (cells_int _ _) 0 rfl (by with_reducible exact set_20 _ _ _) (by exact tu_s) (one_of rfl) (ble_le rfl) ?_ | refine H.store rfl (ty := 25) rfl rfl (cells_int _ _) 0 rfl (by with_reducible exact set_21 _ _ _) (by exact tu_s) (one_of rfl) (ble_le rfl) ?_ | refine H.store rfl (ty := 25) rfl rfl (cells_int _ _) 0 rfl (by with_reducible exact set_10 _ _) (by exact tu_s) (one_of rfl) (ble_le rfl) ?_ | refine H.store rfl (ty := 25) rfl rfl (cells_int _ _) 1 rfl (by with_reducible exact set_20 _ _ _) (by exact tu_s) (one_of rfl) (ble_le rfl) ?_ | refine H.store rfl (ty := 25) rfl rfl (cells_int _ _) 1 rfl (by with_reducible exact set_21 _ _ _) (by exact tu_s) (one_of rfl) (ble_le rfl) ?_ | refine H.store rfl (ty := 25) rfl rfl (cells_int _ _) 1 rfl (by with_reducible exact set_10 _ _) (by exact tu_s) (one_of rfl) (ble_le rfl) ?_); (intro w H; simp only [q2_, q3_] at H; simp only [Act.put, q1_, q2_, q3_, List.set_nil]))
    | ((first | go_at_call 77 | go_at_call 177 | go_at_call 158); (with_reducible first | refine (cI _).mono ?_ | refine (cN _).mono ?_ | refine (cW _).mono ?_); rintro e w ⟨rfl, hb⟩; replace H := H.call hb; clear hb)
    | (go_at_call 154; ((with_reducible refine (cC _).mono ?_); rintro e w' ⟨rfl, rfl⟩))
    )
  (first | refine bodyPost_ret (results_c rfl rfl (H.result 0 rfl Tryz.underlying27 rfl (by exact tB_s) (ext_2 _ _))) rfl ⟨?_, H.below⟩ | refine bodyPost_ret (results_c rfl rfl (H.result 1 rfl Tryz.underlying27 rfl (by exact tB_s) (ext_2 _ _))) rfl ⟨?_, H.below⟩)
  exact rfl
theorem shapeGreatest_no (f : Nat) (neg : Bool) (w : World) (hf : f < 256) (h4 : ¬ f < 4) :
    Calls Tryz.prog 202 #[.int .u8 f, .bool neg] w fun e w' => e = .returned (BV (greatN f neg)) ∧ Below w.heap.size w w' := by
  have H := Own.start w
  rw [show greatN f neg = 0 by unfold greatN; rw [decide_eq_false h4]; rfl]
  have cI : ∀ w, Calls Tryz.prog 77 #[.int .u8 f, .bool false] w fun e w' => e = .returned (.agg #[.int .u64 0, .int .u64 0]) ∧ Below w.heap.size w w' := by
    intro w
    have := shapeInf_any f false w hf
    rw [show infN f false = 0 by unfold infN; rw [decide_eq_false h4]; rfl] at this
    exact this
  go_enter Tryz.func202, Tryz.ntmps202
  go_wp2_with (first
    | ((with_reducible show wpList _ _ _ (⟨_, .box _ _, _, _, _, _⟩ :: _) _ _); refine H.box rfl rfl (cells_agg _) ?_; (intro g w H; simp only [Act.put, q1_, q2_, q3_, List.set_nil]))
    | ((with_reducible show wpList _ _ _ (⟨_, .alloc 27, _, _, _, _⟩ :: _) _ _); refine H.new rfl (T := 27) rfl tB_z (cells_agg _) ?_; (intro g w H; simp only [Act.put, q1_, q2_, q3_, List.set_nil]))
    | ((with_reducible show wpList _ _ _ (⟨_, .alloc 25, _, _, _, _⟩ :: _) _ _); refine H.new rfl (T := 25) rfl tu_z (cells_int _ _) ?_; (intro g w H; simp only [Act.put, q1_, q2_, q3_, List.set_nil]))
    | ((with_reducible show wpList _ _ _ (⟨_, .load 27 _, _, _, _, _⟩ :: _) _ _); (first | refine H.load rfl (ty := 27) rfl rfl 0 rfl Tryz.underlying27 rfl (by with_reducible exact ext_2 _ _) (by exact tB_s) ?_ | refine H.load rfl (ty := 27) rfl rfl 1 rfl Tryz.underlying27 rfl (by with_reducible exact ext_2 _ _) (by exact tB_s) ?_); simp only [Act.put, q1_, q2_, q3_, List.set_nil])
    | ((with_reducible show wpList _ _ _ (⟨_, .load 25 _, _, _, _, _⟩ :: _) _ _); (first | refine H.load1 rfl (ty := 25) rfl rfl 0 rfl Tryz.underlying25 rfl (by with_reducible exact get_20 _ _) ?_ | refine H.load1 rfl (ty := 25) rfl rfl 0 rfl Tryz.underlying25 rfl (by with_reducible exact get_21 _ _) ?_ | refine H.load1 rfl (ty := 25) rfl rfl 0 rfl Tryz.underlying25 rfl (by with_reducible exact limbs_o0 _) ?_ | refine H.load1 rfl (ty := 25) rfl rfl 0 rfl Tryz.underlying25 rfl (by with_reducible exact limbs_o1 _) ?_ | refine H.load1 rfl (ty := 25) rfl rfl 0 rfl Tryz.underlying25 rfl (by with_reducible exact limbs_o2 _) ?_ | refine H.load1 rfl (ty := 25) rfl rfl 0 rfl Tryz.underlying25 rfl (by with_reducible exact limbs_o3 _) ?_ | refine H.load1 rfl (ty := 25) rfl rfl 0 rfl Tryz.underlying25 rfl (by with_reducible exact limbs_o4 _) ?_ | refine H.load1 rfl (ty := 25) rfl rfl 0 rfl Tryz.underlying25 rfl (by with_reducible exact limbs_o5 _) ?_ | refine H.load1 rfl (ty := 25) rfl rfl 0 rfl Tryz.underlying25 rfl (by with_reducible exact get_10 _) ?_ | refine H.load1 rfl (ty := 25) rfl rfl 1 rfl Tryz.underlying25 rfl (by with_reducible exact get_20 _ _) ?_ | refine H.load1 rfl (ty := 25) rfl rfl 1 rfl Tryz.underlying25 rfl (by with_reducible exact get_21 _ _) ?_ | refine H.load1 rfl (ty := 25) rfl rfl 1 rfl Tryz.underlying25 rfl (by with_reducible exact limbs_o0 _) ?_ | refine H.load1 rfl (ty := 25) rfl rfl 1 rfl Tryz.underlying25 rfl (by with_reducible exact limbs_o1 _) ?_ | refine H.load1 rfl (ty := 25) rfl rfl 1 rfl Tryz.underlying25 rfl (by with_reducible exact limbs_o2 _) ?_ | refine H.load1 rfl (ty := 25) rfl rfl 1 rfl Tryz.underlying25 rfl (by with_reducible exact limbs_o3 _) ?_ | refine H.load1 rfl (ty := 25) rfl rfl 1 rfl Tryz.underlying25 rfl (by with_reducible exact limbs_o4 _) ?_ | refine H.load1 rfl (ty := 25) rfl rfl 1 rfl Tryz.underlying25 rfl (by with_reducible exact limbs_o5 _) ?_ | refine H.load1 rfl (ty := 25) rfl rfl 1 rfl Tryz.underlying25 rfl (by with_reducible exact get_10 _) ?_); simp only [Act.put, q1_, q2_, q3_, List.set_nil])
    | ((with_reducible show wpList _ _ _ (⟨_, .store 27 _ _, _, _, _, _⟩ :: _) _ _); (first | refine H.store rfl (ty := 27) rfl rfl (cells_agg _) 0 rfl v2_ (by exact tB_s) (one_of rfl) (ble_le rfl) ?_ | refine H.store rfl (ty := 27) rfl rfl (cells_agg _) 1 rfl v2_ (by exact tB_s) (one_of rfl) (ble_le rfl) ?_); (intro w H; simp only [q2_, q3_] at H; simp only [Act.put, q1_, q2_, q3_, List.set_nil]))
    | ((with_reducible show wpList _ _ _ (⟨_, .store 25 _ _, _, _, _, _⟩ :: _) _ _); (first | refine H.store rfl (ty := 25) rfl rfl (cells_int _ _) 0 rfl (by with_reducible exact set_20 _ _ _) (by exact tu_s) (one_of rfl) (ble_le rfl) ?_ | refine H.store rfl (ty := 25) rfl rfl (cells_int _ _) 0 rfl (by with_reducible exact set_21 _ _ _) (by exact tu_s) (one_of rfl) (ble_le rfl) ?_ | refine H.store rfl (ty := 25) rfl rfl (cells_int _ _) 0 rfl (by with_reducible exact set_10 _ _) (by exact tu_s) (one_of rfl) (ble_le rfl) ?_ | refine H.store rfl (ty := 25) rfl rfl (cells_int _ _) 1 rfl (by with_reducible exact set_20 _ _ _) (by exact tu_s) (one_of rfl) (ble_le rfl) ?_ | refine H.store rfl (ty := 25) rfl rfl (cells_int _ _) 1 rfl (by with_reducible exact set_21 _ _ _) (by exact tu_s) (one_of rfl) (ble_le rfl) ?_ | refine H.store rfl (ty := 25) rfl rfl (cells_int _ _) 1 rfl (by with_reducible exact set_10 _ _) (by exact tu_s) (one_of rfl) (ble_le rfl) ?_); (intro w H; simp only [q2_, q3_] at H; simp only [Act.put, q1_, q2_, q3_, List.set_nil]))
    | (go_at_call 77; ((with_reducible refine (cI _).mono ?_); rintro e w ⟨rfl, hb⟩; replace H := H.call hb; clear hb))
    )
  (first | refine bodyPost_ret (results_c rfl rfl (H.result 0 rfl Tryz.underlying27 rfl (by exact tB_s) (ext_2 _ _))) rfl ⟨?_, H.below⟩ | refine bodyPost_ret (results_c rfl rfl (H.result 1 rfl Tryz.underlying27 rfl (by exact tB_s) (ext_2 _ _))) rfl ⟨?_, H.below⟩)
  exact rfl
theorem shapeGreatest_any (f : Nat) (neg : Bool) (w : World) (hf : f < 256) :
    Calls Tryz.prog 202 #[.int .u8 f, .bool neg] w fun e w' => e = .returned (BV (greatN f neg)) ∧ Below w.heap.size w w' := by
  rcases forms f with rfl | rfl | rfl | rfl | h
  · exact shapeGreatest_0 neg w
  · exact shapeGreatest_1 neg w
  · exact shapeGreatest_2 neg w
  · exact shapeGreatest_3 neg w
  · exact shapeGreatest_no f neg w hf (by omega)
theorem roundRight_no (f m : Nat) (w : World) (hf : f < 256) (h4 : ¬ f < 4) :
    Calls Tryz.prog 140 #[.int .u8 f, .int .u8 m] w fun e w' => e = .returned (.bool false) ∧ w = w' := by
  go_enter Tryz.func140, Tryz.ntmps140
  go_wp2_with (first | (go_at_call 154; ((with_reducible refine (shapeCheck_any f _ hf).mono ?_); rw [decide_eq_false h4]; rintro e w' ⟨rfl, rfl⟩)))
  go_ret
  exact ⟨rfl, rfl⟩
theorem roundRight_yes (f m : Nat) (w : World) (hf : f < 256) (hm : m < 256) (h4 : f < 4) :
    Calls Tryz.prog 140 #[.int .u8 f, .int .u8 m] w fun e w' => e = .returned (.bool (decide (m < 5))) ∧ w = w' := by
  by_cases h5 : m < 5
  · rw [decide_eq_true h5]
    go_enter Tryz.func140, Tryz.ntmps140
    go_wp2_with (first | (go_at_call 154; ((with_reducible refine (shapeCheck_any f _ hf).mono ?_); rw [decide_eq_true h4]; rintro e w' ⟨rfl, rfl⟩)) | (go_at_call 121; ((with_reducible refine (shapeCheckMode_any m _ hm).mono ?_); rw [decide_eq_true h5]; rintro e w' ⟨rfl, rfl⟩)))
    go_ret
    exact ⟨rfl, rfl⟩
  rw [decide_eq_false h5]
  go_enter Tryz.func140, Tryz.ntmps140
  go_wp2_with (first | (go_at_call 154; ((with_reducible refine (shapeCheck_any f _ hf).mono ?_); rw [decide_eq_true h4]; rintro e w' ⟨rfl, rfl⟩)) | (go_at_call 121; ((with_reducible refine (shapeCheckMode_any m _ hm).mono ?_); rw [decide_eq_false h5]; rintro e w' ⟨rfl, rfl⟩)))
  go_ret
  exact ⟨rfl, rfl⟩
theorem roundRight_any (f m : Nat) (w : World) (hf : f < 256) (hm : m < 256) :
    Calls Tryz.prog 140 #[.int .u8 f, .int .u8 m] w fun e w' => e = .returned (.bool (decide (f < 4) && decide (m < 5))) ∧ w = w' := by
  by_cases h4 : f < 4
  · rw [decide_eq_true h4, Bool.true_and]; exact roundRight_yes f m w hf hm h4
  · rw [decide_eq_false h4, Bool.false_and]; exact roundRight_no f m w hf h4
theorem roundOver_0 (f : Nat) (neg : Bool) (w : World) (hf : f < 256) (cR : ∀ w, Calls Tryz.prog 140 #[.int .u8 f, .int .u8 0] w fun e w' => e = .returned (.bool true) ∧ w = w') :
    Calls Tryz.prog 143 #[.int .u8 f, .int .u8 0, .bool neg] w fun e w' => e = .returned (.tuple #[BV (infN f neg), .int .u8 5, .int .i64 0]) ∧ Below w.heap.size w w' := by
  have H := Own.start w
  go_enter Tryz.func143, Tryz.ntmps143
  go_wp2_with (first
    | ((with_reducible show wpList _ _ _ (⟨_, .box _ _, _, _, _, _⟩ :: _) _ _); refine H.box rfl rfl (cells_agg _) ?_; (intro g w H; simp only [Act.put, q1_, q2_, q3_, List.set_nil]))
    | ((with_reducible show wpList _ _ _ (⟨_, .alloc 27, _, _, _, _⟩ :: _) _ _); refine H.new rfl (T := 27) rfl tB_z (cells_agg _) ?_; (intro g w H; simp only [Act.put, q1_, q2_, q3_, List.set_nil]))
    | ((with_reducible show wpList _ _ _ (⟨_, .load 27 _, _, _, _, _⟩ :: _) _ _); refine H.load rfl (ty := 27) rfl rfl 0 rfl Tryz.underlying27 rfl (by with_reducible exact ext_2 _ _) (by exact tB_s) ?_; simp only [Act.put, q1_, q2_, q3_, List.set_nil])
    | ((with_reducible show wpList _ _ _ (⟨_, .store 27 _ _, _, _, _, _⟩ :: _) _ _); refine H.store rfl (ty := 27) rfl rfl (cells_agg _) 0 rfl v2_ (by exact tB_s) (one_of rfl) (ble_le rfl) ?_; (intro w H; simp only [q2_, q3_] at H; simp only [Act.put, q1_, q2_, q3_, List.set_nil]))
    | (go_at_call 140; ((with_reducible refine (cR _).mono ?_); rintro e w' ⟨rfl, rfl⟩))
    | ((first | go_at_call 202 | go_at_call 77); (with_reducible first | refine (shapeGreatest_any f neg _ hf).mono ?_ | refine (shapeInf_any f neg _ hf).mono ?_); rintro e w ⟨rfl, hb⟩; replace H := H.call hb; clear hb)
    )
  refine bodyPost_ret (results_ctt rfl rfl (H.result 0 rfl Tryz.underlying27 rfl (by exact tB_s) (ext_2 _ _))) rfl ⟨?_, H.below⟩
  exact rfl
theorem roundOver_1 (f : Nat) (neg : Bool) (w : World) (hf : f < 256) (cR : ∀ w, Calls Tryz.prog 140 #[.int .u8 f, .int .u8 1] w fun e w' => e = .returned (.bool true) ∧ w = w') :
    Calls Tryz.prog 143 #[.int .u8 f, .int .u8 1, .bool neg] w fun e w' => e = .returned (.tuple #[BV (greatN f neg), .int .u8 5, .int .i64 0]) ∧ Below w.heap.size w w' := by
  have H := Own.start w
  go_enter Tryz.func143, Tryz.ntmps143
  go_wp2_with (first
    | ((with_reducible show wpList _ _ _ (⟨_, .box _ _, _, _, _, _⟩ :: _) _ _); refine H.box rfl rfl (cells_agg _) ?_; (intro g w H; simp only [Act.put, q1_, q2_, q3_, List.set_nil]))
    | ((with_reducible show wpList _ _ _ (⟨_, .alloc 27, _, _, _, _⟩ :: _) _ _); refine H.new rfl (T := 27) rfl tB_z (cells_agg _) ?_; (intro g w H; simp only [Act.put, q1_, q2_, q3_, List.set_nil]))
    | ((with_reducible show wpList _ _ _ (⟨_, .load 27 _, _, _, _, _⟩ :: _) _ _); refine H.load rfl (ty := 27) rfl rfl 0 rfl Tryz.underlying27 rfl (by with_reducible exact ext_2 _ _) (by exact tB_s) ?_; simp only [Act.put, q1_, q2_, q3_, List.set_nil])
    | ((with_reducible show wpList _ _ _ (⟨_, .store 27 _ _, _, _, _, _⟩ :: _) _ _); refine H.store rfl (ty := 27) rfl rfl (cells_agg _) 0 rfl v2_ (by exact tB_s) (one_of rfl) (ble_le rfl) ?_; (intro w H; simp only [q2_, q3_] at H; simp only [Act.put, q1_, q2_, q3_, List.set_nil]))
    | (go_at_call 140; ((with_reducible refine (cR _).mono ?_); rintro e w' ⟨rfl, rfl⟩))
    | ((first | go_at_call 202 | go_at_call 77); (with_reducible first | refine (shapeGreatest_any f neg _ hf).mono ?_ | refine (shapeInf_any f neg _ hf).mono ?_); rintro e w ⟨rfl, hb⟩; replace H := H.call hb; clear hb)
    )
  refine bodyPost_ret (results_ctt rfl rfl (H.result 0 rfl Tryz.underlying27 rfl (by exact tB_s) (ext_2 _ _))) rfl ⟨?_, H.below⟩
  exact rfl
theorem roundOver_2t (f : Nat) (w : World) (hf : f < 256) (cR : ∀ w, Calls Tryz.prog 140 #[.int .u8 f, .int .u8 2] w fun e w' => e = .returned (.bool true) ∧ w = w') :
    Calls Tryz.prog 143 #[.int .u8 f, .int .u8 2, .bool true] w fun e w' => e = .returned (.tuple #[BV (infN f true), .int .u8 5, .int .i64 0]) ∧ Below w.heap.size w w' := by
  have H := Own.start w
  go_enter Tryz.func143, Tryz.ntmps143
  go_wp2_with (first
    | ((with_reducible show wpList _ _ _ (⟨_, .box _ _, _, _, _, _⟩ :: _) _ _); refine H.box rfl rfl (cells_agg _) ?_; (intro g w H; simp only [Act.put, q1_, q2_, q3_, List.set_nil]))
    | ((with_reducible show wpList _ _ _ (⟨_, .alloc 27, _, _, _, _⟩ :: _) _ _); refine H.new rfl (T := 27) rfl tB_z (cells_agg _) ?_; (intro g w H; simp only [Act.put, q1_, q2_, q3_, List.set_nil]))
    | ((with_reducible show wpList _ _ _ (⟨_, .load 27 _, _, _, _, _⟩ :: _) _ _); refine H.load rfl (ty := 27) rfl rfl 0 rfl Tryz.underlying27 rfl (by with_reducible exact ext_2 _ _) (by exact tB_s) ?_; simp only [Act.put, q1_, q2_, q3_, List.set_nil])
    | ((with_reducible show wpList _ _ _ (⟨_, .store 27 _ _, _, _, _, _⟩ :: _) _ _); refine H.store rfl (ty := 27) rfl rfl (cells_agg _) 0 rfl v2_ (by exact tB_s) (one_of rfl) (ble_le rfl) ?_; (intro w H; simp only [q2_, q3_] at H; simp only [Act.put, q1_, q2_, q3_, List.set_nil]))
    | (go_at_call 140; ((with_reducible refine (cR _).mono ?_); rintro e w' ⟨rfl, rfl⟩))
    | ((first | go_at_call 202 | go_at_call 77); (with_reducible first | refine (shapeGreatest_any f true _ hf).mono ?_ | refine (shapeInf_any f true _ hf).mono ?_); rintro e w ⟨rfl, hb⟩; replace H := H.call hb; clear hb)
    )
  refine bodyPost_ret (results_ctt rfl rfl (H.result 0 rfl Tryz.underlying27 rfl (by exact tB_s) (ext_2 _ _))) rfl ⟨?_, H.below⟩
  exact rfl
theorem roundOver_2f (f : Nat) (w : World) (hf : f < 256) (cR : ∀ w, Calls Tryz.prog 140 #[.int .u8 f, .int .u8 2] w fun e w' => e = .returned (.bool true) ∧ w = w') :
    Calls Tryz.prog 143 #[.int .u8 f, .int .u8 2, .bool false] w fun e w' => e = .returned (.tuple #[BV (greatN f false), .int .u8 5, .int .i64 0]) ∧ Below w.heap.size w w' := by
  have H := Own.start w
  go_enter Tryz.func143, Tryz.ntmps143
  go_wp2_with (first
    | ((with_reducible show wpList _ _ _ (⟨_, .box _ _, _, _, _, _⟩ :: _) _ _); refine H.box rfl rfl (cells_agg _) ?_; (intro g w H; simp only [Act.put, q1_, q2_, q3_, List.set_nil]))
    | ((with_reducible show wpList _ _ _ (⟨_, .alloc 27, _, _, _, _⟩ :: _) _ _); refine H.new rfl (T := 27) rfl tB_z (cells_agg _) ?_; (intro g w H; simp only [Act.put, q1_, q2_, q3_, List.set_nil]))
    | ((with_reducible show wpList _ _ _ (⟨_, .load 27 _, _, _, _, _⟩ :: _) _ _); refine H.load rfl (ty := 27) rfl rfl 0 rfl Tryz.underlying27 rfl (by with_reducible exact ext_2 _ _) (by exact tB_s) ?_; simp only [Act.put, q1_, q2_, q3_, List.set_nil])
    | ((with_reducible show wpList _ _ _ (⟨_, .store 27 _ _, _, _, _, _⟩ :: _) _ _); refine H.store rfl (ty := 27) rfl rfl (cells_agg _) 0 rfl v2_ (by exact tB_s) (one_of rfl) (ble_le rfl) ?_; (intro w H; simp only [q2_, q3_] at H; simp only [Act.put, q1_, q2_, q3_, List.set_nil]))
    | (go_at_call 140; ((with_reducible refine (cR _).mono ?_); rintro e w' ⟨rfl, rfl⟩))
    | ((first | go_at_call 202 | go_at_call 77); (with_reducible first | refine (shapeGreatest_any f false _ hf).mono ?_ | refine (shapeInf_any f false _ hf).mono ?_); rintro e w ⟨rfl, hb⟩; replace H := H.call hb; clear hb)
    )
  refine bodyPost_ret (results_ctt rfl rfl (H.result 0 rfl Tryz.underlying27 rfl (by exact tB_s) (ext_2 _ _))) rfl ⟨?_, H.below⟩
  exact rfl
theorem roundOver_3t (f : Nat) (w : World) (hf : f < 256) (cR : ∀ w, Calls Tryz.prog 140 #[.int .u8 f, .int .u8 3] w fun e w' => e = .returned (.bool true) ∧ w = w') :
    Calls Tryz.prog 143 #[.int .u8 f, .int .u8 3, .bool true] w fun e w' => e = .returned (.tuple #[BV (greatN f true), .int .u8 5, .int .i64 0]) ∧ Below w.heap.size w w' := by
  have H := Own.start w
  go_enter Tryz.func143, Tryz.ntmps143
  go_wp2_with (first
    | ((with_reducible show wpList _ _ _ (⟨_, .box _ _, _, _, _, _⟩ :: _) _ _); refine H.box rfl rfl (cells_agg _) ?_; (intro g w H; simp only [Act.put, q1_, q2_, q3_, List.set_nil]))
    | ((with_reducible show wpList _ _ _ (⟨_, .alloc 27, _, _, _, _⟩ :: _) _ _); refine H.new rfl (T := 27) rfl tB_z (cells_agg _) ?_; (intro g w H; simp only [Act.put, q1_, q2_, q3_, List.set_nil]))
    | ((with_reducible show wpList _ _ _ (⟨_, .load 27 _, _, _, _, _⟩ :: _) _ _); refine H.load rfl (ty := 27) rfl rfl 0 rfl Tryz.underlying27 rfl (by with_reducible exact ext_2 _ _) (by exact tB_s) ?_; simp only [Act.put, q1_, q2_, q3_, List.set_nil])
    | ((with_reducible show wpList _ _ _ (⟨_, .store 27 _ _, _, _, _, _⟩ :: _) _ _); refine H.store rfl (ty := 27) rfl rfl (cells_agg _) 0 rfl v2_ (by exact tB_s) (one_of rfl) (ble_le rfl) ?_; (intro w H; simp only [q2_, q3_] at H; simp only [Act.put, q1_, q2_, q3_, List.set_nil]))
    | (go_at_call 140; ((with_reducible refine (cR _).mono ?_); rintro e w' ⟨rfl, rfl⟩))
    | ((first | go_at_call 202 | go_at_call 77); (with_reducible first | refine (shapeGreatest_any f true _ hf).mono ?_ | refine (shapeInf_any f true _ hf).mono ?_); rintro e w ⟨rfl, hb⟩; replace H := H.call hb; clear hb)
    )
  refine bodyPost_ret (results_ctt rfl rfl (H.result 0 rfl Tryz.underlying27 rfl (by exact tB_s) (ext_2 _ _))) rfl ⟨?_, H.below⟩
  exact rfl
theorem roundOver_3f (f : Nat) (w : World) (hf : f < 256) (cR : ∀ w, Calls Tryz.prog 140 #[.int .u8 f, .int .u8 3] w fun e w' => e = .returned (.bool true) ∧ w = w') :
    Calls Tryz.prog 143 #[.int .u8 f, .int .u8 3, .bool false] w fun e w' => e = .returned (.tuple #[BV (infN f false), .int .u8 5, .int .i64 0]) ∧ Below w.heap.size w w' := by
  have H := Own.start w
  go_enter Tryz.func143, Tryz.ntmps143
  go_wp2_with (first
    | ((with_reducible show wpList _ _ _ (⟨_, .box _ _, _, _, _, _⟩ :: _) _ _); refine H.box rfl rfl (cells_agg _) ?_; (intro g w H; simp only [Act.put, q1_, q2_, q3_, List.set_nil]))
    | ((with_reducible show wpList _ _ _ (⟨_, .alloc 27, _, _, _, _⟩ :: _) _ _); refine H.new rfl (T := 27) rfl tB_z (cells_agg _) ?_; (intro g w H; simp only [Act.put, q1_, q2_, q3_, List.set_nil]))
    | ((with_reducible show wpList _ _ _ (⟨_, .load 27 _, _, _, _, _⟩ :: _) _ _); refine H.load rfl (ty := 27) rfl rfl 0 rfl Tryz.underlying27 rfl (by with_reducible exact ext_2 _ _) (by exact tB_s) ?_; simp only [Act.put, q1_, q2_, q3_, List.set_nil])
    | ((with_reducible show wpList _ _ _ (⟨_, .store 27 _ _, _, _, _, _⟩ :: _) _ _); refine H.store rfl (ty := 27) rfl rfl (cells_agg _) 0 rfl v2_ (by exact tB_s) (one_of rfl) (ble_le rfl) ?_; (intro w H; simp only [q2_, q3_] at H; simp only [Act.put, q1_, q2_, q3_, List.set_nil]))
    | (go_at_call 140; ((with_reducible refine (cR _).mono ?_); rintro e w' ⟨rfl, rfl⟩))
    | ((first | go_at_call 202 | go_at_call 77); (with_reducible first | refine (shapeGreatest_any f false _ hf).mono ?_ | refine (shapeInf_any f false _ hf).mono ?_); rintro e w ⟨rfl, hb⟩; replace H := H.call hb; clear hb)
    )
  refine bodyPost_ret (results_ctt rfl rfl (H.result 0 rfl Tryz.underlying27 rfl (by exact tB_s) (ext_2 _ _))) rfl ⟨?_, H.below⟩
  exact rfl
theorem roundOver_4 (f : Nat) (neg : Bool) (w : World) (hf : f < 256) (cR : ∀ w, Calls Tryz.prog 140 #[.int .u8 f, .int .u8 4] w fun e w' => e = .returned (.bool true) ∧ w = w') :
    Calls Tryz.prog 143 #[.int .u8 f, .int .u8 4, .bool neg] w fun e w' => e = .returned (.tuple #[BV (infN f neg), .int .u8 5, .int .i64 0]) ∧ Below w.heap.size w w' := by
  have H := Own.start w
  go_enter Tryz.func143, Tryz.ntmps143
  go_wp2_with (first
    | ((with_reducible show wpList _ _ _ (⟨_, .box _ _, _, _, _, _⟩ :: _) _ _); refine H.box rfl rfl (cells_agg _) ?_; (intro g w H; simp only [Act.put, q1_, q2_, q3_, List.set_nil]))
    | ((with_reducible show wpList _ _ _ (⟨_, .alloc 27, _, _, _, _⟩ :: _) _ _); refine H.new rfl (T := 27) rfl tB_z (cells_agg _) ?_; (intro g w H; simp only [Act.put, q1_, q2_, q3_, List.set_nil]))
    | ((with_reducible show wpList _ _ _ (⟨_, .load 27 _, _, _, _, _⟩ :: _) _ _); refine H.load rfl (ty := 27) rfl rfl 0 rfl Tryz.underlying27 rfl (by with_reducible exact ext_2 _ _) (by exact tB_s) ?_; simp only [Act.put, q1_, q2_, q3_, List.set_nil])
    | ((with_reducible show wpList _ _ _ (⟨_, .store 27 _ _, _, _, _, _⟩ :: _) _ _); refine H.store rfl (ty := 27) rfl rfl (cells_agg _) 0 rfl v2_ (by exact tB_s) (one_of rfl) (ble_le rfl) ?_; (intro w H; simp only [q2_, q3_] at H; simp only [Act.put, q1_, q2_, q3_, List.set_nil]))
    | (go_at_call 140; ((with_reducible refine (cR _).mono ?_); rintro e w' ⟨rfl, rfl⟩))
    | ((first | go_at_call 202 | go_at_call 77); (with_reducible first | refine (shapeGreatest_any f neg _ hf).mono ?_ | refine (shapeInf_any f neg _ hf).mono ?_); rintro e w ⟨rfl, hb⟩; replace H := H.call hb; clear hb)
    )
  refine bodyPost_ret (results_ctt rfl rfl (H.result 0 rfl Tryz.underlying27 rfl (by exact tB_s) (ext_2 _ _))) rfl ⟨?_, H.below⟩
  exact rfl
theorem roundOver_any (f m : Nat) (neg : Bool) (w : World) (hf : f < 4) (hm : m < 5) :
    Calls Tryz.prog 143 #[.int .u8 f, .int .u8 m, .bool neg] w fun e w' => e = .returned (.tuple #[BV (overN f m neg), .int .u8 5, .int .i64 0]) ∧ Below w.heap.size w w' := by
  have cR := fun w => roundRight_any f m w (by omega) (by omega)
  rw [decide_eq_true hf, decide_eq_true hm] at cR
  have : m = 0 ∨ m = 1 ∨ m = 2 ∨ m = 3 ∨ m = 4 := by omega
  rcases this with rfl | rfl | rfl | rfl | rfl
  · exact roundOver_0 f neg w (by omega) cR
  · exact roundOver_1 f neg w (by omega) cR
  · cases neg
    · exact roundOver_2f f w (by omega) cR
    · exact roundOver_2t f w (by omega) cR
  · cases neg
    · exact roundOver_3f f w (by omega) cR
    · exact roundOver_3t f w (by omega) cR
  · exact roundOver_4 f neg w (by omega) cR
open Go.RowKit
theorem set_bits (a b c d : Value) : setRow #[a, b] 0 (#[c, d] : Array Value).toList = #[c, d] := set_all _ _ rfl
theorem roundTiny_ne (f m s p : Nat) (e top lo : Int) (neg mo : Bool) (w : World) (hT : Tab w) (hp : p ≤ 113) (l1 : -20000 ≤ lo) (l2 : lo ≤ 20000) (t1 : -1100000 ≤ top) (t2 : top ≤ 1100000) (hne : (top == lo - 1) = false) (cE : CK_ 141 #[.int .u8 f] (.int .i64 lo)) (cP : CK_ 79 #[.int .u8 f] (.int .i64 (p : Nat))) :
    Calls Tryz.prog 145 #[.int .u8 f, .int .u8 m, RV neg s e mo, .int .i64 top] w fun e w' => e = .returned (.bool (decide (top < lo))) ∧ Below w.heap.size w w' := by
  have H := Own.start w
  have HT := Lib.hid hT
  clear hT
  have hne2 : (top != lo - 1) = true := by rw [bne, hne]; rfl
  go_enter Tryz.func145, Tryz.ntmps145
  exact walk1
theorem roundTiny_eq (f m s p k lk : Nat) (e top lo at_ : Int) (neg mo ex : Bool) (w : World) (hT : Tab w) (hp : p ≤ 113) (l1 : -20000 ≤ lo) (l2 : lo ≤ 20000) (t1 : -1100000 ≤ top) (t2 : top ≤ 1100000) (heq : (top == lo - 1) = true) (ha : top - (p : Int) + 1 = at_) (cE : CK_ 141 #[.int .u8 f] (.int .i64 lo)) (cP : CK_ 79 #[.int .u8 f] (.int .i64 (p : Nat))) (cG : CT_ 144 #[.int .u8 m, RV neg s e mo, .int .i64 at_] (.tuple #[W k, .bool ex])) (cK : CK_ 80 #[W k] (.int .i64 (lk : Nat))) :
    Calls Tryz.prog 145 #[.int .u8 f, .int .u8 m, RV neg s e mo, .int .i64 top] w fun e w' => e = .returned (.bool (decide (lk ≤ p))) ∧ Below w.heap.size w w' := by
  have H := Own.start w
  have HT := Lib.hid hT
  clear hT
  have hne2 : (top != lo - 1) = false := by rw [bne, heq]; rfl
  go_enter Tryz.func145, Tryz.ntmps145
  exact walk1
theorem roundPack_right (f m s p : Nat) (e : Int) (neg mo : Bool) (w : World) (hp : p ≤ 113) (cP : CK_ 79 #[.int .u8 f] (.int .i64 (p : Nat))) (cR : ∀ w, Calls Tryz.prog 140 #[.int .u8 f, .int .u8 m] w fun e w' => e = .returned (.bool false) ∧ w = w') :
    Calls Tryz.prog 61 #[.int .u8 f, .int .u8 m, RV neg s e mo] w fun e w' => e = .returned (.tuple #[BV 0, .int .u8 0, .int .i64 2]) ∧ Below w.heap.size w w' := by
  have H := Own.start w
  go_enter Tryz.func61, Tryz.ntmps61
  exact walk1
theorem roundPack_low (f m s p : Nat) (e : Int) (neg mo : Bool) (w : World) (hp : p ≤ 113) (he : e < -1048576) (cP : CK_ 79 #[.int .u8 f] (.int .i64 (p : Nat))) (cR : ∀ w, Calls Tryz.prog 140 #[.int .u8 f, .int .u8 m] w fun e w' => e = .returned (.bool true) ∧ w = w') :
    Calls Tryz.prog 61 #[.int .u8 f, .int .u8 m, RV neg s e mo] w fun e w' => e = .returned (.tuple #[BV 0, .int .u8 0, .int .i64 2]) ∧ Below w.heap.size w w' := by
  have H := Own.start w
  have he2 : decide (e < -1048576) = true := by simpa using he
  go_enter Tryz.func61, Tryz.ntmps61
  exact walk1
theorem roundPack_high (f m s p : Nat) (e : Int) (neg mo : Bool) (w : World) (hp : p ≤ 113) (he : 1048576 < e) (cP : CK_ 79 #[.int .u8 f] (.int .i64 (p : Nat))) (cR : ∀ w, Calls Tryz.prog 140 #[.int .u8 f, .int .u8 m] w fun e w' => e = .returned (.bool true) ∧ w = w') :
    Calls Tryz.prog 61 #[.int .u8 f, .int .u8 m, RV neg s e mo] w fun e w' => e = .returned (.tuple #[BV 0, .int .u8 0, .int .i64 2]) ∧ Below w.heap.size w w' := by
  have H := Own.start w
  have he2 : decide (e < -1048576) = false := by simp; omega
  have he3 : decide (1048576 < e) = true := by simpa using he
  go_enter Tryz.func61, Tryz.ntmps61
  exact walk1
theorem roundPack_more (f m s p l : Nat) (e : Int) (neg : Bool) (w : World) (hp : p ≤ 113) (h1 : -1048576 ≤ e) (h2 : e ≤ 1048576) (hl : l < p + 2) (hl4 : l ≤ 384) (cP : CK_ 79 #[.int .u8 f] (.int .i64 (p : Nat))) (cR : ∀ w, Calls Tryz.prog 140 #[.int .u8 f, .int .u8 m] w fun e w' => e = .returned (.bool true) ∧ w = w') (cL : CK_ 80 #[W s] (.int .i64 (l : Nat))) :
    Calls Tryz.prog 61 #[.int .u8 f, .int .u8 m, RV neg s e true] w fun e w' => e = .returned (.tuple #[BV 0, .int .u8 0, .int .i64 2]) ∧ Below w.heap.size w w' := by
  have H := Own.start w
  have he2 : decide (e < -1048576) = false := by simp; omega
  have he3 : decide (1048576 < e) = false := by simp; omega
  have hl2 : decide ((l : Int) < (p : Int) + 2) = true := by simp; omega
  go_enter Tryz.func61, Tryz.ntmps61
  exact walk1
theorem roundPack_zero_f (f m s p l z : Nat) (e : Int) (neg : Bool) (w : World) (hT : Tab w) (hp : p ≤ 113) (h1 : -1048576 ≤ e) (h2 : e ≤ 1048576) (hl4 : l ≤ 384) (cP : CK_ 79 #[.int .u8 f] (.int .i64 (p : Nat))) (cR : ∀ w, Calls Tryz.prog 140 #[.int .u8 f, .int .u8 m] w fun e w' => e = .returned (.bool true) ∧ w = w') (cL : CK_ 80 #[W s] (.int .i64 (l : Nat))) (hs : s < top6) (hs0 : decide (s = 0) = true) (cZ : CK_ 78 #[.int .u8 f, .bool neg] (BV z)) :
    Calls Tryz.prog 61 #[.int .u8 f, .int .u8 m, RV neg s e false] w fun e w' => e = .returned (.tuple #[BV z, .int .u8 0, .int .i64 0]) ∧ Below w.heap.size w w' := by
  have H := Own.start w
  have HT := Lib.hid hT
  clear hT
  have he2 : decide (e < -1048576) = false := by simp; omega
  have he3 : decide (1048576 < e) = false := by simp; omega
  have eq1 : ∀ w, (Op.equalIn 10000 60 (.agg (limbs s)) (.agg #[.int .u64 0, .int .u64 0, .int .u64 0, .int .u64 0, .int .u64 0, .int .u64 0])).run Tryz.prog w = .ok true w := fun w => (run_equal_zero w s hs).trans (by rw [hs0])
  clear hs hs0
  go_enter Tryz.func61, Tryz.ntmps61
  exact walk1
theorem roundPack_over_f (f m s p l E o : Nat) (e top lo : Int) (neg : Bool) (w : World) (hT : Tab w) (hp : p ≤ 113) (h1 : -1048576 ≤ e) (h2 : e ≤ 1048576) (hl4 : l ≤ 384) (cP : CK_ 79 #[.int .u8 f] (.int .i64 (p : Nat))) (cR : ∀ w, Calls Tryz.prog 140 #[.int .u8 f, .int .u8 m] w fun e w' => e = .returned (.bool true) ∧ w = w') (cL : CK_ 80 #[W s] (.int .i64 (l : Nat))) (hs : s < top6) (hs0 : decide (s = 0) = false) (htop : (l : Int) - 1 + e = top) (l1 : -20000 ≤ lo) (l2 : lo ≤ 20000) (t1 : -1100000 ≤ top) (t2 : top ≤ 1100000) (hE : E ≤ 16383) (cE : CK_ 141 #[.int .u8 f] (.int .i64 lo)) (cX : CK_ 142 #[.int .u8 f] (.int .i64 (E : Nat))) (hov : (E : Int) < top) (cO : CK_ 143 #[.int .u8 f, .int .u8 m, .bool neg] (.tuple #[BV o, .int .u8 5, .int .i64 0])) :
    Calls Tryz.prog 61 #[.int .u8 f, .int .u8 m, RV neg s e false] w fun e w' => e = .returned (.tuple #[BV o, .int .u8 5, .int .i64 0]) ∧ Below w.heap.size w w' := by
  have H := Own.start w
  have HT := Lib.hid hT
  clear hT
  have he2 : decide (e < -1048576) = false := by simp; omega
  have he3 : decide (1048576 < e) = false := by simp; omega
  have eq1 : ∀ w, (Op.equalIn 10000 60 (.agg (limbs s)) (.agg #[.int .u64 0, .int .u64 0, .int .u64 0, .int .u64 0, .int .u64 0, .int .u64 0])).run Tryz.prog w = .ok false w := fun w => (run_equal_zero w s hs).trans (by rw [hs0])
  have v1 : IntKind.i64.wrap ((l : Int) - 1) = (l : Int) - 1 := IntWalk.i64_in _ (by omega)
  have v2 : IntKind.i64.wrap ((l : Int) - 1 + e) = top := by rw [htop]; exact IntWalk.i64_in _ (by omega)
  clear hs hs0 htop
  go_enter Tryz.func61, Tryz.ntmps61
  exact walk1
theorem roundPack_zero_t (f m s p l z : Nat) (e : Int) (neg : Bool) (w : World) (hT : Tab w) (hp : p ≤ 113) (h1 : -1048576 ≤ e) (h2 : e ≤ 1048576) (hl4 : l ≤ 384) (hl : ¬ l < p + 2) (cP : CK_ 79 #[.int .u8 f] (.int .i64 (p : Nat))) (cR : ∀ w, Calls Tryz.prog 140 #[.int .u8 f, .int .u8 m] w fun e w' => e = .returned (.bool true) ∧ w = w') (cL : CK_ 80 #[W s] (.int .i64 (l : Nat))) (hs : s < top6) (hs0 : decide (s = 0) = true) (cZ : CK_ 78 #[.int .u8 f, .bool neg] (BV z)) :
    Calls Tryz.prog 61 #[.int .u8 f, .int .u8 m, RV neg s e true] w fun e w' => e = .returned (.tuple #[BV z, .int .u8 0, .int .i64 0]) ∧ Below w.heap.size w w' := by
  have H := Own.start w
  have HT := Lib.hid hT
  clear hT
  have he2 : decide (e < -1048576) = false := by simp; omega
  have he3 : decide (1048576 < e) = false := by simp; omega
  have hl2 : decide ((l : Int) < (p : Int) + 2) = false := by simp; omega
  have eq1 : ∀ w, (Op.equalIn 10000 60 (.agg (limbs s)) (.agg #[.int .u64 0, .int .u64 0, .int .u64 0, .int .u64 0, .int .u64 0, .int .u64 0])).run Tryz.prog w = .ok true w := fun w => (run_equal_zero w s hs).trans (by rw [hs0])
  clear hs hs0
  go_enter Tryz.func61, Tryz.ntmps61
  exact walk1
theorem roundPack_over_t (f m s p l E o : Nat) (e top lo : Int) (neg : Bool) (w : World) (hT : Tab w) (hp : p ≤ 113) (h1 : -1048576 ≤ e) (h2 : e ≤ 1048576) (hl4 : l ≤ 384) (hl : ¬ l < p + 2) (cP : CK_ 79 #[.int .u8 f] (.int .i64 (p : Nat))) (cR : ∀ w, Calls Tryz.prog 140 #[.int .u8 f, .int .u8 m] w fun e w' => e = .returned (.bool true) ∧ w = w') (cL : CK_ 80 #[W s] (.int .i64 (l : Nat))) (hs : s < top6) (hs0 : decide (s = 0) = false) (htop : (l : Int) - 1 + e = top) (l1 : -20000 ≤ lo) (l2 : lo ≤ 20000) (t1 : -1100000 ≤ top) (t2 : top ≤ 1100000) (hE : E ≤ 16383) (cE : CK_ 141 #[.int .u8 f] (.int .i64 lo)) (cX : CK_ 142 #[.int .u8 f] (.int .i64 (E : Nat))) (hov : (E : Int) < top) (cO : CK_ 143 #[.int .u8 f, .int .u8 m, .bool neg] (.tuple #[BV o, .int .u8 5, .int .i64 0])) :
    Calls Tryz.prog 61 #[.int .u8 f, .int .u8 m, RV neg s e true] w fun e w' => e = .returned (.tuple #[BV o, .int .u8 5, .int .i64 0]) ∧ Below w.heap.size w w' := by
  have H := Own.start w
  have HT := Lib.hid hT
  clear hT
  have he2 : decide (e < -1048576) = false := by simp; omega
  have he3 : decide (1048576 < e) = false := by simp; omega
  have hl2 : decide ((l : Int) < (p : Int) + 2) = false := by simp; omega
  have eq1 : ∀ w, (Op.equalIn 10000 60 (.agg (limbs s)) (.agg #[.int .u64 0, .int .u64 0, .int .u64 0, .int .u64 0, .int .u64 0, .int .u64 0])).run Tryz.prog w = .ok false w := fun w => (run_equal_zero w s hs).trans (by rw [hs0])
  have v1 : IntKind.i64.wrap ((l : Int) - 1) = (l : Int) - 1 := IntWalk.i64_in _ (by omega)
  have v2 : IntKind.i64.wrap ((l : Int) - 1 + e) = top := by rw [htop]; exact IntWalk.i64_in _ (by omega)
  clear hs hs0 htop
  go_enter Tryz.func61, Tryz.ntmps61
  exact walk1
open Go.RowKit
theorem app_get (p q r : Array Value) (hp : p.size = 14) (hq : q.size = 14) (hr : r.size = 14) (j : Nat) : (p ++ q ++ r)[j]? = if j < 14 then p[j]? else if j < 28 then q[j - 14]? else r[j - 28]? := by
  rw [Array.getElem?_append, Array.getElem?_append, Array.size_append, hp, hq]
  by_cases h1 : j < 14
  · rw [if_pos (by omega), if_pos h1, if_pos h1]
  · by_cases h2 : j < 28
    · rw [if_pos (by omega), if_neg h1, if_neg h1, if_pos h2]
    · rw [if_neg (by omega), if_neg h1, if_neg h2]
theorem app_size (p q r : Array Value) (hp : p.size = 14) (hq : q.size = 14) (hr : r.size = 14) : (p ++ q ++ r).size = 42 := by rw [Array.size_append, Array.size_append, hp, hq, hr]
theorem set_app0 (p q r v : Array Value) (hp : p.size = 14) (hq : q.size = 14) (hr : r.size = 14) (hv : v.size = 14) : setRow (p ++ q ++ r) 0 v.toList = v ++ q ++ r := by
  apply Array.ext_getElem?
  intro j
  rw [setRow_at _ _ _ _ (by rw [app_size p q r hp hq hr]; omega), app_get p q r hp hq hr, app_get v q r hv hq hr, hv, if_neg (by omega)]
  by_cases h1 : j < 14
  · rw [if_pos (by omega), if_pos h1]; rfl
  · rw [if_neg (by omega), if_neg h1, if_neg h1]
theorem set_app1 (p q r v : Array Value) (hp : p.size = 14) (hq : q.size = 14) (hr : r.size = 14) (hv : v.size = 14) : setRow (p ++ q ++ r) 14 v.toList = p ++ v ++ r := by
  apply Array.ext_getElem?
  intro j
  rw [setRow_at _ _ _ _ (by rw [app_size p q r hp hq hr]; omega), app_get p q r hp hq hr, app_get p v r hp hv hr, hv]
  by_cases h1 : j < 14
  · rw [if_pos (by omega), if_pos h1, if_pos h1]
  · by_cases h2 : j < 28
    · rw [if_neg (by omega), if_pos (by omega), if_neg h1, if_pos h2]
    · rw [if_neg (by omega), if_neg (by omega), if_neg h1, if_neg h2, if_neg h1, if_neg h2]
theorem set_app2 (p q r v : Array Value) (hp : p.size = 14) (hq : q.size = 14) (hr : r.size = 14) (hv : v.size = 14) : setRow (p ++ q ++ r) 28 v.toList = p ++ q ++ v := by
  apply Array.ext_getElem?
  intro j
  rw [setRow_at _ _ _ _ (by rw [app_size p q r hp hq hr]; omega), app_get p q r hp hq hr, app_get p q v hp hq hv, hv]
  by_cases h1 : j < 14
  · rw [if_pos (by omega), if_pos h1, if_pos h1]
  · by_cases h2 : j < 28
    · rw [if_pos (by omega), if_neg h1, if_pos h2, if_neg h1, if_pos h2]
    · rw [if_neg (by omega), if_neg h1, if_neg h2]
      by_cases h3 : j < 42
      · rw [if_pos (by omega), if_neg h1, if_neg h2]
      · rw [if_neg (by omega), if_neg h1, if_neg h2, Array.getElem?_eq_none (by omega), Array.getElem?_eq_none (by omega)]
def tri (c1 s1 : Nat) (x1 : Int) (f1 : Nat) (c2 s2 : Nat) (x2 : Int) (f2 : Nat) (c3 s3 : Nat) (x3 : Int) (f3 : Nat) : Array Value := #[.int .u8 c1, .int .u64 (limb s1 0), .int .u64 (limb s1 1), .int .u64 (limb s1 2), .int .u64 (limb s1 3), .int .u64 (limb s1 4), .int .u64 (limb s1 5), .int .i64 x1, .int .u64 (limb f1 0), .int .u64 (limb f1 1), .int .u64 (limb f1 2), .int .u64 (limb f1 3), .int .u64 (limb f1 4), .int .u64 (limb f1 5), .int .u8 c2, .int .u64 (limb s2 0), .int .u64 (limb s2 1), .int .u64 (limb s2 2), .int .u64 (limb s2 3), .int .u64 (limb s2 4), .int .u64 (limb s2 5), .int .i64 x2, .int .u64 (limb f2 0), .int .u64 (limb f2 1), .int .u64 (limb f2 2), .int .u64 (limb f2 3), .int .u64 (limb f2 4), .int .u64 (limb f2 5), .int .u8 c3, .int .u64 (limb s3 0), .int .u64 (limb s3 1), .int .u64 (limb s3 2), .int .u64 (limb s3 3), .int .u64 (limb s3 4), .int .u64 (limb s3 5), .int .i64 x3, .int .u64 (limb f3 0), .int .u64 (limb f3 1), .int .u64 (limb f3 2), .int .u64 (limb f3 3), .int .u64 (limb f3 4), .int .u64 (limb f3 5)]
theorem ext_tri (c1 s1 : Nat) (x1 : Int) (f1 : Nat) (c2 s2 : Nat) (x2 : Int) (f2 : Nat) (c3 s3 : Nat) (x3 : Int) (f3 : Nat) : (tri c1 s1 x1 f1 c2 s2 x2 f2 c3 s3 x3 f3).extract 0 (0 + (tri c1 s1 x1 f1 c2 s2 x2 f2 c3 s3 x3 f3).size) = tri c1 s1 x1 f1 c2 s2 x2 f2 c3 s3 x3 f3 := by rw [Nat.zero_add]; exact Array.extract_size
theorem tri_app (c1 s1 : Nat) (x1 : Int) (f1 : Nat) (c2 s2 : Nat) (x2 : Int) (f2 : Nat) (c3 s3 : Nat) (x3 : Int) (f3 : Nat) : tri c1 s1 x1 f1 c2 s2 x2 f2 c3 s3 x3 f3 = parts c1 s1 x1 f1 ++ parts c2 s2 x2 f2 ++ parts c3 s3 x3 f3 := by unfold tri parts; simp only [List.append_toArray, List.cons_append, List.nil_append]
theorem ext_t0 (c1 s1 : Nat) (x1 : Int) (f1 : Nat) (c2 s2 : Nat) (x2 : Int) (f2 : Nat) (c3 s3 : Nat) (x3 : Int) (f3 : Nat) : (tri c1 s1 x1 f1 c2 s2 x2 f2 c3 s3 x3 f3).extract 0 (0 + (parts c1 s1 x1 f1).size) = parts c1 s1 x1 f1 := by rw [tri_app]; exact app3_0 _ _ _
theorem set_t0 (c1 s1 : Nat) (x1 : Int) (f1 : Nat) (c2 s2 : Nat) (x2 : Int) (f2 : Nat) (c3 s3 : Nat) (x3 : Int) (f3 : Nat) (c s : Nat) (x : Int) (f : Nat) : setRow (tri c1 s1 x1 f1 c2 s2 x2 f2 c3 s3 x3 f3) 0 (parts c s x f).toList = tri c s x f c2 s2 x2 f2 c3 s3 x3 f3 := by rw [tri_app, set_app0 _ _ _ _ rfl rfl rfl rfl, tri_app]
theorem ext_t1 (c1 s1 : Nat) (x1 : Int) (f1 : Nat) (c2 s2 : Nat) (x2 : Int) (f2 : Nat) (c3 s3 : Nat) (x3 : Int) (f3 : Nat) : (tri c1 s1 x1 f1 c2 s2 x2 f2 c3 s3 x3 f3).extract 14 (14 + (parts c2 s2 x2 f2).size) = parts c2 s2 x2 f2 := by rw [tri_app]; exact app3_1 _ _ _ rfl
theorem set_t1 (c1 s1 : Nat) (x1 : Int) (f1 : Nat) (c2 s2 : Nat) (x2 : Int) (f2 : Nat) (c3 s3 : Nat) (x3 : Int) (f3 : Nat) (c s : Nat) (x : Int) (f : Nat) : setRow (tri c1 s1 x1 f1 c2 s2 x2 f2 c3 s3 x3 f3) 14 (parts c s x f).toList = tri c1 s1 x1 f1 c s x f c3 s3 x3 f3 := by rw [tri_app, set_app1 _ _ _ _ rfl rfl rfl rfl, tri_app]
theorem ext_t2 (c1 s1 : Nat) (x1 : Int) (f1 : Nat) (c2 s2 : Nat) (x2 : Int) (f2 : Nat) (c3 s3 : Nat) (x3 : Int) (f3 : Nat) : (tri c1 s1 x1 f1 c2 s2 x2 f2 c3 s3 x3 f3).extract 28 (28 + (parts c3 s3 x3 f3).size) = parts c3 s3 x3 f3 := by rw [tri_app]; exact app3_2 _ _ _ rfl
theorem set_t2 (c1 s1 : Nat) (x1 : Int) (f1 : Nat) (c2 s2 : Nat) (x2 : Int) (f2 : Nat) (c3 s3 : Nat) (x3 : Int) (f3 : Nat) (c s : Nat) (x : Int) (f : Nat) : setRow (tri c1 s1 x1 f1 c2 s2 x2 f2 c3 s3 x3 f3) 28 (parts c s x f).toList = tri c1 s1 x1 f1 c2 s2 x2 f2 c s x f := by rw [tri_app, set_app2 _ _ _ _ rfl rfl rfl rfl, tri_app]
theorem tri_zero : tri 0 0 0 0 0 0 0 0 0 0 0 0 = #[.int .u8 0, .int .u64 0, .int .u64 0, .int .u64 0, .int .u64 0, .int .u64 0, .int .u64 0, .int .i64 0, .int .u64 0, .int .u64 0, .int .u64 0, .int .u64 0, .int .u64 0, .int .u64 0, .int .u8 0, .int .u64 0, .int .u64 0, .int .u64 0, .int .u64 0, .int .u64 0, .int .u64 0, .int .i64 0, .int .u64 0, .int .u64 0, .int .u64 0, .int .u64 0, .int .u64 0, .int .u64 0, .int .u8 0, .int .u64 0, .int .u64 0, .int .u64 0, .int .u64 0, .int .u64 0, .int .u64 0, .int .i64 0, .int .u64 0, .int .u64 0, .int .u64 0, .int .u64 0, .int .u64 0, .int .u64 0] := by
  unfold tri; simp only [limb_zero]; rfl
theorem t3_z : (Tryz.prog.info? 101).bind (·.zero) = some (.agg (tri 0 0 0 0 0 0 0 0 0 0 0 0)) := by rw [tri_zero]; kernel_rfl
theorem rQ : IsRow Tryz.prog 101 42 (tri 0 0 0 0 0 0 0 0 0 0 0 0) := ⟨⟨_, Tryz.underlying101, rfl⟩, t3_s, t3_z⟩
theorem set_tri (a1 a2 : Nat) (a3 : Int) (a4 a5 a6 : Nat) (a7 : Int) (a8 a9 a10 : Nat) (a11 : Int) (a12 c1 s1 : Nat) (x1 : Int) (f1 : Nat) (c2 s2 : Nat) (x2 : Int) (f2 : Nat) (c3 s3 : Nat) (x3 : Int) (f3 : Nat) : setRow (tri a1 a2 a3 a4 a5 a6 a7 a8 a9 a10 a11 a12) 0 (tri c1 s1 x1 f1 c2 s2 x2 f2 c3 s3 x3 f3).toList = tri c1 s1 x1 f1 c2 s2 x2 f2 c3 s3 x3 f3 := set_all _ _ rfl
theorem set_pw (a b : Nat) (x : Int) (d c s : Nat) (y : Int) (f : Nat) : setRow (parts a b x d) 0 (parts c s y f).toList = parts c s y f := set_all _ _ rfl
def sumX (f m : Nat) (nx : Bool) (sx : Nat) (ex : Int) (ny : Bool) (sy : Nat) (ey : Int) : Nat × Nat :=
  if nx = ny then packB f m nx (sx * 2 ^ (ex - min ex ey).toNat + sy * 2 ^ (ey - min ex ey).toNat) (min ex ey) false
  else if sx * 2 ^ (ex - min ex ey).toNat = sy * 2 ^ (ey - min ex ey).toNat then (zeroN f (decide (m = 2)), 0)
  else if sy * 2 ^ (ey - min ex ey).toNat < sx * 2 ^ (ex - min ex ey).toNat then packB f m nx (sx * 2 ^ (ex - min ex ey).toNat - sy * 2 ^ (ey - min ex ey).toNat) (min ex ey) false
  else packB f m ny (sy * 2 ^ (ey - min ex ey).toNat - sx * 2 ^ (ex - min ex ey).toNat) (min ex ey) false
def addR (f m a b : Nat) : Nat × Nat :=
  if (nanB (clsN f a) || nanB (clsN f b)) = true then canonR f (clsN f a) (clsN f b)
  else if (infB (clsN f a) && infB (clsN f b) && !decide (clsN f a = clsN f b)) = true then (nanN f, 16)
  else if infB (clsN f a) = true then (a, 0)
  else if infB (clsN f b) = true then (b, 0)
  else if (zerB (clsN f a) && zerB (clsN f b)) = true then (if clsN f a = clsN f b then (a, 0) else (zeroN f (decide (m = 2)), 0))
  else if zerB (clsN f a) = true then (b, 0)
  else if zerB (clsN f b) = true then (a, 0)
  else sumX f m (belowN4 (clsN f a)) (sigN f a) (xpN f a) (belowN4 (clsN f b)) (sigN f b) (xpN f b)
theorem add_zero (f m a : Nat) (hf : f < 4) (hc : Fin0 f a ∨ clsN f a = 3 ∨ clsN f a = 4) : addR f m a (zeroN f (negN f a)) = (a, 0) := by
  obtain ⟨z1, z2⟩ := zero_parts f (negN f a) hf
  have hz : clsN f (zeroN f (negN f a)) = 3 ∨ clsN f (zeroN f (negN f a)) = 4 := by rw [z2]; cases negN f a <;> simp
  obtain ⟨b1, b2, b3⟩ := zer_flags f _ hz
  unfold addR
  rw [b1, b2, b3]
  rcases hc with hc | hc
  · obtain ⟨a1, a2, a3⟩ := fin_flags f a hc
    rw [a1, a2, a3]; simp
  · obtain ⟨a1, a2, a3⟩ := zer_flags f a hc
    have he : clsN f a = clsN f (zeroN f (negN f a)) := by
      rw [z2, ← below_neg f a (by omega)]; unfold belowN4; rcases hc with h | h <;> rw [h] <;> rfl
    rw [a1, a2, a3, if_pos he]; simp
theorem lt_113_6 (x n : Nat) (hn : n ≤ 384) (h : x < 2 ^ n) : x < top6 := lt_pwr top6 n (64 * 6) _ top6.eq_1 hn h
open Go.RowKit Go.Proofs.YtgmhmpflmgfcdaaGreatDoorW.PrintWords Go.Proofs.YtgmhmpflmgfcdaaGreatDoor.PDivQuotients
theorem r1count0 (w : World) :
    Calls Tryz.prog 137 #[.int .i64 0] w fun e w' => e = .returned (.int .i64 0) ∧ Below w.heap.size w w' := by
  have H := Own.start w
  go_enter Tryz.func137, Tryz.ntmps137
  exact walk1
theorem r1Right0 (x : Nat) (w0 : World) :
    Calls Tryz.prog 153 #[.int .u64 x, .int .i64 0] w0 fun e w' => e = .returned (.int .u64 x) ∧ Below w0.heap.size w0 w' := by
  have H := Own.start w0
  go_enter Tryz.func153, Tryz.ntmps153
  go_wp2_with (first
    | ((with_reducible show wpList _ _ _ (⟨_, .box _ _, _, _, _, _⟩ :: _) _ _); refine H.xb ?_; (intro g w H; simp only [Act.put, q1_, q2_, q3_]))
    | ((with_reducible show wpList _ _ _ (⟨_, .alloc _, _, _, _, _⟩ :: _) _ _); refine H.xa ?_; (intro g w H; simp only [Act.put, q1_, q2_, q3_]))
    | ((with_reducible show wpList _ _ _ (⟨_, .load _ _, _, _, _, _⟩ :: _) _ _); (first | refine H.xl ?_ | refine H.xm ?_); simp only [Act.put, q1_, q2_, q3_])
    | ((with_reducible show wpList _ _ _ (⟨_, .store _ _ _, _, _, _, _⟩ :: _) _ _); (first | refine H.xs ?_ | refine H.xt ?_); (intro w H; simp only [Act.put]))
    | (go_at_call 137; ((with_reducible refine (r1count0 _).mono ?_); rintro e w ⟨rfl, hb⟩; replace H := H.call hb; clear hb))
    )
  go_loopw [0, 5] (fun xv iv wr => iv = .int .i64 0 ∧ xv = .int .u64 (x : Int) ∧ Own w0 wr []) (fun _ i _ => (intOf i).toNat)
  case atStart => exact ⟨rfl, rfl, H⟩
  case round =>
    clear H
    obtain ⟨rfl, rfl, H⟩ := hrel
    go_wp2_with (first
    | ((with_reducible show wpList _ _ _ (⟨_, .box _ _, _, _, _, _⟩ :: _) _ _); refine H.xb ?_; (intro g w H; simp only [Act.put, q1_, q2_, q3_]))
    | ((with_reducible show wpList _ _ _ (⟨_, .alloc _, _, _, _, _⟩ :: _) _ _); refine H.xa ?_; (intro g w H; simp only [Act.put, q1_, q2_, q3_]))
    | ((with_reducible show wpList _ _ _ (⟨_, .load _ _, _, _, _, _⟩ :: _) _ _); (first | refine H.xl ?_ | refine H.xm ?_); simp only [Act.put, q1_, q2_, q3_])
    | ((with_reducible show wpList _ _ _ (⟨_, .store _ _ _, _, _, _, _⟩ :: _) _ _); (first | refine H.xs ?_ | refine H.xt ?_); (intro w H; simp only [Act.put]))
    | (go_at_call 137; ((with_reducible refine (r1count0 _).mono ?_); rintro e w ⟨rfl, hb⟩; replace H := H.call hb; clear hb))
    )
    all_goals
      go_ret
      exact ⟨rfl, H.below⟩
theorem r1Field_w (x : Nat) (w : World)  :
    Calls Tryz.prog 70 #[.int .u64 x, .int .i64 0, .int .i64 32] w fun e w' => e = .returned (.int .u64 (Go.bits .and .u64 x 4294967295)) ∧ Below w.heap.size w w' := by
  have H := Own.start w
  go_enter Tryz.func70, Tryz.ntmps70
  exact walk2
theorem r6May_z (w : World) (cM : CK_ 135 #[.string ⟨#[]⟩] (.bool true)) (cm : CK_ 135 #[.string ⟨#[1]⟩] (.bool true)) (cO : CK_ 225 #[.string ⟨#[1]⟩] (.bool true))  :
    Calls Tryz.prog 207 #[.agg (exC false ⟨#[]⟩ ⟨#[1]⟩ 0)] w fun e w' => e = .returned (.bool true) ∧ Below w.heap.size w w' := by
  have H := Own.start w
  go_enter Tryz.func207, Tryz.ntmps207
  exact walk2
theorem r20Num0t (x v : Nat) (w : World) (cX : CK_ 60 #[.int .u64 x, .int .i64 32] (.int .u64 (v : Nat))) (q : (((v : Nat) : Int) / 9223372036854775808 == 1) = true)  :
    Calls Tryz.prog 19 #[.int .u8 0, .int .u64 x] w fun e w' => e = .returned (.tuple #[.bool true, .int .u64 (IntKind.u64.wrap (-((v : Nat) : Int)))]) ∧ Below w.heap.size w w' := by
  have H := Own.start w
  go_enter Tryz.func19, Tryz.ntmps19
  exact walk2
theorem r20Num2t (x : Nat) (w : World) (q : (((x : Nat) : Int) / 9223372036854775808 == 1) = true)  :
    Calls Tryz.prog 19 #[.int .u8 2, .int .u64 x] w fun e w' => e = .returned (.tuple #[.bool true, .int .u64 (IntKind.u64.wrap (-((x : Nat) : Int)))]) ∧ Below w.heap.size w w' := by
  have H := Own.start w
  go_enter Tryz.func19, Tryz.ntmps19
  exact walk2
theorem r20Num0f (x v : Nat) (w : World) (cX : CK_ 60 #[.int .u64 x, .int .i64 32] (.int .u64 (v : Nat))) (q : (((v : Nat) : Int) / 9223372036854775808 == 1) = false)  :
    Calls Tryz.prog 19 #[.int .u8 0, .int .u64 x] w fun e w' => e = .returned (.tuple #[.bool false, .int .u64 (v : Nat)]) ∧ Below w.heap.size w w' := by
  have H := Own.start w
  go_enter Tryz.func19, Tryz.ntmps19
  exact walk2
theorem r20Num2f (x : Nat) (w : World) (q : (((x : Nat) : Int) / 9223372036854775808 == 1) = false)  :
    Calls Tryz.prog 19 #[.int .u8 2, .int .u64 x] w fun e w' => e = .returned (.tuple #[.bool false, .int .u64 (x : Nat)]) ∧ Below w.heap.size w w' := by
  have H := Own.start w
  go_enter Tryz.func19, Tryz.ntmps19
  exact walk2
theorem r20Num1 (x : Nat) (w : World)  :
    Calls Tryz.prog 19 #[.int .u8 1, .int .u64 x] w fun e w' => e = .returned (.tuple #[.bool false, .int .u64 (Go.bits .and .u64 x 4294967295)]) ∧ Below w.heap.size w w' := by
  have H := Own.start w
  go_enter Tryz.func19, Tryz.ntmps19
  exact walk2
theorem r20Num3 (x : Nat) (w : World)  :
    Calls Tryz.prog 19 #[.int .u8 3, .int .u64 x] w fun e w' => e = .returned (.tuple #[.bool false, .int .u64 x]) ∧ Below w.heap.size w w' := by
  have H := Own.start w
  go_enter Tryz.func19, Tryz.ntmps19
  exact walk2
theorem r20Conv_r (f k m x n z : Nat) (fl er : Int) (ng n1 : Bool) (s s1 d1 : ByteArray) (e1 : Int) (w : World) (cG : CK_ 62 #[.int .u8 f] (.bool false))  :
    Calls Tryz.prog 16 #[.int .u8 f, .int .u8 k, .int .u8 m, .int .u64 x] w fun e w' => e = .returned (.tuple #[BV 0, .int .u8 0, .int .i64 2]) ∧ Below w.heap.size w w' := by
  have H := Own.start w
  go_enter Tryz.func16, Tryz.ntmps16
  exact walk2
theorem r20Conv_k (f k m x n z : Nat) (fl er : Int) (ng n1 : Bool) (s s1 d1 : ByteArray) (e1 : Int) (w : World) (hk : 3 < (k : Int)) (cG : CK_ 62 #[.int .u8 f] (.bool true))  :
    Calls Tryz.prog 16 #[.int .u8 f, .int .u8 k, .int .u8 m, .int .u64 x] w fun e w' => e = .returned (.tuple #[BV 0, .int .u8 0, .int .i64 2]) ∧ Below w.heap.size w w' := by
  have H := Own.start w
  go_enter Tryz.func16, Tryz.ntmps16
  exact walk2
theorem r20Conv_m (f k m x n z : Nat) (fl er : Int) (ng n1 : Bool) (s s1 d1 : ByteArray) (e1 : Int) (w : World) (hk : (k : Int) ≤ 3) (hk2 : decide (3 < (k : Int)) = false) (cG : CK_ 62 #[.int .u8 f] (.bool true)) (cM : CK_ 49 #[.int .u8 m] (.bool false))  :
    Calls Tryz.prog 16 #[.int .u8 f, .int .u8 k, .int .u8 m, .int .u64 x] w fun e w' => e = .returned (.tuple #[BV 0, .int .u8 0, .int .i64 2]) ∧ Below w.heap.size w w' := by
  have H := Own.start w
  go_enter Tryz.func16, Tryz.ntmps16
  exact walk2
theorem r20Conv_F (f k m x n z : Nat) (fl er : Int) (ng n1 : Bool) (s s1 d1 : ByteArray) (e1 : Int) (w : World) (hk : (k : Int) ≤ 3) (hk2 : decide (3 < (k : Int)) = false) (cG : CK_ 62 #[.int .u8 f] (.bool true)) (cM : CK_ 49 #[.int .u8 m] (.bool true)) (cN : CK_ 19 #[.int .u8 k, .int .u64 x] (.tuple #[.bool ng, .int .u64 (n : Nat)])) (cO : CK_ 58 #[.int .u64 (n : Nat)] (.string s)) (cK : CK_ 63 #[.bool ng, .string s, .string ⟨#[1]⟩, .int .i64 0] (.tuple #[.agg (exC n1 s1 d1 e1), .int .i64 0])) (cR : CK_ 64 #[.int .u8 f, .int .u8 m, .agg (exC n1 s1 d1 e1)] (.tuple #[BV z, .int .u8 fl, .int .i64 er])) :
    Calls Tryz.prog 16 #[.int .u8 f, .int .u8 k, .int .u8 m, .int .u64 x] w fun e w' => e = .returned (.tuple #[BV z, .int .u8 fl, .int .i64 er]) ∧ Below w.heap.size w w' := by
  have H := Own.start w
  go_enter Tryz.func16, Tryz.ntmps16
  exact walk2
open Go.RowKit Go.Proofs.YtgmhmpflmgfcdaaGreatDoorW.PrintWords Go.Proofs.YtgmhmpflmgfcdaaGreatDoor.PDivQuotients
theorem r5Of_any (x : Nat) (w : World) (hx : x < 18446744073709551616) : Calls Tryz.prog 58 #[.int .u64 (x : Nat)] w fun e w' => e = .returned (.string (strB x)) ∧ Below w.heap.size w w' :=
  (abacusref05_Of.calls 28 (x : Int) (strB x) w (of_strB x 28 hx (Nat.le_refl _)))
theorem nb_small (n : Nat) (h : n < 18446744073709551616) : nb n ≤ 48 := by
  have h1 : lenN n ≤ 64 := (lenN_le n 64).2 h
  unfold nb; omega
open Go.RowKit Go.Proofs.YtgmhmpflmgfcdaaGreatDoorW.PrintWords Go.Proofs.YtgmhmpflmgfcdaaGreatDoor.PDivQuotients
theorem ret_num {b b' : Bool} {x x' : Int} {e : Ending} {P : Prop} (h1 : b = b') (h2 : x = x') (k : e = .returned (.tuple #[.bool b, .int .u64 x]) ∧ P) : e = .returned (.tuple #[.bool b', .int .u64 x']) ∧ P := by subst h1 h2; exact k
theorem top_bit (v : Nat) (hv : v < 18446744073709551616) : (((v : Nat) : Int) / 9223372036854775808 == 1) = decide (9223372036854775808 ≤ v) := by
  by_cases h : 9223372036854775808 ≤ v
  · rw [decide_eq_true h, beq_iff_eq]; omega
  · rw [decide_eq_false h]
    have : ((v : Nat) : Int) / 9223372036854775808 = 0 := by omega
    rw [this]; rfl
theorem wrap_minus (v : Nat) (h1 : 9223372036854775808 ≤ v) (h2 : v < 18446744073709551616) : IntKind.u64.wrap (-((v : Nat) : Int)) = ((18446744073709551616 - v : Nat) : Int) := by
  show (-(v : Int)) % 18446744073709551616 = _
  omega
theorem r20Number_any (k x : Nat) (w : World) (hk : k < 4) (hx : x < 18446744073709551616) :
    Calls Tryz.prog 19 #[.int .u8 k, .int .u64 x] w fun e w' => e = .returned (.tuple #[.bool (numNeg k x), .int .u64 (numMag k x : Nat)]) ∧ Below w.heap.size w w' := by
  have hm := Nat.mod_lt x (show 0 < 4294967296 by decide)
  obtain rfl | rfl | rfl | rfl : k = 0 ∨ k = 1 ∨ k = 2 ∨ k = 3 := by omega
  · have cX := fun w => r1Extend32_any x w hx
    by_cases h : 2147483648 ≤ x % 4294967296
    · have hs := sext32_hi x (by omega)
      have hq := top_bit (sext32 x) (by omega)
      rw [decide_eq_true (by omega)] at hq
      have hw := wrap_minus (sext32 x) (by omega) (by omega)
      refine (r20Num0t x (sext32 x) w cX hq).mono fun e w' k => ret_num ?_ ?_ k
      · unfold numNeg; rw [if_pos rfl, decide_eq_true h]
      · rw [hw]; unfold numMag; rw [if_pos rfl, if_pos h]; omega
    · have hs := sext32_lo x (by omega)
      have hq := top_bit (sext32 x) (by omega)
      rw [decide_eq_false (by omega)] at hq
      refine (r20Num0f x (sext32 x) w cX hq).mono fun e w' k => ret_num ?_ ?_ k
      · unfold numNeg; rw [if_pos rfl, decide_eq_false h]
      · unfold numMag; rw [if_pos rfl, if_neg h]; omega
  · refine (r20Num1 x w).mono fun e w' k => ret_num ?_ ?_ k
    · rfl
    · rw [and32 x hx]; rfl
  · have hq := top_bit x hx
    by_cases h : 9223372036854775808 ≤ x
    · rw [decide_eq_true h] at hq
      have hw := wrap_minus x h hx
      refine (r20Num2t x w hq).mono fun e w' k => ret_num ?_ ?_ k
      · show true = decide (9223372036854775808 ≤ x); rw [decide_eq_true h]
      · rw [hw]; show _ = (((if 9223372036854775808 ≤ x then 18446744073709551616 - x else x : Nat)) : Int); rw [if_pos h]
    · rw [decide_eq_false h] at hq
      refine (r20Num2f x w hq).mono fun e w' k => ret_num ?_ ?_ k
      · show false = decide (9223372036854775808 ≤ x); rw [decide_eq_false h]
      · show _ = (((if 9223372036854775808 ≤ x then 18446744073709551616 - x else x : Nat)) : Int); rw [if_neg h]
  · exact r20Num3 x w
theorem num_zero (k x : Nat) (hk : k < 4) (hx : x < 18446744073709551616) (h : numMag k x = 0) : numNeg k x = false := by
  obtain rfl | rfl | rfl | rfl : k = 0 ∨ k = 1 ∨ k = 2 ∨ k = 3 := by omega
  · have h' : (if 2147483648 ≤ x % 4294967296 then 4294967296 - x % 4294967296 else x % 4294967296) = 0 := h
    show decide (2147483648 ≤ x % 4294967296) = false
    rw [decide_eq_false_iff_not]
    intro hc; rw [if_pos hc] at h'; omega
  · rfl
  · have h' : (if 9223372036854775808 ≤ x then 18446744073709551616 - x else x) = 0 := h
    show decide (9223372036854775808 ≤ x) = false
    rw [decide_eq_false_iff_not]
    intro hc; rw [if_pos hc] at h'; omega
  · rfl
theorem r9Null_any (f m : Nat) (w : World) (hf : f < 4) (hm : m < 5) :
    Calls Tryz.prog 64 #[.int .u8 f, .int .u8 m, .agg (exC false ⟨#[]⟩ ⟨#[1]⟩ 0)] w fun e' w' => e' = .returned (.tuple #[BV 0, .int .u8 0, .int .i64 0]) ∧ Below w.heap.size w w' := by
  have cR := fun w => r7Right_any f w
  have cM := fun w => r7RightMode_any m w
  rw [decide_eq_true hf] at cR
  rw [decide_eq_true hm] at cM
  have m0 := fun w => r5May_any 0 w (by decide)
  have m1 := fun w => r5May_any 1 w (by decide)
  have o1 := fun w => r6odd_any 1 w (by decide)
  rw [strB_zero] at m0
  rw [strB_one] at m1 o1
  have cY := fun w => r6May_z w m0 m1 o1
  have cF := fun w => r9Fault_w f m false ⟨#[]⟩ ⟨#[1]⟩ 0 w (by decide) (by decide) cR cM cY
  obtain ⟨z1, z2⟩ := strE_none 0 rfl
  rw [strB_zero] at z1 z2
  exact r9Round_z f m 0 0 ⟨#[]⟩ ⟨#[1]⟩ 0 false w cF z1 z2
theorem r20Convert_any (f k m x : Nat) (w : World) (hx : x < 18446744073709551616) :
    Calls Tryz.prog 16 #[.int .u8 f, .int .u8 k, .int .u8 m, .int .u64 x] w fun e w' => e = .returned (.tuple #[BV (fromN f k m x).1, .int .u8 ((fromN f k m x).2.1 : Nat), .int .i64 (fromN f k m x).2.2]) ∧ Below w.heap.size w w' := by
  have cG := fun w => r7Right_any f w
  have cM := fun w => r7RightMode_any m w
  have hno : ¬ (f < 4 ∧ k < 4 ∧ m < 5) → fromN f k m x = (0, 0, 2) := by
    intro h
    unfold fromN
    by_cases hk : k < 4
    · rw [if_pos hk]; unfold packN
      rw [if_neg]
      intro hc
      unfold packOk at hc
      simp only [Bool.and_eq_true, decide_eq_true_eq] at hc
      omega
    · rw [if_neg hk]
  by_cases hf : f < 4
  case neg =>
    rw [decide_eq_false hf] at cG
    rw [hno (by omega)]
    exact r20Conv_r f k m x 0 0 0 0 false false ⟨#[]⟩ ⟨#[]⟩ ⟨#[]⟩ 0 w cG
  rw [decide_eq_true hf] at cG
  by_cases hk : k < 4
  case neg =>
    rw [hno (by omega)]
    exact r20Conv_k f k m x 0 0 0 0 false false ⟨#[]⟩ ⟨#[]⟩ ⟨#[]⟩ 0 w (by omega) cG
  have hk3 : (k : Int) ≤ 3 := by omega
  have hk2 : decide (3 < (k : Int)) = false := decide_eq_false (by omega)
  by_cases hm : m < 5
  case neg =>
    rw [decide_eq_false hm] at cM
    rw [hno (by omega)]
    exact r20Conv_m f k m x 0 0 0 0 false false ⟨#[]⟩ ⟨#[]⟩ ⟨#[]⟩ 0 w hk3 hk2 cG cM
  rw [decide_eq_true hm] at cM
  have cN := fun w => r20Number_any k x w hk hx
  have hn := num_lt k x hx
  have hz := num_zero k x hk hx
  have cO := fun w => r5Of_any (numMag k x) w hn
  have hF : fromN f k m x = packN f m (numNeg k x) (numMag k x) 0 false := by unfold fromN; rw [if_pos hk]
  rw [hF]
  generalize numMag k x = n at *
  generalize numNeg k x = g at *
  have hok : packOk f m n 0 false = true := by unfold packOk; rw [decide_eq_true hf, decide_eq_true hm]; rfl
  unfold packN
  rw [if_pos hok]
  have hnb := nb_small n hn
  have cK := fun w => r6Make_any g n 1 0 w (by omega) (by decide) (by decide) (by decide) (by decide)
  rw [strB_one] at cK
  by_cases h0 : n = 0
  · rw [if_pos h0, hz h0]
    have e1 : exV (negX' g n) (numX n 1) (denX n 1) (expX n 1 0) = .agg (exC false ⟨#[]⟩ ⟨#[1]⟩ 0) := by
      show Value.agg (exC _ (strB _) (strB _) _) = _
      unfold negX' numX denX expX
      rw [if_pos h0, if_pos h0, if_pos h0, if_pos h0, strB_one, strB_zero]
    rw [e1] at cK
    rw [show zeroN f false = 0 by unfold zeroN; cases decide (f < 4) <;> rfl]
    exact r20Conv_F f k m x n 0 0 0 g false (strB n) ⟨#[]⟩ ⟨#[1]⟩ 0 w hk3 hk2 cG cM cN cO cK (fun w => r9Null_any f m w hf hm)
  · rw [if_neg h0]
    obtain ⟨n1, n2, n3⟩ := numX_one n h0 0
    have hl : lenN n ≤ 64 := (lenN_le n 64).2 hn
    have hO := oneF n 1 0 h0 (by decide) (by omega) (by decide) (by decide) (by decide)
    have hN : negX' g n = g := by unfold negX'; rw [if_neg h0]
    rw [hN] at cK
    have cR := fun w => r9Round_any f m g _ _ _ w hf hm hO
    have hr : rndX f m g (numX n 1) (denX n 1) (expX n 1 0) = packB f m g n 0 false := by
      rw [n1, n2, n3, rnd_odd f m g n 0 h0, rnd_whole f m g n 0 hf h0]
    rw [hr] at cR
    exact r20Conv_F f k m x n _ _ _ g g (strB n) _ _ _ w hk3 hk2 cG cM cN cO cK cR
end Go.Proofs.YtgmhmpflmgfcdaaGreatDoor
