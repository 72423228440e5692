/- Part 37 of the proof. -/
import Derived.Outline
import Derived.Laws.AppendOwnNone
import Derived.Test.YtgmhmpflmgfcdaaGreatDoorHq4
import Derived.Test.YtgmhmpflmgfcdaaGreatDoorHq5
import Derived.Test.YtgmhmpflmgfcdaaGreatDoorHq6
import Derived.Test.YtgmhmpflmgfcdaaGreatDoorHq7
import Derived.Test.YtgmhmpflmgfcdaaGreatDoorHq8
import Derived.Test.YtgmhmpflmgfcdaaGreatDoorHq9
import Derived.Test.YtgmhmpflmgfcdaaGreatDoorHq32
import Derived.Test.YtgmhmpflmgfcdaaGreatDoorHq33
import Derived.Test.YtgmhmpflmgfcdaaGreatDoorHq36
set_option linter.unusedSimpArgs false
set_option linter.unusedVariables false
set_option linter.unnecessarySimpa false
set_option maxRecDepth 100000
set_option maxHeartbeats 3200000
namespace Go.Proofs.YtgmhmpflmgfcdaaGreatDoor
open Go.RowKit Go.Proofs.YtgmhmpflmgfcdaaGreatDoorW.PrintWords Go.Proofs.YtgmhmpflmgfcdaaGreatDoor.PDivQuotients
def flA (r : Nat × Nat) : Value := .tuple #[BV r.1, .int .u8 r.2]
theorem src_topQ (root : Bool) (n d : Nat) (e : Int) (hd : 0 < d) (hn : n ≠ 0) : Top (srcX root n d e hd) (topR root (topX n d + e)) := by
 cases root
 ·exact rat_top n d e hn hd
 ·exact root_top _ _ (rat_top n d e hn hd)
theorem numX_zero (g : Nat) (h : g = 0) : numX g 1 = 0 := by unfold numX; rw [if_pos h]
theorem lenN_div_le (g k : Nat) : lenN (g / k) ≤ lenN g := len_monoQ _ _ (Nat.div_le_self g k)
theorem r9deliver_any (f m : Nat) (neg root : Bool) (n d : Nat) (e : Int) (w : World) (hf : f < 4) (hm : m < 5) (h0 : n ≠ 0) (hn : lenN n ≤ 100000) (hd : lenN d ≤ 20000) (hd0 : 0 < d) (he : -200000 ≤ e) (he2 : e ≤ 200000) (hrt : root = false := by first | assumption | rfl) :
  CR_ 152 #[.int .u8 f, .int .u8 m, exV neg n d e, .bool root] w (flA (deliverR (srcX root n d e hd0) f m neg (topR root (topX n d + e)))) := by
 have hnb : nb n ≤ 16384 := by unfold nb; omega
 have hdb : nb d ≤ 16384 := by unfold nb; omega
 obtain ⟨p1, p2, -, -, -, -⟩ := formB f hf
 obtain ⟨-, -, -, k4, k5, k6, -, -⟩ := formK f hf
 have cT := fun w => r9top_any neg root n d e w h0 hnb hdb (by omega) (by omega)
 have cM := fun w => r7Emin_any f w
 have cP := fun w => r7Precision_any f w
 have cX := fun w => r7Emax_any f w
 have cO := fun w => r9Over_any f m neg w hf hm
 have cY := fun w => r9tiny_any f m neg root n d e w hf hm h0 hn hd hd0 he he2
 have ht := topX_bound n d
 have hTop := src_topQ root n d e hd0 h0
 obtain ⟨T, hT⟩ : ∃ T, topR root (topX n d + e) = T := ⟨_, rfl⟩
 rw [hT] at hTop ⊢
 simp only [hT] at cT cY
 have hTb : -2000000 ≤ T ∧ T ≤ 2000000 := by rw [← hT]; unfold topR; split <;> omega
 have gb := grid_bounds (srcX root n d e hd0) f m neg T hf hTop
 unfold deliverR
 by_cases h1 : (eF f : Int) < T
 ·rw [if_pos h1]
  exact r9Dl_x _ f m (pF f) (eF f) neg root _ _ e T (eminI f) w p2 hTb.1 hTb.2 (by omega) (by omega) cT cP cX (decide_eq_true h1) cO
 rw [if_neg h1]
 by_cases h2 : T < eminI f
 ·have ha : atN f T = (eminI f - (pF f : Int) + 1) := by unfold atN; omega
  rw [ha] at gb ⊢
  have g1 : root = false → e - (eminI f - (pF f : Int) + 1) ≤ 29990 := by
   rintro rfl
   have hT' : topX n d + e = T := hT
   omega
  have g2 : root = true → e - 2 * (eminI f - (pF f : Int) + 1) ≤ 29990 := by
   rintro rfl
   have hT' : (topX n d + e) / 2 = T := hT
   omega
  have hS := src_nb root n d e (eminI f - (pF f : Int) + 1) hd0 hn g1 g2
  have cF := fun w => r9find_any neg root n d e (eminI f - (pF f : Int) + 1) w hnb hdb hd0 (by omega) (by omega) (by omega) (by omega) hn g1 g2
  have cK := fun w => r9taken_any (srcX root n d e hd0) m neg (eminI f - (pF f : Int) + 1) w hm hS
  have hx : (gridR (srcX root n d e hd0) m neg (eminI f - (pF f : Int) + 1)).2 = (srcX root n d e hd0).ex (eminI f - (pF f : Int) + 1) := rfl
  rw [hx]
  obtain ⟨g, hg⟩ : ∃ g, (gridR (srcX root n d e hd0) m neg (eminI f - (pF f : Int) + 1)).1 = g := ⟨_, rfl⟩
  rw [hg] at gb ⊢
  simp only [hg] at cK
  have hgl : lenN g ≤ 114 := (lenN_le g 114).2 (Nat.lt_of_le_of_lt gb.1 (Nat.pow_lt_pow_right (by decide) (by omega)))
  have hgb : nb g ≤ 16384 := by unfold nb; omega
  have cA := fun w => r6Make_any neg g 1 (eminI f - (pF f : Int) + 1) w hgb (by decide) (by decide) (by omega) (by omega)
  rw [strB_one] at cA
  by_cases h3 : g = 0
  ·obtain ⟨s1, s2⟩ := str_noneO (numX g 1) (numX_zero g h3)
   rw [if_pos h3]
   exact r9Dl_nt 0 _ 0 _ _ _ _ _ _ _ _ _ _ f m (pF f) (eF f) neg root _ _ e T (eminI f) w p2 hTb.1 hTb.2 (by omega) (by omega) cT cP cX (decide_eq_false h1) cM (decide_eq_true h2) cF cK cA s1 s2 (fun w => r7Zero_any f neg w hf)
  obtain ⟨x1, x2, x3⟩ := numX_one g h3 (eminI f - (pF f : Int) + 1)
  obtain ⟨-, -, l3⟩ := low_split g h3
  have x4 : negX' neg g = neg := by unfold negX'; rw [if_neg h3]
  rw [x1, x2, x3, x4] at cA
  obtain ⟨s1, s2⟩ := str_fullO (g / 2 ^ lowZ g) l3
  have hlz := lowZ_lt g h3
  have cB := fun w => r8Of_any f neg (g / 2 ^ lowZ g) ((eminI f - (pF f : Int) + 1) + lowZ g) w hf l3 (Nat.le_trans (lenN_div_le g _) (by omega)) (by omega) (by omega)
  have ho := ofR_enc f neg g (eminI f - (pF f : Int) + 1) hf h3 gb.1 gb.2.2 (by rcases gb.2.1 with h | h; exact Or.inl h; exact Or.inr h)
  rw [ho] at cB
  rw [if_neg h3]
  by_cases h4 : (eF f : Int) < lenN g - 1 + (eminI f - (pF f : Int) + 1)
  ·rw [if_pos h4] at cB ⊢
   exact r9Dl_ot _ 0 _ _ _ _ _ _ _ _ _ _ _ f m (pF f) (eF f) neg root _ _ e T (eminI f) w p2 hTb.1 hTb.2 (by omega) (by omega) cT cP cX (decide_eq_false h1) cM (decide_eq_true h2) cF cK cA s1 s2 cB cO
  rw [if_neg h4] at cB ⊢
  cases hE : (srcX root n d e hd0).ex (eminI f - (pF f : Int) + 1)
  ·rw [hE] at cF cK
   rw [if_neg (by decide)]
   cases hY : tinyR (srcX root n d e hd0) f m neg T
   ·rw [hY] at cY
    exact r9Dl_it 0 0 _ _ _ _ _ _ _ _ _ _ f m (pF f) (eF f) neg root _ _ e T (eminI f) w p2 hTb.1 hTb.2 (by omega) (by omega) cT cP cX (decide_eq_false h1) cM (decide_eq_true h2) cF cK cA s1 s2 cB cY
   ·rw [hY] at cY
    exact r9Dl_ut 0 0 _ _ _ _ _ _ _ _ _ _ f m (pF f) (eF f) neg root _ _ e T (eminI f) w p2 hTb.1 hTb.2 (by omega) (by omega) cT cP cX (decide_eq_false h1) cM (decide_eq_true h2) cF cK cA s1 s2 cB cY
  ·rw [hE] at cF cK
   rw [if_pos rfl]
   exact r9Dl_et 0 0 _ _ _ _ _ _ _ _ _ _ f m (pF f) (eF f) neg root _ _ e T (eminI f) w p2 hTb.1 hTb.2 (by omega) (by omega) cT cP cX (decide_eq_false h1) cM (decide_eq_true h2) cF cK cA s1 s2 cB
 ·have ha : atN f T = (T - (pF f : Int) + 1) := by unfold atN; omega
  rw [ha] at gb ⊢
  have g1 : root = false → e - (T - (pF f : Int) + 1) ≤ 29990 := by
   rintro rfl
   have hT' : topX n d + e = T := hT
   omega
  have g2 : root = true → e - 2 * (T - (pF f : Int) + 1) ≤ 29990 := by
   rintro rfl
   have hT' : (topX n d + e) / 2 = T := hT
   omega
  have hS := src_nb root n d e (T - (pF f : Int) + 1) hd0 hn g1 g2
  have cF := fun w => r9find_any neg root n d e (T - (pF f : Int) + 1) w hnb hdb hd0 (by omega) (by omega) (by omega) (by omega) hn g1 g2
  have cK := fun w => r9taken_any (srcX root n d e hd0) m neg (T - (pF f : Int) + 1) w hm hS
  have hx : (gridR (srcX root n d e hd0) m neg (T - (pF f : Int) + 1)).2 = (srcX root n d e hd0).ex (T - (pF f : Int) + 1) := rfl
  rw [hx]
  obtain ⟨g, hg⟩ : ∃ g, (gridR (srcX root n d e hd0) m neg (T - (pF f : Int) + 1)).1 = g := ⟨_, rfl⟩
  rw [hg] at gb ⊢
  simp only [hg] at cK
  have hgl : lenN g ≤ 114 := (lenN_le g 114).2 (Nat.lt_of_le_of_lt gb.1 (Nat.pow_lt_pow_right (by decide) (by omega)))
  have hgb : nb g ≤ 16384 := by unfold nb; omega
  have cA := fun w => r6Make_any neg g 1 (T - (pF f : Int) + 1) w hgb (by decide) (by decide) (by omega) (by omega)
  rw [strB_one] at cA
  by_cases h3 : g = 0
  ·obtain ⟨s1, s2⟩ := str_noneO (numX g 1) (numX_zero g h3)
   rw [if_pos h3]
   exact r9Dl_nf 0 _ 0 _ _ _ _ _ _ _ _ _ _ f m (pF f) (eF f) neg root _ _ e T (eminI f) w p2 hTb.1 hTb.2 (by omega) (by omega) cT cP cX (decide_eq_false h1) cM (decide_eq_false h2) cF cK cA s1 s2 (fun w => r7Zero_any f neg w hf)
  obtain ⟨x1, x2, x3⟩ := numX_one g h3 (T - (pF f : Int) + 1)
  obtain ⟨-, -, l3⟩ := low_split g h3
  have x4 : negX' neg g = neg := by unfold negX'; rw [if_neg h3]
  rw [x1, x2, x3, x4] at cA
  obtain ⟨s1, s2⟩ := str_fullO (g / 2 ^ lowZ g) l3
  have hlz := lowZ_lt g h3
  have cB := fun w => r8Of_any f neg (g / 2 ^ lowZ g) ((T - (pF f : Int) + 1) + lowZ g) w hf l3 (Nat.le_trans (lenN_div_le g _) (by omega)) (by omega) (by omega)
  have ho := ofR_enc f neg g (T - (pF f : Int) + 1) hf h3 gb.1 gb.2.2 (by rcases gb.2.1 with h | h; exact Or.inl h; exact Or.inr h)
  rw [ho] at cB
  rw [if_neg h3]
  by_cases h4 : (eF f : Int) < lenN g - 1 + (T - (pF f : Int) + 1)
  ·rw [if_pos h4] at cB ⊢
   exact r9Dl_of _ 0 _ _ _ _ _ _ _ _ _ _ _ f m (pF f) (eF f) neg root _ _ e T (eminI f) w p2 hTb.1 hTb.2 (by omega) (by omega) cT cP cX (decide_eq_false h1) cM (decide_eq_false h2) cF cK cA s1 s2 cB cO
  rw [if_neg h4] at cB ⊢
  cases hE : (srcX root n d e hd0).ex (T - (pF f : Int) + 1)
  ·rw [hE] at cF cK
   rw [if_neg (by decide)]
   cases hY : tinyR (srcX root n d e hd0) f m neg T
   ·rw [hY] at cY
    exact r9Dl_if 0 0 _ _ _ _ _ _ _ _ _ _ f m (pF f) (eF f) neg root _ _ e T (eminI f) w p2 hTb.1 hTb.2 (by omega) (by omega) cT cP cX (decide_eq_false h1) cM (decide_eq_false h2) cF cK cA s1 s2 cB cY
   ·rw [hY] at cY
    exact r9Dl_uf 0 0 _ _ _ _ _ _ _ _ _ _ f m (pF f) (eF f) neg root _ _ e T (eminI f) w p2 hTb.1 hTb.2 (by omega) (by omega) cT cP cX (decide_eq_false h1) cM (decide_eq_false h2) cF cK cA s1 s2 cB cY
  ·rw [hE] at cF cK
   rw [if_pos rfl]
   exact r9Dl_ef 0 0 _ _ _ _ _ _ _ _ _ _ f m (pF f) (eF f) neg root _ _ e T (eminI f) w p2 hTb.1 hTb.2 (by omega) (by omega) cT cP cX (decide_eq_false h1) cM (decide_eq_false h2) cF cK cA s1 s2 cB
theorem r6odd_any (v : Nat) (w : World) (hv : nb v ≤ 100000) : CR_ 225 #[.string (strB v)] w (.bool (decide (v % 2 = 1))) :=
 (z06_odd.calls _ _ w (odd_strB v hv)).mono fun _ _ h => ⟨h.1, h.2.below⟩
structure OneF (n d : Nat) (e : Int) : Prop where
 num : n ≠ 0
 odd : n % 2 = 1
 den : d % 2 = 1
 gcd : Nat.gcd n d = 1
 len : lenN n ≤ 60000
 lend : lenN d ≤ 20000
 lo : -200000 ≤ e
 hi : e ≤ 200000
theorem r6May_any (neg : Bool) (n d : Nat) (e : Int) (w : World) (h : OneF n d e) :
  CR_ 207 #[exV neg n d e] w (.bool true) := by
 have hn : nb n ≤ 16384 := by have := h.len; unfold nb; omega
 have hd : nb d ≤ 16384 := by have := h.lend; unfold nb; omega
 have l1 := h.lo
 have l2 := h.hi
 obtain ⟨f1, f1'⟩ := strE_full n h.num
 obtain ⟨g1, g1'⟩ := strE_one (Nat.gcd n d) h.gcd
 have cO := fun w => r6odd_any d w (by omega)
 have co := fun w => r6odd_any n w (by omega)
 rw [decide_eq_true h.den] at cO
 rw [decide_eq_true h.odd] at co
 exact r6May_w neg _ _ _ e w (by omega) (by omega) (decide_eq_false (by omega)) (decide_eq_false (by omega)) (fun w => r5May_any n w hn) (fun w => r5May_any d w hd) f1 f1' cO co (fun w => r5Gcd_any n d w hn hd) g1 g1'
theorem r9Fault_any (f m : Nat) (neg : Bool) (n d : Nat) (e : Int) (w : World) (hf : f < 4) (hm : m < 5) (h : OneF n d e) :
  CR_ 151 #[.int .u8 f, .int .u8 m, exV neg n d e] w (.int .i64 0) := by
 have hn : nb n ≤ 8192 := by have := h.len; unfold nb; omega
 have hd : nb d ≤ 8192 := by have := h.lend; unfold nb; omega
 have cR := fun w => r7Right_any f w
 have cM := fun w => r7RightMode_any m w
 rw [decide_eq_true hf] at cR
 rw [decide_eq_true hm] at cM
 exact r9Fault_w f m neg _ _ e w (decide_eq_false (by rw [size_strB]; omega)) (decide_eq_false (by rw [size_strB]; omega)) cR cM (fun w => r6May_any neg n d e w h)
theorem r9Round_any (f m : Nat) (neg : Bool) (n d : Nat) (e : Int) (w : World) (hf : f < 4) (hm : m < 5) (h : OneF n d e) :
  CR_ 64 #[.int .u8 f, .int .u8 m, exV neg n d e] w (.tuple #[BV (rndX f m neg n d e).1, .int .u8 ((rndX f m neg n d e).2 : Nat), .int .i64 0]) := by
 have hd0 : 0 < d := by have := h.den; omega
 obtain ⟨f1, f1'⟩ := strE_full n h.num
 have cD := fun w => r9deliver_any f m neg false n d e w hf hm h.num (by have := h.len; omega) h.lend hd0 h.lo h.hi
 rw [rnd_src f m neg n d e hd0]
 exact r9Round_w f m _ _ _ _ e neg w (fun w => r9Fault_any f m neg n d e w hf hm h) f1 f1' cD
open Go.RowKit
def partsQ : Array (Nat × Nat) := #[(0, 1), (1, 6), (7, 1), (8, 6)]
theorem places_partsQ (w : World) : ∃ fs, Tryz.prog.underlying 100 = some (.struct fs) ∧ (fs.mapM fun f => do pure (f.offset, ← sizeOf f.type) : Sem (Array (Nat × Nat))).run Tryz.prog w = .ok partsQ w := by
 refine ⟨_, Tryz.underlying100, ?_⟩
 unfold partsQ
 go_simp
theorem partsQ_0 (c s : Nat) (x : Int) (f c' : Nat) (rest : List (Nat × Value)) : Instr.fill (partsQ[·]?) (parts c s x f) ((0, .int .u8 c') :: rest) = Instr.fill (partsQ[·]?) (parts c' s x f) rest := fill_step _ _ 0 0 1 _ _ rfl rfl (show 0 + 1 ≤ 14 by decide)
theorem partsQ_c (c : Nat) (w : World) : (Instr.build 100 #[(0, .int .u8 c)]).run Tryz.prog w = .ok (PV c 0 0 0) w := by
 obtain ⟨fs, hu, hp⟩ := places_partsQ w
 exact run_build rP hu hp _ _ (by show Instr.fill _ _ [_] = _; rw [partsQ_0]; rfl)
theorem wp_bldQ {P : Program} {op : Oper} {a : Act} {Q : Exit → Act → World → Prop} {ops : Array Oper} {rest : List Oper} {w : World} {t : TypeId} {i : Nat} {x : Operand} (hw : Region.wanted op (yielded ops a.tmps) = true) (ho : op.op = .build t #[(i, x)]) {u1 : Value} (h1 : a.eval x = u1) {v : Value}
  (hv : ∀ w, (Instr.build t #[(i, u1)]).run P w = .ok v w) (h : wpList P ops Q rest (a.put op.dst v) w) : wpList P ops Q (op :: rest) a w :=
 wp_bld hw ho (by simp [h1]) hv h
theorem set_pwQ (a b : Nat) (x : Int) (d c s : Nat) (y : Int) (f : Nat) : setRow (parts a b x d) 0 (parts c s y f).toList = parts c s y f := set_all _ _ rfl
theorem set_limbsQ (a b : Nat) : setRow (limbs a) 0 (limbs b).toList = limbs b := set_all _ _ rfl
theorem set_leadQ (t i s : Nat) (ht : t < 2 ^ (64 * i + s)) (hs : s < 64) (hi : i < 6) : setRow (limbs t) i (#[.int .u64 (Go.bits .or .u64 (limb t i) (IntKind.u64.wrap (2 ^ s)))] : Array Value).toList = limbs (t + 2 ^ (64 * i + s)) := limbs_top t i s ht hs hi
theorem kindUnpack_0 (f b e t p : Nat) (neg : Bool) (w : World) (hT : Tab w) (cT : CK_ 92 #[.int .u8 f, BV b] (.bool true)) (cP : CK_ 79 #[.int .u8 f] (.int .i64 (p : Nat))) (cF : CT_ 187 #[.int .u8 f, BV b] (.tuple #[.bool neg, .int .i64 (e : Nat), W t])) (cC : CT_ 124 #[.int .u8 f, BV b] (.int .u8 0))  :
  CR_ 120 #[.int .u8 f, BV b] w (.tuple #[PV 0 0 0 0, .int .i64 0]) := by
 have H := Own.start w
 have HT := Lib.hid hT
 clear hT
 go_enter Tryz.func120, Tryz.ntmps120
 exact walk2
theorem kindUnpack_3 (f b e t p : Nat) (neg : Bool) (w : World) (hT : Tab w) (cT : CK_ 92 #[.int .u8 f, BV b] (.bool true)) (cP : CK_ 79 #[.int .u8 f] (.int .i64 (p : Nat))) (cF : CT_ 187 #[.int .u8 f, BV b] (.tuple #[.bool neg, .int .i64 (e : Nat), W t])) (cC : CT_ 124 #[.int .u8 f, BV b] (.int .u8 3))  :
  CR_ 120 #[.int .u8 f, BV b] w (.tuple #[PV 3 0 0 0, .int .i64 0]) := by
 have H := Own.start w
 have HT := Lib.hid hT
 clear hT
 go_enter Tryz.func120, Tryz.ntmps120
 exact walk2
theorem kindUnpack_4 (f b e t p : Nat) (neg : Bool) (w : World) (hT : Tab w) (cT : CK_ 92 #[.int .u8 f, BV b] (.bool true)) (cP : CK_ 79 #[.int .u8 f] (.int .i64 (p : Nat))) (cF : CT_ 187 #[.int .u8 f, BV b] (.tuple #[.bool neg, .int .i64 (e : Nat), W t])) (cC : CT_ 124 #[.int .u8 f, BV b] (.int .u8 4))  :
  CR_ 120 #[.int .u8 f, BV b] w (.tuple #[PV 4 0 0 0, .int .i64 0]) := by
 have H := Own.start w
 have HT := Lib.hid hT
 clear hT
 go_enter Tryz.func120, Tryz.ntmps120
 exact walk2
theorem kindUnpack_7 (f b e t p : Nat) (neg : Bool) (w : World) (hT : Tab w) (cT : CK_ 92 #[.int .u8 f, BV b] (.bool true)) (cP : CK_ 79 #[.int .u8 f] (.int .i64 (p : Nat))) (cF : CT_ 187 #[.int .u8 f, BV b] (.tuple #[.bool neg, .int .i64 (e : Nat), W t])) (cC : CT_ 124 #[.int .u8 f, BV b] (.int .u8 7))  :
  CR_ 120 #[.int .u8 f, BV b] w (.tuple #[PV 7 0 0 0, .int .i64 0]) := by
 have H := Own.start w
 have HT := Lib.hid hT
 clear hT
 go_enter Tryz.func120, Tryz.ntmps120
 exact walk2
theorem kindUnpack_8 (f b e t p : Nat) (neg : Bool) (w : World) (hT : Tab w) (cT : CK_ 92 #[.int .u8 f, BV b] (.bool true)) (cP : CK_ 79 #[.int .u8 f] (.int .i64 (p : Nat))) (cF : CT_ 187 #[.int .u8 f, BV b] (.tuple #[.bool neg, .int .i64 (e : Nat), W t])) (cC : CT_ 124 #[.int .u8 f, BV b] (.int .u8 8))  :
  CR_ 120 #[.int .u8 f, BV b] w (.tuple #[PV 8 0 0 t, .int .i64 0]) := by
 have H := Own.start w
 have HT := Lib.hid hT
 clear hT
 go_enter Tryz.func120, Tryz.ntmps120
 exact walk2
theorem kindUnpack_9 (f b e t p : Nat) (neg : Bool) (w : World) (hT : Tab w) (cT : CK_ 92 #[.int .u8 f, BV b] (.bool true)) (cP : CK_ 79 #[.int .u8 f] (.int .i64 (p : Nat))) (cF : CT_ 187 #[.int .u8 f, BV b] (.tuple #[.bool neg, .int .i64 (e : Nat), W t])) (cC : CT_ 124 #[.int .u8 f, BV b] (.int .u8 9))  :
  CR_ 120 #[.int .u8 f, BV b] w (.tuple #[PV 9 0 0 t, .int .i64 0]) := by
 have H := Own.start w
 have HT := Lib.hid hT
 clear hT
 go_enter Tryz.func120, Tryz.ntmps120
 exact walk2
theorem kindUnpack_2 (f b e t p : Nat) (em : Int) (neg : Bool) (w : World) (hT : Tab w) (he : e ≤ 32767) (hp : p ≤ 113) (hm1 : -16382 ≤ em) (hm2 : em ≤ 0) (cM : CK_ 141 #[.int .u8 f] (.int .i64 em)) (cT : CK_ 92 #[.int .u8 f, BV b] (.bool true)) (cP : CK_ 79 #[.int .u8 f] (.int .i64 (p : Nat))) (cF : CT_ 187 #[.int .u8 f, BV b] (.tuple #[.bool neg, .int .i64 (e : Nat), W t])) (cC : CT_ 124 #[.int .u8 f, BV b] (.int .u8 2))  :
  CR_ 120 #[.int .u8 f, BV b] w (.tuple #[PV 2 t ((e : Int) + em - (p : Int) + 1) 0, .int .i64 0]) := by
 have H := Own.start w
 have HT := Lib.hid hT
 clear hT
 go_enter Tryz.func120, Tryz.ntmps120
 exact walk2
theorem kindUnpack_5 (f b e t p : Nat) (em : Int) (neg : Bool) (w : World) (hT : Tab w) (he : e ≤ 32767) (hp : p ≤ 113) (hm1 : -16382 ≤ em) (hm2 : em ≤ 0) (cM : CK_ 141 #[.int .u8 f] (.int .i64 em)) (cT : CK_ 92 #[.int .u8 f, BV b] (.bool true)) (cP : CK_ 79 #[.int .u8 f] (.int .i64 (p : Nat))) (cF : CT_ 187 #[.int .u8 f, BV b] (.tuple #[.bool neg, .int .i64 (e : Nat), W t])) (cC : CT_ 124 #[.int .u8 f, BV b] (.int .u8 5))  :
  CR_ 120 #[.int .u8 f, BV b] w (.tuple #[PV 5 t ((e : Int) + em - (p : Int) + 1) 0, .int .i64 0]) := by
 have H := Own.start w
 have HT := Lib.hid hT
 clear hT
 go_enter Tryz.func120, Tryz.ntmps120
 exact walk2
theorem kindUnpack_1_0 (f b e t p : Nat) (em : Int) (neg : Bool) (w : World) (hT : Tab w) (s : Nat) (he : e ≤ 32767) (he1 : 1 ≤ e) (hs64 : s < 64) (htq : t < 2 ^ (64 * 0 + s)) (hqi : ((p : Int) - 1) / 64 = 0) (hqs : ((p : Int) - 1) % 64 = (s : Int)) (hp1 : 11 ≤ p) (hp : p ≤ 113) (hm1 : -16382 ≤ em) (hm2 : em ≤ 0) (cM : CK_ 141 #[.int .u8 f] (.int .i64 em)) (cT : CK_ 92 #[.int .u8 f, BV b] (.bool true)) (cP : CK_ 79 #[.int .u8 f] (.int .i64 (p : Nat))) (cF : CT_ 187 #[.int .u8 f, BV b] (.tuple #[.bool neg, .int .i64 (e : Nat), W t])) (cC : CT_ 124 #[.int .u8 f, BV b] (.int .u8 1))  :
  CR_ 120 #[.int .u8 f, BV b] w (.tuple #[PV 1 (t + 2 ^ (64 * 0 + s)) ((e : Int) - 1 + em - (p : Int) + 1) 0, .int .i64 0]) := by
 have H := Own.start w
 have HT := Lib.hid hT
 clear hT
 have he1' : (1 : Int) ≤ (e : Int) := by omega
 have he2' : (e : Int) ≤ 32767 := by omega
 have hp2' : (p : Int) ≤ 113 := by omega
 have hp3' : (11 : Int) ≤ (p : Int) := by omega
 have HS := Lib.hid hs64
 have HTQ := Lib.hid htq
 have s64 : (s : Int) < 64 := by omega
 clear htq hs64
 go_enter Tryz.func120, Tryz.ntmps120
 exact walk2
theorem kindUnpack_6_0 (f b e t p : Nat) (em : Int) (neg : Bool) (w : World) (hT : Tab w) (s : Nat) (he : e ≤ 32767) (he1 : 1 ≤ e) (hs64 : s < 64) (htq : t < 2 ^ (64 * 0 + s)) (hqi : ((p : Int) - 1) / 64 = 0) (hqs : ((p : Int) - 1) % 64 = (s : Int)) (hp1 : 11 ≤ p) (hp : p ≤ 113) (hm1 : -16382 ≤ em) (hm2 : em ≤ 0) (cM : CK_ 141 #[.int .u8 f] (.int .i64 em)) (cT : CK_ 92 #[.int .u8 f, BV b] (.bool true)) (cP : CK_ 79 #[.int .u8 f] (.int .i64 (p : Nat))) (cF : CT_ 187 #[.int .u8 f, BV b] (.tuple #[.bool neg, .int .i64 (e : Nat), W t])) (cC : CT_ 124 #[.int .u8 f, BV b] (.int .u8 6))  :
  CR_ 120 #[.int .u8 f, BV b] w (.tuple #[PV 6 (t + 2 ^ (64 * 0 + s)) ((e : Int) - 1 + em - (p : Int) + 1) 0, .int .i64 0]) := by
 have H := Own.start w
 have HT := Lib.hid hT
 clear hT
 have he1' : (1 : Int) ≤ (e : Int) := by omega
 have he2' : (e : Int) ≤ 32767 := by omega
 have hp2' : (p : Int) ≤ 113 := by omega
 have hp3' : (11 : Int) ≤ (p : Int) := by omega
 have HS := Lib.hid hs64
 have HTQ := Lib.hid htq
 have s64 : (s : Int) < 64 := by omega
 clear htq hs64
 go_enter Tryz.func120, Tryz.ntmps120
 exact walk2
theorem kindUnpack_1_1 (f b e t p : Nat) (em : Int) (neg : Bool) (w : World) (hT : Tab w) (s : Nat) (he : e ≤ 32767) (he1 : 1 ≤ e) (hs64 : s < 64) (htq : t < 2 ^ (64 * 1 + s)) (hqi : ((p : Int) - 1) / 64 = 1) (hqs : ((p : Int) - 1) % 64 = (s : Int)) (hp1 : 11 ≤ p) (hp : p ≤ 113) (hm1 : -16382 ≤ em) (hm2 : em ≤ 0) (cM : CK_ 141 #[.int .u8 f] (.int .i64 em)) (cT : CK_ 92 #[.int .u8 f, BV b] (.bool true)) (cP : CK_ 79 #[.int .u8 f] (.int .i64 (p : Nat))) (cF : CT_ 187 #[.int .u8 f, BV b] (.tuple #[.bool neg, .int .i64 (e : Nat), W t])) (cC : CT_ 124 #[.int .u8 f, BV b] (.int .u8 1))  :
  CR_ 120 #[.int .u8 f, BV b] w (.tuple #[PV 1 (t + 2 ^ (64 * 1 + s)) ((e : Int) - 1 + em - (p : Int) + 1) 0, .int .i64 0]) := by
 have H := Own.start w
 have HT := Lib.hid hT
 clear hT
 have he1' : (1 : Int) ≤ (e : Int) := by omega
 have he2' : (e : Int) ≤ 32767 := by omega
 have hp2' : (p : Int) ≤ 113 := by omega
 have hp3' : (11 : Int) ≤ (p : Int) := by omega
 have HS := Lib.hid hs64
 have HTQ := Lib.hid htq
 have s64 : (s : Int) < 64 := by omega
 clear htq hs64
 go_enter Tryz.func120, Tryz.ntmps120
 exact walk3
theorem kindUnpack_6_1 (f b e t p : Nat) (em : Int) (neg : Bool) (w : World) (hT : Tab w) (s : Nat) (he : e ≤ 32767) (he1 : 1 ≤ e) (hs64 : s < 64) (htq : t < 2 ^ (64 * 1 + s)) (hqi : ((p : Int) - 1) / 64 = 1) (hqs : ((p : Int) - 1) % 64 = (s : Int)) (hp1 : 11 ≤ p) (hp : p ≤ 113) (hm1 : -16382 ≤ em) (hm2 : em ≤ 0) (cM : CK_ 141 #[.int .u8 f] (.int .i64 em)) (cT : CK_ 92 #[.int .u8 f, BV b] (.bool true)) (cP : CK_ 79 #[.int .u8 f] (.int .i64 (p : Nat))) (cF : CT_ 187 #[.int .u8 f, BV b] (.tuple #[.bool neg, .int .i64 (e : Nat), W t])) (cC : CT_ 124 #[.int .u8 f, BV b] (.int .u8 6))  :
  CR_ 120 #[.int .u8 f, BV b] w (.tuple #[PV 6 (t + 2 ^ (64 * 1 + s)) ((e : Int) - 1 + em - (p : Int) + 1) 0, .int .i64 0]) := by
 have H := Own.start w
 have HT := Lib.hid hT
 clear hT
 have he1' : (1 : Int) ≤ (e : Int) := by omega
 have he2' : (e : Int) ≤ 32767 := by omega
 have hp2' : (p : Int) ≤ 113 := by omega
 have hp3' : (11 : Int) ≤ (p : Int) := by omega
 have HS := Lib.hid hs64
 have HTQ := Lib.hid htq
 have s64 : (s : Int) < 64 := by omega
 clear htq hs64
 go_enter Tryz.func120, Tryz.ntmps120
 exact walk3
theorem ret_parts {c c' s s' f f' : Nat} {x x' : Int} {e : Ending} {P : Prop} (h1 : c = c') (h2 : s = s') (h3 : x = x') (h4 : f = f') (k : e = .returned (.tuple #[PV c s x f, .int .i64 0]) ∧ P) : e = .returned (.tuple #[PV c' s' x' f', .int .i64 0]) ∧ P := by
 subst h1 h2 h3 h4; exact k
theorem leadBit (f : Nat) (h : f < 4) : (((pF f : Int) - 1) / 64 = 0 ∧ ∃ s : Nat, s < 64 ∧ ((pF f : Int) - 1) % 64 = s ∧ pF f - 1 = 64 * 0 + s) ∨ (((pF f : Int) - 1) / 64 = 1 ∧ ∃ s : Nat, s < 64 ∧ ((pF f : Int) - 1) % 64 = s ∧ pF f - 1 = 64 * 1 + s) := by
 have : f = 0 ∨ f = 1 ∨ f = 2 ∨ f = 3 := by omega
 rcases this with rfl | rfl | rfl | rfl
 ·left; exact ⟨by decide, 23, by decide, by decide, rfl⟩
 ·left; exact ⟨by decide, 52, by decide, by decide, rfl⟩
 ·left; exact ⟨by decide, 10, by decide, by decide, rfl⟩
 ·right; exact ⟨by decide, 48, by decide, by decide, rfl⟩
theorem kindUnpack_yes (f b : Nat) (w : World) (h : fitsB f b = true) (hT : Tab w) :
  CR_ 120 #[.int .u8 f, BV b] w (.tuple #[PV (clsN f b) (sigN f b) (xpN f b) (frN f b), .int .i64 0]) := by
 obtain ⟨hf, hb0⟩ := (fits_iff f b).1 h
 obtain ⟨h1, h2, h3, h4, h5, h6, h7, h8⟩ := formK f hf
 have hb : b < 2 ^ (64 * 2) := Nat.lt_of_lt_of_le hb0 (Nat.pow_le_pow_right (by decide) (by have := (formB f hf).2.2.2.1; omega))
 have cT := fun w => shapeFits_any f b w hb
 rw [h] at cT
 have cP := fun w => shapePrecision_any f w (by omega)
 have cM := fun w => shapeEmin_any f w (by omega)
 have cF := fun w hT => kindFields_any f b w hf hb hT
 have cC := fun w hT => kindclass_any f b w hf hb hT
 have hx := expN_lt f b hf
 have ht := Nat.mod_lt b (two_pos (pF f - 1))
 rcases cls_cases f b with ⟨e1, e2, e3⟩ | ⟨e1, e2, e3⟩ | ⟨e1, e2, e3⟩ | ⟨e1, e2, e3⟩ | ⟨e1, e2, e3⟩
 ·cases hn : negN f b
  ·rw [hn] at e3
   simp only [e3, cond] at cC
   refine (kindUnpack_7 f b _ _ _ _ w hT cT cP cF cC).mono fun e w' k => ret_parts ?_ ?_ ?_ ?_ k
   ·rw [e3]; rfl
   ·unfold sigN; rw [e3]; rfl
   ·unfold xpN; rw [e3]; rfl
   ·unfold frN; rw [e3]; rfl
  ·rw [hn] at e3
   simp only [e3, cond] at cC
   refine (kindUnpack_0 f b _ _ _ _ w hT cT cP cF cC).mono fun e w' k => ret_parts ?_ ?_ ?_ ?_ k
   ·rw [e3]; rfl
   ·unfold sigN; rw [e3]; rfl
   ·unfold xpN; rw [e3]; rfl
   ·unfold frN; rw [e3]; rfl
 ·cases hn : (b % 2 ^ (pF f - 1)).testBit (pF f - 2)
  ·rw [hn] at e3
   simp only [e3, cond] at cC
   refine (kindUnpack_8 f b _ _ _ _ w hT cT cP cF cC).mono fun e w' k => ret_parts ?_ ?_ ?_ ?_ k
   ·rw [e3]; rfl
   ·unfold sigN; rw [e3]; rfl
   ·unfold xpN; rw [e3]; rfl
   ·unfold frN; rw [e3]; rfl
  ·rw [hn] at e3
   simp only [e3, cond] at cC
   refine (kindUnpack_9 f b _ _ _ _ w hT cT cP cF cC).mono fun e w' k => ret_parts ?_ ?_ ?_ ?_ k
   ·rw [e3]; rfl
   ·unfold sigN; rw [e3]; rfl
   ·unfold xpN; rw [e3]; rfl
   ·unfold frN; rw [e3]; rfl
 ·cases hn : negN f b
  ·rw [hn] at e3
   simp only [e3, cond] at cC
   refine (kindUnpack_4 f b _ _ _ _ w hT cT cP cF cC).mono fun e w' k => ret_parts ?_ ?_ ?_ ?_ k
   ·rw [e3]; rfl
   ·unfold sigN; rw [e3]; rfl
   ·unfold xpN; rw [e3]; rfl
   ·unfold frN; rw [e3]; rfl
  ·rw [hn] at e3
   simp only [e3, cond] at cC
   refine (kindUnpack_3 f b _ _ _ _ w hT cT cP cF cC).mono fun e w' k => ret_parts ?_ ?_ ?_ ?_ k
   ·rw [e3]; rfl
   ·unfold sigN; rw [e3]; rfl
   ·unfold xpN; rw [e3]; rfl
   ·unfold frN; rw [e3]; rfl
 ·cases hn : negN f b
  ·rw [hn] at e3
   simp only [e3, cond] at cC
   refine (kindUnpack_5 f b _ _ _ _ _ w hT (by omega) h8 (by omega) (by omega) cM cT cP cF cC).mono fun e w' k => ret_parts ?_ ?_ ?_ ?_ k
   ·rw [e3]; rfl
   ·unfold sigN; rw [e3]; rfl
   ·unfold xpN; rw [e3]; rfl
   ·unfold frN; rw [e3]; rfl
  ·rw [hn] at e3
   simp only [e3, cond] at cC
   refine (kindUnpack_2 f b _ _ _ _ _ w hT (by omega) h8 (by omega) (by omega) cM cT cP cF cC).mono fun e w' k => ret_parts ?_ ?_ ?_ ?_ k
   ·rw [e3]; rfl
   ·unfold sigN; rw [e3]; rfl
   ·unfold xpN; rw [e3]; rfl
   ·unfold frN; rw [e3]; rfl
 ·cases hn : negN f b
  ·rw [hn] at e3
   simp only [e3, cond] at cC
   rcases leadBit f hf with ⟨q1, s, q2, q3, q4⟩ | ⟨q1, s, q2, q3, q4⟩
   ·refine (kindUnpack_6_0 f b _ _ _ _ _ w hT s (by omega) (by omega) q2 (by rw [← q4]; exact ht) q1 q3 h7 h8 (by omega) (by omega) cM cT cP cF cC).mono fun e w' k => ret_parts ?_ ?_ ?_ ?_ k
    ·rw [e3]; rfl
    ·unfold sigN; rw [e3, ← q4]; rfl
    ·unfold xpN; rw [e3]; rfl
    ·unfold frN; rw [e3]; rfl
   ·refine (kindUnpack_6_1 f b _ _ _ _ _ w hT s (by omega) (by omega) q2 (by rw [← q4]; exact ht) q1 q3 h7 h8 (by omega) (by omega) cM cT cP cF cC).mono fun e w' k => ret_parts ?_ ?_ ?_ ?_ k
    ·rw [e3]; rfl
    ·unfold sigN; rw [e3, ← q4]; rfl
    ·unfold xpN; rw [e3]; rfl
    ·unfold frN; rw [e3]; rfl
  ·rw [hn] at e3
   simp only [e3, cond] at cC
   rcases leadBit f hf with ⟨q1, s, q2, q3, q4⟩ | ⟨q1, s, q2, q3, q4⟩
   ·refine (kindUnpack_1_0 f b _ _ _ _ _ w hT s (by omega) (by omega) q2 (by rw [← q4]; exact ht) q1 q3 h7 h8 (by omega) (by omega) cM cT cP cF cC).mono fun e w' k => ret_parts ?_ ?_ ?_ ?_ k
    ·rw [e3]; rfl
    ·unfold sigN; rw [e3, ← q4]; rfl
    ·unfold xpN; rw [e3]; rfl
    ·unfold frN; rw [e3]; rfl
   ·refine (kindUnpack_1_1 f b _ _ _ _ _ w hT s (by omega) (by omega) q2 (by rw [← q4]; exact ht) q1 q3 h7 h8 (by omega) (by omega) cM cT cP cF cC).mono fun e w' k => ret_parts ?_ ?_ ?_ ?_ k
    ·rw [e3]; rfl
    ·unfold sigN; rw [e3, ← q4]; rfl
    ·unfold xpN; rw [e3]; rfl
    ·unfold frN; rw [e3]; rfl
theorem kindUnpack_not (f b : Nat) (w : World) (hb : b < 2 ^ (64 * 2)) (h : fitsB f b = false) :
  CR_ 120 #[.int .u8 f, BV b] w (.tuple #[PV 0 0 0 0, .int .i64 2]) := by
 have cT := fun w => shapeFits_any f b w hb
 rw [h] at cT
 exact kindUnpack_no f b w cT
theorem set_limbs (a b : Nat) : setRow (limbs a) 0 (limbs b).toList = limbs b := set_all _ _ rfl
theorem wideOf_1 (w : World) : CR_ 47 #[.int .u64 1] w (W 1) := wideOf_any 1 w (by decide)
theorem roundGrid_up (m s k : Nat) (e at_ n : Int) (neg mo lo : Bool) (w : World) (hT : Tab w) (h1 : -2000000 ≤ e) (h2 : e ≤ 2000000) (h3 : -2000000 ≤ at_) (h4 : at_ ≤ 2000000) (hn : at_ - e = n) (hn0 : n ≤ 0) (cL : CK_ 101 #[W s, .int .i64 (-n)] (.tuple #[W k, .bool lo])) :
  CR_ 144 #[.int .u8 m, RV neg s e mo, .int .i64 at_] w (.tuple #[W k, .bool (!mo)]) := by
 have H := Own.start w
 have HT := Lib.hid hT
 clear hT
 go_enter Tryz.func144, Tryz.ntmps144
 exact walk3
theorem roundGrid_f_t (m s k : Nat) (e at_ n : Int) (half : Int) (neg ex : Bool) (w : World) (hT : Tab w) (h1 : -2000000 ≤ e) (h2 : e ≤ 2000000) (h3 : -2000000 ≤ at_) (h4 : at_ ≤ 2000000) (hn : at_ - e = n) (hn0 : 0 < n) (cC : CT_ 122 #[W s, .int .i64 n] (.tuple #[W k, .int .i64 half, .bool ex])) (cR : ∀ w, Calls Tryz.prog 123 #[.int .u8 m, .bool neg, .bool (Go.bits .and .u64 (limb k 0) 1 == 1), .int .i64 half, .bool ex] w fun e w' => e = .returned (.bool true) ∧ w = w') :
  CR_ 144 #[.int .u8 m, RV neg s e false, .int .i64 at_] w (.tuple #[W (k + 1), .bool ex]) := by
 have H := Own.start w
 have HT := Lib.hid hT
 clear hT
 have n0 : ¬ n ≤ 0 := by omega
 go_enter Tryz.func144, Tryz.ntmps144
 exact walk3
theorem roundGrid_f_f (m s k : Nat) (e at_ n : Int) (half : Int) (neg ex : Bool) (w : World) (hT : Tab w) (h1 : -2000000 ≤ e) (h2 : e ≤ 2000000) (h3 : -2000000 ≤ at_) (h4 : at_ ≤ 2000000) (hn : at_ - e = n) (hn0 : 0 < n) (cC : CT_ 122 #[W s, .int .i64 n] (.tuple #[W k, .int .i64 half, .bool ex])) (cR : ∀ w, Calls Tryz.prog 123 #[.int .u8 m, .bool neg, .bool (Go.bits .and .u64 (limb k 0) 1 == 1), .int .i64 half, .bool ex] w fun e w' => e = .returned (.bool false) ∧ w = w') :
  CR_ 144 #[.int .u8 m, RV neg s e false, .int .i64 at_] w (.tuple #[W k, .bool ex]) := by
 have H := Own.start w
 have HT := Lib.hid hT
 clear hT
 have n0 : ¬ n ≤ 0 := by omega
 go_enter Tryz.func144, Tryz.ntmps144
 exact walk3
theorem roundGrid_tz_t (m s k : Nat) (e at_ n : Int) (half : Int) (neg ex : Bool) (w : World) (hT : Tab w) (h1 : -2000000 ≤ e) (h2 : e ≤ 2000000) (h3 : -2000000 ≤ at_) (h4 : at_ ≤ 2000000) (hn : at_ - e = n) (hn0 : 0 < n) (hz : (half == 0) = true) (cC : CT_ 122 #[W s, .int .i64 n] (.tuple #[W k, .int .i64 half, .bool ex])) (cR : ∀ w, Calls Tryz.prog 123 #[.int .u8 m, .bool neg, .bool (Go.bits .and .u64 (limb k 0) 1 == 1), .int .i64 1, .bool false] w fun e w' => e = .returned (.bool true) ∧ w = w') :
  CR_ 144 #[.int .u8 m, RV neg s e true, .int .i64 at_] w (.tuple #[W (k + 1), .bool false]) := by
 have H := Own.start w
 have HT := Lib.hid hT
 clear hT
 have n0 : ¬ n ≤ 0 := by omega
 go_enter Tryz.func144, Tryz.ntmps144
 exact walk3
theorem roundGrid_tz_f (m s k : Nat) (e at_ n : Int) (half : Int) (neg ex : Bool) (w : World) (hT : Tab w) (h1 : -2000000 ≤ e) (h2 : e ≤ 2000000) (h3 : -2000000 ≤ at_) (h4 : at_ ≤ 2000000) (hn : at_ - e = n) (hn0 : 0 < n) (hz : (half == 0) = true) (cC : CT_ 122 #[W s, .int .i64 n] (.tuple #[W k, .int .i64 half, .bool ex])) (cR : ∀ w, Calls Tryz.prog 123 #[.int .u8 m, .bool neg, .bool (Go.bits .and .u64 (limb k 0) 1 == 1), .int .i64 1, .bool false] w fun e w' => e = .returned (.bool false) ∧ w = w') :
  CR_ 144 #[.int .u8 m, RV neg s e true, .int .i64 at_] w (.tuple #[W k, .bool false]) := by
 have H := Own.start w
 have HT := Lib.hid hT
 clear hT
 have n0 : ¬ n ≤ 0 := by omega
 go_enter Tryz.func144, Tryz.ntmps144
 exact walk3
theorem roundGrid_tn_t (m s k : Nat) (e at_ n : Int) (half : Int) (neg ex : Bool) (w : World) (hT : Tab w) (h1 : -2000000 ≤ e) (h2 : e ≤ 2000000) (h3 : -2000000 ≤ at_) (h4 : at_ ≤ 2000000) (hn : at_ - e = n) (hn0 : 0 < n) (hz : (half == 0) = false) (cC : CT_ 122 #[W s, .int .i64 n] (.tuple #[W k, .int .i64 half, .bool ex])) (cR : ∀ w, Calls Tryz.prog 123 #[.int .u8 m, .bool neg, .bool (Go.bits .and .u64 (limb k 0) 1 == 1), .int .i64 half, .bool false] w fun e w' => e = .returned (.bool true) ∧ w = w') :
  CR_ 144 #[.int .u8 m, RV neg s e true, .int .i64 at_] w (.tuple #[W (k + 1), .bool false]) := by
 have H := Own.start w
 have HT := Lib.hid hT
 clear hT
 have n0 : ¬ n ≤ 0 := by omega
 go_enter Tryz.func144, Tryz.ntmps144
 exact walk3
theorem roundGrid_tn_f (m s k : Nat) (e at_ n : Int) (half : Int) (neg ex : Bool) (w : World) (hT : Tab w) (h1 : -2000000 ≤ e) (h2 : e ≤ 2000000) (h3 : -2000000 ≤ at_) (h4 : at_ ≤ 2000000) (hn : at_ - e = n) (hn0 : 0 < n) (hz : (half == 0) = false) (cC : CT_ 122 #[W s, .int .i64 n] (.tuple #[W k, .int .i64 half, .bool ex])) (cR : ∀ w, Calls Tryz.prog 123 #[.int .u8 m, .bool neg, .bool (Go.bits .and .u64 (limb k 0) 1 == 1), .int .i64 half, .bool false] w fun e w' => e = .returned (.bool false) ∧ w = w') :
  CR_ 144 #[.int .u8 m, RV neg s e true, .int .i64 at_] w (.tuple #[W k, .bool false]) := by
 have H := Own.start w
 have HT := Lib.hid hT
 clear hT
 have n0 : ¬ n ≤ 0 := by omega
 go_enter Tryz.func144, Tryz.ntmps144
 exact walk3
theorem shapeGreatest_0 (neg : Bool) (w : World) :
  CR_ 202 #[.int .u8 0, .bool neg] w (BV (greatN 0 neg)) := by
 have H := Own.start w
 have cI : ∀ w, CR_ 77 #[.int .u8 0, .bool false] w (.agg #[.int .u64 0, .int .u64 2139095040]) := fun w => shapeInf_any 0 false w (by decide)
 have cW : ∀ w, CR_ 158 #[.int .u8 0, .agg #[.int .u64 0, .int .u64 2139095039], .bool neg] w (BV (greatN 0 neg)) := by
  intro w
  have := shapeWith_any 0 2139095039 neg w (by decide)
  rw [or_sign 0 2139095039 neg (by decide)] at this
  exact this
 have cC : ∀ w, Calls Tryz.prog 154 #[.int .u8 0] w fun e w' => e = .returned (.int .i64 0) ∧ w = w' := fun w => shapeCheck_any 0 w (by decide)
 have cN : ∀ w, CR_ 177 #[.int .u8 0] w (.int .i64 32) := fun w => shapeWidth_any 0 w (by decide)
 go_enter Tryz.func202, Tryz.ntmps202
 exact walk3
theorem shapeGreatest_1 (neg : Bool) (w : World) :
  CR_ 202 #[.int .u8 1, .bool neg] w (BV (greatN 1 neg)) := by
 have H := Own.start w
 have cI : ∀ w, CR_ 77 #[.int .u8 1, .bool false] w (.agg #[.int .u64 0, .int .u64 9218868437227405312]) := fun w => shapeInf_any 1 false w (by decide)
 have cW : ∀ w, CR_ 158 #[.int .u8 1, .agg #[.int .u64 0, .int .u64 9218868437227405311], .bool neg] w (BV (greatN 1 neg)) := by
  intro w
  have := shapeWith_any 1 9218868437227405311 neg w (by decide)
  rw [or_sign 1 9218868437227405311 neg (by decide)] at this
  exact this
 have cC : ∀ w, Calls Tryz.prog 154 #[.int .u8 1] w fun e w' => e = .returned (.int .i64 0) ∧ w = w' := fun w => shapeCheck_any 1 w (by decide)
 have cN : ∀ w, CR_ 177 #[.int .u8 1] w (.int .i64 64) := fun w => shapeWidth_any 1 w (by decide)
 go_enter Tryz.func202, Tryz.ntmps202
 exact walk3
theorem shapeGreatest_2 (neg : Bool) (w : World) :
  CR_ 202 #[.int .u8 2, .bool neg] w (BV (greatN 2 neg)) := by
 have H := Own.start w
 have cI : ∀ w, CR_ 77 #[.int .u8 2, .bool false] w (.agg #[.int .u64 0, .int .u64 31744]) := fun w => shapeInf_any 2 false w (by decide)
 have cW : ∀ w, CR_ 158 #[.int .u8 2, .agg #[.int .u64 0, .int .u64 31743], .bool neg] w (BV (greatN 2 neg)) := by
  intro w
  have := shapeWith_any 2 31743 neg w (by decide)
  rw [or_sign 2 31743 neg (by decide)] at this
  exact this
 have cC : ∀ w, Calls Tryz.prog 154 #[.int .u8 2] w fun e w' => e = .returned (.int .i64 0) ∧ w = w' := fun w => shapeCheck_any 2 w (by decide)
 have cN : ∀ w, CR_ 177 #[.int .u8 2] w (.int .i64 16) := fun w => shapeWidth_any 2 w (by decide)
 go_enter Tryz.func202, Tryz.ntmps202
 exact walk3
theorem shapeGreatest_3 (neg : Bool) (w : World) :
  CR_ 202 #[.int .u8 3, .bool neg] w (BV (greatN 3 neg)) := by
 have H := Own.start w
 have cI : ∀ w, CR_ 77 #[.int .u8 3, .bool false] w (.agg #[.int .u64 9223090561878065152, .int .u64 0]) := fun w => shapeInf_any 3 false w (by decide)
 have cW : ∀ w, CR_ 158 #[.int .u8 3, .agg #[.int .u64 9223090561878065151, .int .u64 (IntKind.u64.wrap (-1))], .bool neg] w (BV (greatN 3 neg)) := by
  intro w
  have := shapeWith_any 3 170135991163610696904058773219554885631 neg w (by decide)
  rw [or_sign 3 170135991163610696904058773219554885631 neg (by decide)] at this
  exact this
 have cC : ∀ w, Calls Tryz.prog 154 #[.int .u8 3] w fun e w' => e = .returned (.int .i64 0) ∧ w = w' := fun w => shapeCheck_any 3 w (by decide)
 have cN : ∀ w, CR_ 177 #[.int .u8 3] w (.int .i64 128) := fun w => shapeWidth_any 3 w (by decide)
 go_enter Tryz.func202, Tryz.ntmps202
 exact walk3
theorem shapeGreatest_no (f : Nat) (neg : Bool) (w : World) (hf : f < 256) (h4 : ¬ f < 4) :
  CR_ 202 #[.int .u8 f, .bool neg] w (BV (greatN f neg)) := by
 have H := Own.start w
 rw [show greatN f neg = 0 by unfold greatN; rw [decide_eq_false h4]; rfl]
 have cI : ∀ w, CR_ 77 #[.int .u8 f, .bool false] w (.agg #[.int .u64 0, .int .u64 0]) := by
  intro w
  have := shapeInf_any f false w hf
  rw [show infN f false = 0 by unfold infN; rw [decide_eq_false h4]; rfl] at this
  exact this
 go_enter Tryz.func202, Tryz.ntmps202
 go_wp2_with (first
  | ((with_reducible show wpList _ _ _ (⟨_, .box _ _, _, _, _, _⟩ :: _) _ _); refine H.xb ?_; (intro g w H; simp only [Act.put, List.setIfInBounds_toArray, List.set_cons_zero, List.set_cons_succ]))
  | ((with_reducible show wpList _ _ _ (⟨_, .alloc _, _, _, _, _⟩ :: _) _ _); refine H.xa ?_; (intro g w H; simp only [Act.put, List.setIfInBounds_toArray, List.set_cons_zero, List.set_cons_succ]))
  | ((with_reducible show wpList _ _ _ (⟨_, .load _ _, _, _, _, _⟩ :: _) _ _); (first | refine H.xl ?_ | refine H.xm ?_); simp only [Act.put, List.setIfInBounds_toArray, List.set_cons_zero, List.set_cons_succ])
  | ((with_reducible show wpList _ _ _ (⟨_, .store _ _ _, _, _, _, _⟩ :: _) _ _); (first | refine H.xs ?_ | refine H.xt ?_); (intro w H; simp only [Act.put]))
  | (go_at_call 77; ((with_reducible refine (cI _).mono ?_); rintro e w ⟨rfl, hb⟩; replace H := H.call hb; clear hb))
  )
 all_goals
  refine bodyPost_ret (results_c rfl rfl (H.res rB (by repeat (first | with_reducible exact List.mem_cons_self | apply List.mem_cons_of_mem)) (by first | with_reducible exact ext_2 _ _) (by rfl))) rfl ⟨?_, H.below⟩
  exact rfl
theorem shapeGreatest_any (f : Nat) (neg : Bool) (w : World) (hf : f < 256) :
  CR_ 202 #[.int .u8 f, .bool neg] w (BV (greatN f neg)) := by
 rcases forms f with rfl | rfl | rfl | rfl | h
 ·exact shapeGreatest_0 neg w
 ·exact shapeGreatest_1 neg w
 ·exact shapeGreatest_2 neg w
 ·exact shapeGreatest_3 neg w
 ·exact shapeGreatest_no f neg w hf (by omega)
theorem roundRight_no (f m : Nat) (w : World) (hf : f < 256) (h4 : ¬ f < 4) :
  Calls Tryz.prog 140 #[.int .u8 f, .int .u8 m] w fun e w' => e = .returned (.bool false) ∧ w = w' := by
 go_enter Tryz.func140, Tryz.ntmps140
 go_wp2_with (first | (go_at_call 154; ((with_reducible refine (shapeCheck_any f _ hf).mono ?_); rw [decide_eq_false h4]; rintro e w' ⟨rfl, rfl⟩)))
 go_ret
 exact ⟨rfl, rfl⟩
theorem roundRight_yes (f m : Nat) (w : World) (hf : f < 256) (hm : m < 256) (h4 : f < 4) :
  Calls Tryz.prog 140 #[.int .u8 f, .int .u8 m] w fun e w' => e = .returned (.bool (decide (m < 5))) ∧ w = w' := by
 by_cases h5 : m < 5
 ·rw [decide_eq_true h5]
  go_enter Tryz.func140, Tryz.ntmps140
  go_wp2_with (first | (go_at_call 154; ((with_reducible refine (shapeCheck_any f _ hf).mono ?_); rw [decide_eq_true h4]; rintro e w' ⟨rfl, rfl⟩)) | (go_at_call 121; ((with_reducible refine (shapeCheckMode_any m _ hm).mono ?_); rw [decide_eq_true h5]; rintro e w' ⟨rfl, rfl⟩)))
  go_ret
  exact ⟨rfl, rfl⟩
 rw [decide_eq_false h5]
 go_enter Tryz.func140, Tryz.ntmps140
 go_wp2_with (first | (go_at_call 154; ((with_reducible refine (shapeCheck_any f _ hf).mono ?_); rw [decide_eq_true h4]; rintro e w' ⟨rfl, rfl⟩)) | (go_at_call 121; ((with_reducible refine (shapeCheckMode_any m _ hm).mono ?_); rw [decide_eq_false h5]; rintro e w' ⟨rfl, rfl⟩)))
 go_ret
 exact ⟨rfl, rfl⟩
theorem roundRight_any (f m : Nat) (w : World) (hf : f < 256) (hm : m < 256) :
  Calls Tryz.prog 140 #[.int .u8 f, .int .u8 m] w fun e w' => e = .returned (.bool (decide (f < 4) && decide (m < 5))) ∧ w = w' := by
 by_cases h4 : f < 4
 ·rw [decide_eq_true h4, Bool.true_and]; exact roundRight_yes f m w hf hm h4
 ·rw [decide_eq_false h4, Bool.false_and]; exact roundRight_no f m w hf h4
theorem roundOver_0 (f : Nat) (neg : Bool) (w : World) (hf : f < 256) (cR : ∀ w, Calls Tryz.prog 140 #[.int .u8 f, .int .u8 0] w fun e w' => e = .returned (.bool true) ∧ w = w') :
  CR_ 143 #[.int .u8 f, .int .u8 0, .bool neg] w (.tuple #[BV (infN f neg), .int .u8 5, .int .i64 0]) := by
 have H := Own.start w
 go_enter Tryz.func143, Tryz.ntmps143
 exact walk3
theorem roundOver_1 (f : Nat) (neg : Bool) (w : World) (hf : f < 256) (cR : ∀ w, Calls Tryz.prog 140 #[.int .u8 f, .int .u8 1] w fun e w' => e = .returned (.bool true) ∧ w = w') :
  CR_ 143 #[.int .u8 f, .int .u8 1, .bool neg] w (.tuple #[BV (greatN f neg), .int .u8 5, .int .i64 0]) := by
 have H := Own.start w
 go_enter Tryz.func143, Tryz.ntmps143
 exact walk3
theorem roundOver_2t (f : Nat) (w : World) (hf : f < 256) (cR : ∀ w, Calls Tryz.prog 140 #[.int .u8 f, .int .u8 2] w fun e w' => e = .returned (.bool true) ∧ w = w') :
  CR_ 143 #[.int .u8 f, .int .u8 2, .bool true] w (.tuple #[BV (infN f true), .int .u8 5, .int .i64 0]) := by
 have H := Own.start w
 go_enter Tryz.func143, Tryz.ntmps143
 exact walk3
theorem roundOver_2f (f : Nat) (w : World) (hf : f < 256) (cR : ∀ w, Calls Tryz.prog 140 #[.int .u8 f, .int .u8 2] w fun e w' => e = .returned (.bool true) ∧ w = w') :
  CR_ 143 #[.int .u8 f, .int .u8 2, .bool false] w (.tuple #[BV (greatN f false), .int .u8 5, .int .i64 0]) := by
 have H := Own.start w
 go_enter Tryz.func143, Tryz.ntmps143
 exact walk3
theorem roundOver_3t (f : Nat) (w : World) (hf : f < 256) (cR : ∀ w, Calls Tryz.prog 140 #[.int .u8 f, .int .u8 3] w fun e w' => e = .returned (.bool true) ∧ w = w') :
  CR_ 143 #[.int .u8 f, .int .u8 3, .bool true] w (.tuple #[BV (greatN f true), .int .u8 5, .int .i64 0]) := by
 have H := Own.start w
 go_enter Tryz.func143, Tryz.ntmps143
 exact walk3
theorem roundOver_3f (f : Nat) (w : World) (hf : f < 256) (cR : ∀ w, Calls Tryz.prog 140 #[.int .u8 f, .int .u8 3] w fun e w' => e = .returned (.bool true) ∧ w = w') :
  CR_ 143 #[.int .u8 f, .int .u8 3, .bool false] w (.tuple #[BV (infN f false), .int .u8 5, .int .i64 0]) := by
 have H := Own.start w
 go_enter Tryz.func143, Tryz.ntmps143
 exact walk3
theorem roundOver_4 (f : Nat) (neg : Bool) (w : World) (hf : f < 256) (cR : ∀ w, Calls Tryz.prog 140 #[.int .u8 f, .int .u8 4] w fun e w' => e = .returned (.bool true) ∧ w = w') :
  CR_ 143 #[.int .u8 f, .int .u8 4, .bool neg] w (.tuple #[BV (infN f neg), .int .u8 5, .int .i64 0]) := by
 have H := Own.start w
 go_enter Tryz.func143, Tryz.ntmps143
 exact walk3
theorem roundOver_any (f m : Nat) (neg : Bool) (w : World) (hf : f < 4) (hm : m < 5) :
  CR_ 143 #[.int .u8 f, .int .u8 m, .bool neg] w (.tuple #[BV (overN f m neg), .int .u8 5, .int .i64 0]) := by
 have cR := fun w => roundRight_any f m w (by omega) (by omega)
 rw [decide_eq_true hf, decide_eq_true hm] at cR
 have : m = 0 ∨ m = 1 ∨ m = 2 ∨ m = 3 ∨ m = 4 := by omega
 rcases this with rfl | rfl | rfl | rfl | rfl
 ·exact roundOver_0 f neg w (by omega) cR
 ·exact roundOver_1 f neg w (by omega) cR
 ·cases neg
  ·exact roundOver_2f f w (by omega) cR
  ·exact roundOver_2t f w (by omega) cR
 ·cases neg
  ·exact roundOver_3f f w (by omega) cR
  ·exact roundOver_3t f w (by omega) cR
 ·exact roundOver_4 f neg w (by omega) cR
theorem set_bits (a b c d : Value) : setRow #[a, b] 0 (#[c, d] : Array Value).toList = #[c, d] := set_all _ _ rfl
theorem roundTiny_ne (f m s p : Nat) (e top lo : Int) (neg mo : Bool) (w : World) (hT : Tab w) (hp : p ≤ 113) (l1 : -20000 ≤ lo) (l2 : lo ≤ 20000) (t1 : -1100000 ≤ top) (t2 : top ≤ 1100000) (hne : (top == lo - 1) = false) (cE : CK_ 141 #[.int .u8 f] (.int .i64 lo)) (cP : CK_ 79 #[.int .u8 f] (.int .i64 (p : Nat))) :
  CR_ 145 #[.int .u8 f, .int .u8 m, RV neg s e mo, .int .i64 top] w (.bool (decide (top < lo))) := by
 have H := Own.start w
 have HT := Lib.hid hT
 clear hT
 have hne2 : (top != lo - 1) = true := by rw [bne, hne]; rfl
 go_enter Tryz.func145, Tryz.ntmps145
 exact walk1
theorem roundTiny_eq (f m s p k lk : Nat) (e top lo at_ : Int) (neg mo ex : Bool) (w : World) (hT : Tab w) (hp : p ≤ 113) (l1 : -20000 ≤ lo) (l2 : lo ≤ 20000) (t1 : -1100000 ≤ top) (t2 : top ≤ 1100000) (heq : (top == lo - 1) = true) (ha : top - (p : Int) + 1 = at_) (cE : CK_ 141 #[.int .u8 f] (.int .i64 lo)) (cP : CK_ 79 #[.int .u8 f] (.int .i64 (p : Nat))) (cG : CT_ 144 #[.int .u8 m, RV neg s e mo, .int .i64 at_] (.tuple #[W k, .bool ex])) (cK : CK_ 80 #[W k] (.int .i64 (lk : Nat))) :
  CR_ 145 #[.int .u8 f, .int .u8 m, RV neg s e mo, .int .i64 top] w (.bool (decide (lk ≤ p))) := by
 have H := Own.start w
 have HT := Lib.hid hT
 clear hT
 have hne2 : (top != lo - 1) = false := by rw [bne, heq]; rfl
 go_enter Tryz.func145, Tryz.ntmps145
 exact walk1
theorem roundPack_right (f m s p : Nat) (e : Int) (neg mo : Bool) (w : World) (hp : p ≤ 113) (cP : CK_ 79 #[.int .u8 f] (.int .i64 (p : Nat))) (cR : ∀ w, Calls Tryz.prog 140 #[.int .u8 f, .int .u8 m] w fun e w' => e = .returned (.bool false) ∧ w = w') :
  CR_ 61 #[.int .u8 f, .int .u8 m, RV neg s e mo] w (.tuple #[BV 0, .int .u8 0, .int .i64 2]) := by
 have H := Own.start w
 go_enter Tryz.func61, Tryz.ntmps61
 exact walk1
theorem roundPack_low (f m s p : Nat) (e : Int) (neg mo : Bool) (w : World) (hp : p ≤ 113) (he : e < -1048576) (cP : CK_ 79 #[.int .u8 f] (.int .i64 (p : Nat))) (cR : ∀ w, Calls Tryz.prog 140 #[.int .u8 f, .int .u8 m] w fun e w' => e = .returned (.bool true) ∧ w = w') :
  CR_ 61 #[.int .u8 f, .int .u8 m, RV neg s e mo] w (.tuple #[BV 0, .int .u8 0, .int .i64 2]) := by
 have H := Own.start w
 have he2 : decide (e < -1048576) = true := by simpa using he
 go_enter Tryz.func61, Tryz.ntmps61
 exact walk1
theorem roundPack_high (f m s p : Nat) (e : Int) (neg mo : Bool) (w : World) (hp : p ≤ 113) (he : 1048576 < e) (cP : CK_ 79 #[.int .u8 f] (.int .i64 (p : Nat))) (cR : ∀ w, Calls Tryz.prog 140 #[.int .u8 f, .int .u8 m] w fun e w' => e = .returned (.bool true) ∧ w = w') :
  CR_ 61 #[.int .u8 f, .int .u8 m, RV neg s e mo] w (.tuple #[BV 0, .int .u8 0, .int .i64 2]) := by
 have H := Own.start w
 have he2 : decide (e < -1048576) = false := by simp; omega
 have he3 : decide (1048576 < e) = true := by simpa using he
 go_enter Tryz.func61, Tryz.ntmps61
 exact walk1
theorem roundPack_more (f m s p l : Nat) (e : Int) (neg : Bool) (w : World) (hp : p ≤ 113) (h1 : -1048576 ≤ e) (h2 : e ≤ 1048576) (hl : l < p + 2) (hl4 : l ≤ 384) (cP : CK_ 79 #[.int .u8 f] (.int .i64 (p : Nat))) (cR : ∀ w, Calls Tryz.prog 140 #[.int .u8 f, .int .u8 m] w fun e w' => e = .returned (.bool true) ∧ w = w') (cL : CK_ 80 #[W s] (.int .i64 (l : Nat))) :
  CR_ 61 #[.int .u8 f, .int .u8 m, RV neg s e true] w (.tuple #[BV 0, .int .u8 0, .int .i64 2]) := by
 have H := Own.start w
 have he2 : decide (e < -1048576) = false := by simp; omega
 have he3 : decide (1048576 < e) = false := by simp; omega
 have hl2 : decide ((l : Int) < (p : Int) + 2) = true := by simp; omega
 go_enter Tryz.func61, Tryz.ntmps61
 exact walk1
theorem roundPack_zero_f (f m s p l z : Nat) (e : Int) (neg : Bool) (w : World) (hT : Tab w) (hp : p ≤ 113) (h1 : -1048576 ≤ e) (h2 : e ≤ 1048576) (hl4 : l ≤ 384) (cP : CK_ 79 #[.int .u8 f] (.int .i64 (p : Nat))) (cR : ∀ w, Calls Tryz.prog 140 #[.int .u8 f, .int .u8 m] w fun e w' => e = .returned (.bool true) ∧ w = w') (cL : CK_ 80 #[W s] (.int .i64 (l : Nat))) (hs : s < top6) (hs0 : decide (s = 0) = true) (cZ : CK_ 78 #[.int .u8 f, .bool neg] (BV z)) :
  CR_ 61 #[.int .u8 f, .int .u8 m, RV neg s e false] w (.tuple #[BV z, .int .u8 0, .int .i64 0]) := by
 have H := Own.start w
 have HT := Lib.hid hT
 clear hT
 have he2 : decide (e < -1048576) = false := by simp; omega
 have he3 : decide (1048576 < e) = false := by simp; omega
 have eq1 : ∀ w, (Op.equalIn 10000 60 (.agg (limbs s)) (.agg #[.int .u64 0, .int .u64 0, .int .u64 0, .int .u64 0, .int .u64 0, .int .u64 0])).run Tryz.prog w = .ok true w := fun w => (run_equal_zero w s hs).trans (by rw [hs0])
 clear hs hs0
 go_enter Tryz.func61, Tryz.ntmps61
 exact walk1
theorem roundPack_over_f (f m s p l E o : Nat) (e top lo : Int) (neg : Bool) (w : World) (hT : Tab w) (hp : p ≤ 113) (h1 : -1048576 ≤ e) (h2 : e ≤ 1048576) (hl4 : l ≤ 384) (cP : CK_ 79 #[.int .u8 f] (.int .i64 (p : Nat))) (cR : ∀ w, Calls Tryz.prog 140 #[.int .u8 f, .int .u8 m] w fun e w' => e = .returned (.bool true) ∧ w = w') (cL : CK_ 80 #[W s] (.int .i64 (l : Nat))) (hs : s < top6) (hs0 : decide (s = 0) = false) (htop : (l : Int) - 1 + e = top) (l1 : -20000 ≤ lo) (l2 : lo ≤ 20000) (t1 : -1100000 ≤ top) (t2 : top ≤ 1100000) (hE : E ≤ 16383) (cE : CK_ 141 #[.int .u8 f] (.int .i64 lo)) (cX : CK_ 142 #[.int .u8 f] (.int .i64 (E : Nat))) (hov : (E : Int) < top) (cO : CK_ 143 #[.int .u8 f, .int .u8 m, .bool neg] (.tuple #[BV o, .int .u8 5, .int .i64 0])) :
  CR_ 61 #[.int .u8 f, .int .u8 m, RV neg s e false] w (.tuple #[BV o, .int .u8 5, .int .i64 0]) := by
 have H := Own.start w
 have HT := Lib.hid hT
 clear hT
 have he2 : decide (e < -1048576) = false := by simp; omega
 have he3 : decide (1048576 < e) = false := by simp; omega
 have eq1 : ∀ w, (Op.equalIn 10000 60 (.agg (limbs s)) (.agg #[.int .u64 0, .int .u64 0, .int .u64 0, .int .u64 0, .int .u64 0, .int .u64 0])).run Tryz.prog w = .ok false w := fun w => (run_equal_zero w s hs).trans (by rw [hs0])
 have v1 : IntKind.i64.wrap ((l : Int) - 1) = (l : Int) - 1 := IntWalk.i64_in _ (by omega)
 have v2 : IntKind.i64.wrap ((l : Int) - 1 + e) = top := by rw [htop]; exact IntWalk.i64_in _ (by omega)
 clear hs hs0 htop
 go_enter Tryz.func61, Tryz.ntmps61
 exact walk1
theorem roundPack_zero_t (f m s p l z : Nat) (e : Int) (neg : Bool) (w : World) (hT : Tab w) (hp : p ≤ 113) (h1 : -1048576 ≤ e) (h2 : e ≤ 1048576) (hl4 : l ≤ 384) (hl : ¬ l < p + 2) (cP : CK_ 79 #[.int .u8 f] (.int .i64 (p : Nat))) (cR : ∀ w, Calls Tryz.prog 140 #[.int .u8 f, .int .u8 m] w fun e w' => e = .returned (.bool true) ∧ w = w') (cL : CK_ 80 #[W s] (.int .i64 (l : Nat))) (hs : s < top6) (hs0 : decide (s = 0) = true) (cZ : CK_ 78 #[.int .u8 f, .bool neg] (BV z)) :
  CR_ 61 #[.int .u8 f, .int .u8 m, RV neg s e true] w (.tuple #[BV z, .int .u8 0, .int .i64 0]) := by
 have H := Own.start w
 have HT := Lib.hid hT
 clear hT
 have he2 : decide (e < -1048576) = false := by simp; omega
 have he3 : decide (1048576 < e) = false := by simp; omega
 have hl2 : decide ((l : Int) < (p : Int) + 2) = false := by simp; omega
 have eq1 : ∀ w, (Op.equalIn 10000 60 (.agg (limbs s)) (.agg #[.int .u64 0, .int .u64 0, .int .u64 0, .int .u64 0, .int .u64 0, .int .u64 0])).run Tryz.prog w = .ok true w := fun w => (run_equal_zero w s hs).trans (by rw [hs0])
 clear hs hs0
 go_enter Tryz.func61, Tryz.ntmps61
 exact walk1
theorem roundPack_over_t (f m s p l E o : Nat) (e top lo : Int) (neg : Bool) (w : World) (hT : Tab w) (hp : p ≤ 113) (h1 : -1048576 ≤ e) (h2 : e ≤ 1048576) (hl4 : l ≤ 384) (hl : ¬ l < p + 2) (cP : CK_ 79 #[.int .u8 f] (.int .i64 (p : Nat))) (cR : ∀ w, Calls Tryz.prog 140 #[.int .u8 f, .int .u8 m] w fun e w' => e = .returned (.bool true) ∧ w = w') (cL : CK_ 80 #[W s] (.int .i64 (l : Nat))) (hs : s < top6) (hs0 : decide (s = 0) = false) (htop : (l : Int) - 1 + e = top) (l1 : -20000 ≤ lo) (l2 : lo ≤ 20000) (t1 : -1100000 ≤ top) (t2 : top ≤ 1100000) (hE : E ≤ 16383) (cE : CK_ 141 #[.int .u8 f] (.int .i64 lo)) (cX : CK_ 142 #[.int .u8 f] (.int .i64 (E : Nat))) (hov : (E : Int) < top) (cO : CK_ 143 #[.int .u8 f, .int .u8 m, .bool neg] (.tuple #[BV o, .int .u8 5, .int .i64 0])) :
  CR_ 61 #[.int .u8 f, .int .u8 m, RV neg s e true] w (.tuple #[BV o, .int .u8 5, .int .i64 0]) := by
 have H := Own.start w
 have HT := Lib.hid hT
 clear hT
 have he2 : decide (e < -1048576) = false := by simp; omega
 have he3 : decide (1048576 < e) = false := by simp; omega
 have hl2 : decide ((l : Int) < (p : Int) + 2) = false := by simp; omega
 have eq1 : ∀ w, (Op.equalIn 10000 60 (.agg (limbs s)) (.agg #[.int .u64 0, .int .u64 0, .int .u64 0, .int .u64 0, .int .u64 0, .int .u64 0])).run Tryz.prog w = .ok false w := fun w => (run_equal_zero w s hs).trans (by rw [hs0])
 have v1 : IntKind.i64.wrap ((l : Int) - 1) = (l : Int) - 1 := IntWalk.i64_in _ (by omega)
 have v2 : IntKind.i64.wrap ((l : Int) - 1 + e) = top := by rw [htop]; exact IntWalk.i64_in _ (by omega)
 clear hs hs0 htop
 go_enter Tryz.func61, Tryz.ntmps61
 exact walk1
theorem app_get (p q r : Array Value) (hp : p.size = 14) (hq : q.size = 14) (hr : r.size = 14) (j : Nat) : (p ++ q ++ r)[j]? = if j < 14 then p[j]? else if j < 28 then q[j - 14]? else r[j - 28]? := by
 rw [Array.getElem?_append, Array.getElem?_append, Array.size_append, hp, hq]
 by_cases h1 : j < 14
 ·rw [if_pos (by omega), if_pos h1, if_pos h1]
 ·by_cases h2 : j < 28
  ·rw [if_pos (by omega), if_neg h1, if_neg h1, if_pos h2]
  ·rw [if_neg (by omega), if_neg h1, if_neg h2]
theorem app_size (p q r : Array Value) (hp : p.size = 14) (hq : q.size = 14) (hr : r.size = 14) : (p ++ q ++ r).size = 42 := by rw [Array.size_append, Array.size_append, hp, hq, hr]
theorem set_app0 (p q r v : Array Value) (hp : p.size = 14) (hq : q.size = 14) (hr : r.size = 14) (hv : v.size = 14) : setRow (p ++ q ++ r) 0 v.toList = v ++ q ++ r := by
 apply Array.ext_getElem?
 intro j
 rw [setRow_at _ _ _ _ (by rw [app_size p q r hp hq hr]; omega), app_get p q r hp hq hr, app_get v q r hv hq hr, hv, if_neg (by omega)]
 by_cases h1 : j < 14
 ·rw [if_pos (by omega), if_pos h1]; rfl
 ·rw [if_neg (by omega), if_neg h1, if_neg h1]
theorem set_app1 (p q r v : Array Value) (hp : p.size = 14) (hq : q.size = 14) (hr : r.size = 14) (hv : v.size = 14) : setRow (p ++ q ++ r) 14 v.toList = p ++ v ++ r := by
 apply Array.ext_getElem?
 intro j
 rw [setRow_at _ _ _ _ (by rw [app_size p q r hp hq hr]; omega), app_get p q r hp hq hr, app_get p v r hp hv hr, hv]
 by_cases h1 : j < 14
 ·rw [if_pos (by omega), if_pos h1, if_pos h1]
 ·by_cases h2 : j < 28
  ·rw [if_neg (by omega), if_pos (by omega), if_neg h1, if_pos h2]
  ·rw [if_neg (by omega), if_neg (by omega), if_neg h1, if_neg h2, if_neg h1, if_neg h2]
theorem set_app2 (p q r v : Array Value) (hp : p.size = 14) (hq : q.size = 14) (hr : r.size = 14) (hv : v.size = 14) : setRow (p ++ q ++ r) 28 v.toList = p ++ q ++ v := by
 apply Array.ext_getElem?
 intro j
 rw [setRow_at _ _ _ _ (by rw [app_size p q r hp hq hr]; omega), app_get p q r hp hq hr, app_get p q v hp hq hv, hv]
 by_cases h1 : j < 14
 ·rw [if_pos (by omega), if_pos h1, if_pos h1]
 ·by_cases h2 : j < 28
  ·rw [if_pos (by omega), if_neg h1, if_pos h2, if_neg h1, if_pos h2]
  ·rw [if_neg (by omega), if_neg h1, if_neg h2]
   by_cases h3 : j < 42
   ·rw [if_pos (by omega), if_neg h1, if_neg h2]
   ·rw [if_neg (by omega), if_neg h1, if_neg h2, Array.getElem?_eq_none (by omega), Array.getElem?_eq_none (by omega)]
def tri (c1 s1 : Nat) (x1 : Int) (f1 : Nat) (c2 s2 : Nat) (x2 : Int) (f2 : Nat) (c3 s3 : Nat) (x3 : Int) (f3 : Nat) : Array Value := #[.int .u8 c1, .int .u64 (limb s1 0), .int .u64 (limb s1 1), .int .u64 (limb s1 2), .int .u64 (limb s1 3), .int .u64 (limb s1 4), .int .u64 (limb s1 5), .int .i64 x1, .int .u64 (limb f1 0), .int .u64 (limb f1 1), .int .u64 (limb f1 2), .int .u64 (limb f1 3), .int .u64 (limb f1 4), .int .u64 (limb f1 5), .int .u8 c2, .int .u64 (limb s2 0), .int .u64 (limb s2 1), .int .u64 (limb s2 2), .int .u64 (limb s2 3), .int .u64 (limb s2 4), .int .u64 (limb s2 5), .int .i64 x2, .int .u64 (limb f2 0), .int .u64 (limb f2 1), .int .u64 (limb f2 2), .int .u64 (limb f2 3), .int .u64 (limb f2 4), .int .u64 (limb f2 5), .int .u8 c3, .int .u64 (limb s3 0), .int .u64 (limb s3 1), .int .u64 (limb s3 2), .int .u64 (limb s3 3), .int .u64 (limb s3 4), .int .u64 (limb s3 5), .int .i64 x3, .int .u64 (limb f3 0), .int .u64 (limb f3 1), .int .u64 (limb f3 2), .int .u64 (limb f3 3), .int .u64 (limb f3 4), .int .u64 (limb f3 5)]
theorem ext_tri (c1 s1 : Nat) (x1 : Int) (f1 : Nat) (c2 s2 : Nat) (x2 : Int) (f2 : Nat) (c3 s3 : Nat) (x3 : Int) (f3 : Nat) : (tri c1 s1 x1 f1 c2 s2 x2 f2 c3 s3 x3 f3).extract 0 (0 + (tri c1 s1 x1 f1 c2 s2 x2 f2 c3 s3 x3 f3).size) = tri c1 s1 x1 f1 c2 s2 x2 f2 c3 s3 x3 f3 := by rw [Nat.zero_add]; exact Array.extract_size
theorem tri_app (c1 s1 : Nat) (x1 : Int) (f1 : Nat) (c2 s2 : Nat) (x2 : Int) (f2 : Nat) (c3 s3 : Nat) (x3 : Int) (f3 : Nat) : tri c1 s1 x1 f1 c2 s2 x2 f2 c3 s3 x3 f3 = parts c1 s1 x1 f1 ++ parts c2 s2 x2 f2 ++ parts c3 s3 x3 f3 := by unfold tri parts; simp only [List.append_toArray, List.cons_append, List.nil_append]
theorem ext_t0 (c1 s1 : Nat) (x1 : Int) (f1 : Nat) (c2 s2 : Nat) (x2 : Int) (f2 : Nat) (c3 s3 : Nat) (x3 : Int) (f3 : Nat) : (tri c1 s1 x1 f1 c2 s2 x2 f2 c3 s3 x3 f3).extract 0 (0 + (parts c1 s1 x1 f1).size) = parts c1 s1 x1 f1 := by rw [tri_app]; exact app3_0 _ _ _
theorem set_t0 (c1 s1 : Nat) (x1 : Int) (f1 : Nat) (c2 s2 : Nat) (x2 : Int) (f2 : Nat) (c3 s3 : Nat) (x3 : Int) (f3 : Nat) (c s : Nat) (x : Int) (f : Nat) : setRow (tri c1 s1 x1 f1 c2 s2 x2 f2 c3 s3 x3 f3) 0 (parts c s x f).toList = tri c s x f c2 s2 x2 f2 c3 s3 x3 f3 := by rw [tri_app, set_app0 _ _ _ _ rfl rfl rfl rfl, tri_app]
theorem ext_t1 (c1 s1 : Nat) (x1 : Int) (f1 : Nat) (c2 s2 : Nat) (x2 : Int) (f2 : Nat) (c3 s3 : Nat) (x3 : Int) (f3 : Nat) : (tri c1 s1 x1 f1 c2 s2 x2 f2 c3 s3 x3 f3).extract 14 (14 + (parts c2 s2 x2 f2).size) = parts c2 s2 x2 f2 := by rw [tri_app]; exact app3_1 _ _ _ rfl
theorem set_t1 (c1 s1 : Nat) (x1 : Int) (f1 : Nat) (c2 s2 : Nat) (x2 : Int) (f2 : Nat) (c3 s3 : Nat) (x3 : Int) (f3 : Nat) (c s : Nat) (x : Int) (f : Nat) : setRow (tri c1 s1 x1 f1 c2 s2 x2 f2 c3 s3 x3 f3) 14 (parts c s x f).toList = tri c1 s1 x1 f1 c s x f c3 s3 x3 f3 := by rw [tri_app, set_app1 _ _ _ _ rfl rfl rfl rfl, tri_app]
theorem ext_t2 (c1 s1 : Nat) (x1 : Int) (f1 : Nat) (c2 s2 : Nat) (x2 : Int) (f2 : Nat) (c3 s3 : Nat) (x3 : Int) (f3 : Nat) : (tri c1 s1 x1 f1 c2 s2 x2 f2 c3 s3 x3 f3).extract 28 (28 + (parts c3 s3 x3 f3).size) = parts c3 s3 x3 f3 := by rw [tri_app]; exact app3_2 _ _ _ rfl
theorem set_t2 (c1 s1 : Nat) (x1 : Int) (f1 : Nat) (c2 s2 : Nat) (x2 : Int) (f2 : Nat) (c3 s3 : Nat) (x3 : Int) (f3 : Nat) (c s : Nat) (x : Int) (f : Nat) : setRow (tri c1 s1 x1 f1 c2 s2 x2 f2 c3 s3 x3 f3) 28 (parts c s x f).toList = tri c1 s1 x1 f1 c2 s2 x2 f2 c s x f := by rw [tri_app, set_app2 _ _ _ _ rfl rfl rfl rfl, tri_app]
theorem tri_zero : tri 0 0 0 0 0 0 0 0 0 0 0 0 = #[.int .u8 0, .int .u64 0, .int .u64 0, .int .u64 0, .int .u64 0, .int .u64 0, .int .u64 0, .int .i64 0, .int .u64 0, .int .u64 0, .int .u64 0, .int .u64 0, .int .u64 0, .int .u64 0, .int .u8 0, .int .u64 0, .int .u64 0, .int .u64 0, .int .u64 0, .int .u64 0, .int .u64 0, .int .i64 0, .int .u64 0, .int .u64 0, .int .u64 0, .int .u64 0, .int .u64 0, .int .u64 0, .int .u8 0, .int .u64 0, .int .u64 0, .int .u64 0, .int .u64 0, .int .u64 0, .int .u64 0, .int .i64 0, .int .u64 0, .int .u64 0, .int .u64 0, .int .u64 0, .int .u64 0, .int .u64 0] := by
 unfold tri; simp only [limb_zero]; rfl
theorem t3_z : (Tryz.prog.info? 101).bind (·.zero) = some (.agg (tri 0 0 0 0 0 0 0 0 0 0 0 0)) := by rw [tri_zero]; kernel_rfl
theorem rQ : IsRow Tryz.prog 101 42 (tri 0 0 0 0 0 0 0 0 0 0 0 0) := ⟨⟨_, Tryz.underlying101, rfl⟩, t3_s, t3_z⟩
theorem set_tri (a1 a2 : Nat) (a3 : Int) (a4 a5 a6 : Nat) (a7 : Int) (a8 a9 a10 : Nat) (a11 : Int) (a12 c1 s1 : Nat) (x1 : Int) (f1 : Nat) (c2 s2 : Nat) (x2 : Int) (f2 : Nat) (c3 s3 : Nat) (x3 : Int) (f3 : Nat) : setRow (tri a1 a2 a3 a4 a5 a6 a7 a8 a9 a10 a11 a12) 0 (tri c1 s1 x1 f1 c2 s2 x2 f2 c3 s3 x3 f3).toList = tri c1 s1 x1 f1 c2 s2 x2 f2 c3 s3 x3 f3 := set_all _ _ rfl
theorem set_pw (a b : Nat) (x : Int) (d c s : Nat) (y : Int) (f : Nat) : setRow (parts a b x d) 0 (parts c s y f).toList = parts c s y f := set_all _ _ rfl
abbrev PZ : Array Value := parts 0 0 0 0
abbrev PT (f b : Nat) : Array Value := parts (clsN f b) (sigN f b) (xpN f b) (frN f b)
abbrev bc (b : Nat) : Array Value := #[.int .u64 (limb b 1), .int .u64 (limb b 0)]
theorem flag_on (b c : Bool) (h : c = true) : Value.int .u8 (Go.bits .or .u8 (cond b 16 0) 16) = .int .u8 (cond c 16 0) := by
 subst h; have : Go.bits .or .u8 (cond b 16 0) 16 = 16 := by cases b <;> decide +kernel
 rw [this]; rfl
theorem flag_on0 (c : Bool) (h : c = true) : Value.int .u8 (Go.bits .or .u8 0 16) = .int .u8 (cond c 16 0) := by subst h; exact flag_on false true rfl
theorem flag_off0 (c : Bool) (h : c = false) : Value.int .u8 0 = .int .u8 (cond c 16 0) := by subst h; rfl
theorem flag_off (b c : Bool) (h : c = b) : Value.int .u8 (cond b 16 0) = .int .u8 (cond c 16 0) := by rw [h]
structure Bls (w : World) (g o : Nat) (l : List Nat) : Prop where
 lt : g < w.heap.size
 elem : ∀ k b, l[k]? = some b → w.rangeAt g (o + k * 2) [.int .u64 (limb b 1), .int .u64 (limb b 0)]
theorem range_below {B : Nat} {w w' : World} (h : Below B w w') {g o : Nat} {cs : List Value} (hg : g < B) (r : w.rangeAt g o cs) : w'.rangeAt g o cs :=
 fun j v hj => (h.cell (p := ⟨g, o + j, none⟩) hg).trans (r j v hj)
theorem Bls.below {B : Nat} {w w' : World} {g o : Nat} {l : List Nat} (h : Bls w g o l) (hb : Below B w w') (hg : g < B) : Bls w' g o l :=
 ⟨Nat.lt_of_lt_of_le h.lt hb.size, fun k b hk => range_below hb hg (h.elem k b hk)⟩
theorem Bls.tail {w : World} {g o : Nat} {b : Nat} {l : List Nat} (h : Bls w g o (b :: l)) : Bls w g (o + 2) l :=
 ⟨h.lt, fun k c hk => by have := h.elem (k + 1) c (by rw [List.getElem?_cons_succ]; exact hk); rw [show o + 2 + k * 2 = o + (k + 1) * 2 by omega]; exact this⟩
section
variable {P : Program} {w0 w : World} {L L' : List Bk} {op : Oper} {a : Act} {Q : Exit → Act → World → Prop} {ops : Array Oper} {rest : List Oper} {K : Act → World → Prop} {md : Region.Mode} {fuel : Nat} {listed : Array Bool}
theorem Own.lde (H : Own w0 w L) {t : TypeId} {z : Array Value} {x : Operand} {g o p k : Nat} {l : List Nat} {b : Nat} (hb : Bls w0 g o l) (hk : l[k]? = some b) (h : wpList P ops Q rest (a.put op.dst (BV b)) w)
  (hw : Region.wanted op (yielded ops a.tmps) = true := by exact rfl) (R : IsRow P t 2 z := by with_reducible exact rB) (ho : op.op = .load t x := by exact rfl) (hx : a.eval x = .pointer (some ⟨g, p, none⟩) := by exact rfl) (hp : p = o + k * 2 := by first | rfl | omega) : wpList P ops Q (op :: rest) a w := by
 subst hp
 obtain ⟨d, hu, hd⟩ := R.row
 exact wp_wanted hw fun _ hK => wp_load_mid (P := P) t x ho g _ hx _ d (range_below H.below hb.lt (hb.elem k b hk)) hu hd (by rw [R.size]; rfl) (hK _ _ h)
theorem Own.zle (H : Own w0 w L) (i : Nat) {t : TypeId} {z : Array Value} {x : Operand} {g o p k : Nat} {l : List Nat} {b : Nat} (hb : Bls w0 g o l) (hk : l[k]? = some b)
  (h : wpAnyH P md ops Q (fun w' => Own w0 w' L') fuel (listed.setIfInBounds i true) (a.put op.dst (BV b)) w)
  (hL : List.Sublist L' L := by repeat (first | with_reducible exact List.Sublist.refl _ | with_reducible apply List.Sublist.cons_cons | with_reducible apply List.Sublist.cons)) (hi : ops[i]? = some op := by exact rfl) (hs : Region.noSelect ops = true := by kernel_rfl) (hf : Region.free md ops listed i = true := by kernel_rfl) (hr : (Region.ready md ops listed).contains i = true := by kernel_rfl) (hQ : ∀ v c a w, Q (.panic c) (a.put op.dst v) w → Q (.panic c) a w := by first | exact fun _ _ _ _ h => h | exact fun _ _ _ _ h => by cases h.1) (hw : Region.wanted op (yielded ops a.tmps) = true := by exact rfl)
  (R : IsRow P t 2 z := by with_reducible exact rB) (ho : op.op = .load t x := by exact rfl) (hx : a.eval x = .pointer (some ⟨g, p, none⟩) := by exact rfl) (hp : p = o + k * 2 := by first | rfl | omega) : wpAnyH P md ops Q (fun w' => Own w0 w' L') (fuel + 1) listed a w := by
 subst hp
 obtain ⟨d, hu, hd⟩ := R.row
 exact wpAnyH_take hi hs hf hr (hQ _) (yieldsIf_load_mid (P := P) hw t x ho g _ hx _ d (fun w h => range_below h.below hb.lt (hb.elem k b hk)) hu hd (by rw [R.size]; rfl)) (H.sub hL) h
end
theorem bv_mod (x : Nat) : BV (x % 2 ^ (64 * 2)) = BV x := by
 unfold BV limb
 rw [limbN_mod x 1 2 (by decide), limbN_mod x 0 2 (by decide)]
def allB (f : Nat) (l : List Nat) : Bool := l.all (fitsB f)
theorem allB_not (f : Nat) (l : List Nat) (k b : Nat) (h : l[k]? = some b) (hb : fitsB f b = false) : allB f l = false := by
 unfold allB
 rw [List.all_eq_false]
 exact ⟨b, List.mem_of_getElem? h, by rw [hb]; decide⟩
theorem allB_yes (f : Nat) (l : List Nat) (n : Nat) (hn : l.length ≤ n) (h : ∀ j b, j < n → l[j]? = some b → fitsB f b = true) : allB f l = true := by
 unfold allB
 rw [List.all_eq_true]
 intro b hb
 obtain ⟨j, hj⟩ := List.mem_iff_getElem?.1 hb
 have := (List.getElem?_eq_some_iff.1 hj).1
 exact h j b (by omega) hj
theorem fits_next {f : Nat} {l : List Nat} {k b : Nat} (h : ∀ j b, j < k → l[j]? = some b → fitsB f b = true) (hb : l[k]? = some b) (hf : fitsB f b = true) : ∀ j x, j < k + 1 → l[j]? = some x → fitsB f x = true := by
 intro j x hj hx
 by_cases e : j = k
 ·rw [e, hb] at hx
  injection hx with hx
  rw [← hx]; exact hf
 ·exact h j x (by omega) hx
def stepD (F : Nat → Nat → Nat → Nat × Nat × Int) (p : Nat × Int) (x : Nat × Nat) : Nat × Int := ((F x.1 x.2 p.1).1 % 2 ^ (64 * 2), Go.bits .or .u8 p.2 ((F x.1 x.2 p.1).2.1 : Nat))
def dotF (F : Nat → Nat → Nat → Nat × Nat × Int) (l : List (Nat × Nat)) : Nat × Int := l.foldl (stepD F) (0, 0)
theorem dotF_next (F : Nat → Nat → Nat → Nat × Nat × Int) (l r : List Nat) (k a b : Nat) (ha : l[k]? = some a) (hb : r[k]? = some b) : dotF F ((l.zip r).take (k + 1)) = stepD F (dotF F ((l.zip r).take k)) (a, b) := by
 have : (l.zip r)[k]? = some (a, b) := by rw [List.getElem?_zip_eq_some]; exact ⟨ha, hb⟩
 unfold dotF
 rw [List.take_add_one, this, List.foldl_append]; rfl
theorem dotF_lt (F : Nat → Nat → Nat → Nat × Nat × Int) (l : List (Nat × Nat)) : (dotF F l).1 < 2 ^ (64 * 2) := by
 have : ∀ (l : List (Nat × Nat)) (p : Nat × Int), p.1 < 2 ^ (64 * 2) → (l.foldl (stepD F) p).1 < 2 ^ (64 * 2) := by
  intro r
  induction r with
  | nil => intro p hp; exact hp
  | cons x r ih => intro p _; exact ih _ (Nat.mod_lt _ (Nat.two_pow_pos _))
 exact this l (0, 0) (by decide)
theorem r11FitsL_form (f m n c : Nat) (sa : Option Addr) (w0 : World) (cR : CK_ 62 #[.int .u8 f] (.bool false))  :
  CR_ 82 #[.int .u8 f, .int .u8 m, .slice sa n c] w0 (.bool false) := by
 have H := Own.start w0
 go_enter Tryz.func82, Tryz.ntmps82
 exact walk4
theorem r11FitsL_mode (f m n c : Nat) (sa : Option Addr) (w0 : World) (cR : CK_ 62 #[.int .u8 f] (.bool true)) (cM : CK_ 49 #[.int .u8 m] (.bool false))  :
  CR_ 82 #[.int .u8 f, .int .u8 m, .slice sa n c] w0 (.bool false) := by
 have H := Own.start w0
 go_enter Tryz.func82, Tryz.ntmps82
 exact walk4
theorem r11FitsL_nil0 (f m c : Nat) (sa : Option Addr) (w0 : World) (cR : CK_ 62 #[.int .u8 f] (.bool true)) (cM : CK_ 49 #[.int .u8 m] (.bool true)) :
  CR_ 82 #[.int .u8 f, .int .u8 m, .slice sa 0 c] w0 (.bool true) := by
 have H := Own.start w0
 go_enter Tryz.func82, Tryz.ntmps82
 go_wp2_with (first
  | ((with_reducible refine g0_ rfl ?_); refine H.xb ?_; (intro g w H; simp only [Act.put, q1_, q2_, q3_]))
  | ((with_reducible refine g1_ rfl ?_); refine H.xa ?_; (intro g w H; simp only [Act.put, q1_, q2_, q3_]))
  | ((with_reducible refine g2_ rfl ?_); (first | refine H.xl ?_ | refine H.xm ?_); simp only [Act.put, q1_, q2_, q3_])
  | ((with_reducible refine g3_ rfl ?_); (first | refine H.xs ?_ | refine H.xt ?_); (intro w H; simp only [Act.put]))
  | (go_at_call 62; (with_reducible refine H.kc (cR _) ?_; clear H; intro w H))
  | (go_at_call 49; (with_reducible refine H.kc (cM _) ?_; clear H; intro w H))
  )
 go_loopw [7] (fun i wr => i = .int .i64 0 ∧ Own w0 wr []) (fun i _ => 1)
 case atStart => exact ⟨rfl, H⟩
 case round =>
  clear H
  obtain ⟨rfl, H⟩ := hrel
  go_wp2_with (first
  | ((with_reducible refine g0_ rfl ?_); refine H.xb ?_; (intro g w H; simp only [Act.put, q1_, q2_, q3_]))
  | ((with_reducible refine g1_ rfl ?_); refine H.xa ?_; (intro g w H; simp only [Act.put, q1_, q2_, q3_]))
  | ((with_reducible refine g2_ rfl ?_); (first | refine H.xl ?_ | refine H.xm ?_); simp only [Act.put, q1_, q2_, q3_])
  | ((with_reducible refine g3_ rfl ?_); (first | refine H.xs ?_ | refine H.xt ?_); (intro w H; simp only [Act.put]))
  | ((with_reducible refine g5_ rfl ?_); refine H.lde hB hb ?_; simp only [Act.put, q1_, q2_, q3_])
  | (go_at_call 62; (with_reducible refine H.kc (cR _) ?_; clear H; intro w H))
  | (go_at_call 49; (with_reducible refine H.kc (cM _) ?_; clear H; intro w H))
  | (go_at_call 48; (with_reducible refine H.kc (cTb _) ?_; clear H; intro w H))
  )
  all_goals
   go_ret
   exact ⟨rfl, H.below⟩
theorem r11FitsL_some0 (f m : Nat) (l : List Nat) (g o n c : Nat) (w0 : World) (hB : Bls w0 g o l) (hl : Hid (∀ b ∈ l, b < 2 ^ (64 * 2))) (hn : Hid (l.length = n)) (hsm : n ≤ 60) (cR : CK_ 62 #[.int .u8 f] (.bool true)) (cM : CK_ 49 #[.int .u8 m] (.bool true)) (cT : ∀ b w, b < 2 ^ (64 * 2) → CR_ 48 #[.int .u8 f, BV b] w (.bool (fitsB f b))) :
  CR_ 82 #[.int .u8 f, .int .u8 m, .slice (some ⟨g, o, none⟩) n c] w0 (.bool (allB f l)) := by
 obtain ⟨R, hR⟩ : ∃ R : Bool, Hid (R = allB f l) := ⟨_, Lib.hid rfl⟩
 rw [← hR.out]
 have H := Own.start w0
 go_enter Tryz.func82, Tryz.ntmps82
 go_wp2_with (first
  | ((with_reducible refine g0_ rfl ?_); refine H.xb ?_; (intro g w H; simp only [Act.put, q1_, q2_, q3_]))
  | ((with_reducible refine g1_ rfl ?_); refine H.xa ?_; (intro g w H; simp only [Act.put, q1_, q2_, q3_]))
  | ((with_reducible refine g2_ rfl ?_); (first | refine H.xl ?_ | refine H.xm ?_); simp only [Act.put, q1_, q2_, q3_])
  | ((with_reducible refine g3_ rfl ?_); (first | refine H.xs ?_ | refine H.xt ?_); (intro w H; simp only [Act.put]))
  | (go_at_call 62; (with_reducible refine H.kc (cR _) ?_; clear H; intro w H))
  | (go_at_call 49; (with_reducible refine H.kc (cM _) ?_; clear H; intro w H))
  )
 go_loopw [7] (fun i wr => ∃ k : Nat, k ≤ n ∧ i = .int .i64 k ∧ Hid (∀ j b, j < k → l[j]? = some b → fitsB f b = true) ∧ Own w0 wr []) (fun i _ => n + 1 - (intOf i).toNat)
 case atStart => exact ⟨0, by omega, rfl, (by intro j b hj; omega), H.sub v5_⟩
 case round =>
  clear H
  obtain ⟨k, hk, rfl, hfit, H⟩ := hrel
  by_cases hlt : k < n
  ·obtain ⟨b, hb⟩ : ∃ b, l[k]? = some b := ⟨_, List.getElem?_eq_getElem (by rw [hn.out]; exact hlt)⟩
   have hd : decide ((k : Int) < (n : Int)) = true := by simp; omega
   have cTb := fun w => cT b w (hl.out b (List.mem_of_getElem? hb))
   cases hf : fitsB f b
   ·rw [hf] at cTb
    go_wp2_with (first
  | ((with_reducible refine g0_ rfl ?_); refine H.xb ?_; (intro g w H; simp only [Act.put, q1_, q2_, q3_]))
  | ((with_reducible refine g1_ rfl ?_); refine H.xa ?_; (intro g w H; simp only [Act.put, q1_, q2_, q3_]))
  | ((with_reducible refine g2_ rfl ?_); (first | refine H.xl ?_ | refine H.xm ?_); simp only [Act.put, q1_, q2_, q3_])
  | ((with_reducible refine g3_ rfl ?_); (first | refine H.xs ?_ | refine H.xt ?_); (intro w H; simp only [Act.put]))
  | ((with_reducible refine g5_ rfl ?_); refine H.lde hB hb ?_; simp only [Act.put, q1_, q2_, q3_])
  | (go_at_call 62; (with_reducible refine H.kc (cR _) ?_; clear H; intro w H))
  | (go_at_call 49; (with_reducible refine H.kc (cM _) ?_; clear H; intro w H))
  | (go_at_call 48; (with_reducible refine H.kc (cTb _) ?_; clear H; intro w H))
  )
    all_goals
     go_ret
     exact ⟨by rw [hR.out, allB_not f l k b hb hf]; rfl, H.below⟩
   ·rw [hf] at cTb
    go_wp2_with (first
  | ((with_reducible refine g0_ rfl ?_); refine H.xb ?_; (intro g w H; simp only [Act.put, q1_, q2_, q3_]))
  | ((with_reducible refine g1_ rfl ?_); refine H.xa ?_; (intro g w H; simp only [Act.put, q1_, q2_, q3_]))
  | ((with_reducible refine g2_ rfl ?_); (first | refine H.xl ?_ | refine H.xm ?_); simp only [Act.put, q1_, q2_, q3_])
  | ((with_reducible refine g3_ rfl ?_); (first | refine H.xs ?_ | refine H.xt ?_); (intro w H; simp only [Act.put]))
  | ((with_reducible refine g5_ rfl ?_); refine H.lde hB hb ?_; simp only [Act.put, q1_, q2_, q3_])
  | (go_at_call 62; (with_reducible refine H.kc (cR _) ?_; clear H; intro w H))
  | (go_at_call 49; (with_reducible refine H.kc (cM _) ?_; clear H; intro w H))
  | (go_at_call 48; (with_reducible refine H.kc (cTb _) ?_; clear H; intro w H))
  )
    all_goals
     go_roundw
     case rel => exact ⟨k + 1, by omega, by go_num, fits_next hfit.out hb hf, H.sub v5_⟩
     case measure => first | (simp [intOf]; omega) | simp [intOf]
  ·obtain rfl : k = n := by omega
   have hd : decide ((k : Int) < (k : Int)) = false := by simp
   have hall := allB_yes f l k (by rw [hn.out]; exact Nat.le_refl _) hfit.out
   have hR2 : Hid (R = true) := hR.out.trans hall
   clear hfit hall hR
   go_wp2_with (first
  | ((with_reducible refine g0_ rfl ?_); refine H.xb ?_; (intro g w H; simp only [Act.put, q1_, q2_, q3_]))
  | ((with_reducible refine g1_ rfl ?_); refine H.xa ?_; (intro g w H; simp only [Act.put, q1_, q2_, q3_]))
  | ((with_reducible refine g2_ rfl ?_); (first | refine H.xl ?_ | refine H.xm ?_); simp only [Act.put, q1_, q2_, q3_])
  | ((with_reducible refine g3_ rfl ?_); (first | refine H.xs ?_ | refine H.xt ?_); (intro w H; simp only [Act.put]))
  | ((with_reducible refine g5_ rfl ?_); refine H.lde hB hb ?_; simp only [Act.put, q1_, q2_, q3_])
  | (go_at_call 62; (with_reducible refine H.kc (cR _) ?_; clear H; intro w H))
  | (go_at_call 49; (with_reducible refine H.kc (cM _) ?_; clear H; intro w H))
  | (go_at_call 48; (with_reducible refine H.kc (cTb _) ?_; clear H; intro w H))
  )
   all_goals
    go_ret
    exact ⟨by rw [hR2.out]; rfl, H.below⟩
theorem r11FitsL_nil (f m c : Nat) (sa : Option Addr) (w0 : World) :
  CR_ 82 #[.int .u8 f, .int .u8 m, .slice sa 0 c] w0 (.bool (decide (f < 4) && decide (m < 5))) := by
 have cR := fun w => r7Right_any f w
 have cM := fun w => r7RightMode_any m w
 by_cases hf : f < 4
 case neg =>
  rw [decide_eq_false hf] at cR
  rw [decide_eq_false hf]
  simp only [Bool.false_and]
  exact r11FitsL_form f m 0 c sa w0 cR
 rw [decide_eq_true hf] at cR
 by_cases hm : m < 5
 case neg =>
  rw [decide_eq_false hm] at cM
  rw [decide_eq_false hm]
  simp only [Bool.false_and, Bool.and_false]
  exact r11FitsL_mode f m 0 c sa w0 cR cM
 rw [decide_eq_true hm] at cM
 rw [decide_eq_true hf, decide_eq_true hm]
 simp only [Bool.true_and]
 exact r11FitsL_nil0 f m c sa w0 cR cM
theorem r11FitsL_some (f m : Nat) (l : List Nat) (g o n c : Nat) (w0 : World) (hB : Bls w0 g o l) (hl : Hid (∀ b ∈ l, b < 2 ^ (64 * 2))) (hn : Hid (l.length = n)) (hsm : n ≤ 60) :
  CR_ 82 #[.int .u8 f, .int .u8 m, .slice (some ⟨g, o, none⟩) n c] w0 (.bool (decide (f < 4) && decide (m < 5) && allB f l)) := by
 have cR := fun w => r7Right_any f w
 have cM := fun w => r7RightMode_any m w
 by_cases hf : f < 4
 case neg =>
  rw [decide_eq_false hf] at cR
  rw [decide_eq_false hf]
  simp only [Bool.false_and]
  exact r11FitsL_form f m n c (some ⟨g, o, none⟩) w0 cR
 rw [decide_eq_true hf] at cR
 by_cases hm : m < 5
 case neg =>
  rw [decide_eq_false hm] at cM
  rw [decide_eq_false hm]
  simp only [Bool.false_and, Bool.and_false]
  exact r11FitsL_mode f m n c (some ⟨g, o, none⟩) w0 cR cM
 rw [decide_eq_true hm] at cM
 rw [decide_eq_true hf, decide_eq_true hm]
 simp only [Bool.true_and]
 exact r11FitsL_some0 f m l g o n c w0 hB hl hn hsm cR cM (fun b w hb => r7Fits_any f b w hb)
theorem r8IsSig_w (f b c : Nat) (w : World) (cC : CK_ 129 #[.int .u8 f, BV b] (.int .u8 (c : Nat))) :
  CR_ 163 #[.int .u8 f, BV b] w (.bool ((c : Int) == 8)) := by
 have H := Own.start w
 go_enter Tryz.func163, Tryz.ntmps163
 exact walk4
theorem r8IsSig_any (f b : Nat) (w : World) (hf : f < 4) (hb : b < 2 ^ (64 * 2)) :
  CR_ 163 #[.int .u8 f, BV b] w (.bool (decide (clsN f b = 8))) := by
 have h := r8IsSig_w f b _ w (fun w => r8Class_any f b w hf hb)
 rw [show ((clsN f b : Int) == 8) = decide (clsN f b = 8) by by_cases k : clsN f b = 8 <;> simp [k] <;> omega] at h
 exact h
theorem bls3 {w : World} {g a b c : Nat} (hB : Blk 27 w g (cat3 (bc a) (bc b) (bc c))) : Bls w g 0 [a, b, c] :=
 ⟨hB.lt, fun k x hk => by
  match k with
  | 0 => simp only [List.getElem?_cons_zero] at hk; injection hk with hk; subst hk; have h := World.rangeAt_of_block hB 0 2; rw [show (cat3 (bc a) (bc b) (bc c)).extract 0 (0 + 2) = bc a from cat3_0 (bc a) (bc b) (bc c)] at h; exact h
  | 1 => simp only [List.getElem?_cons_succ, List.getElem?_cons_zero] at hk; injection hk with hk; subst hk; have h := World.rangeAt_of_block hB 2 2; rw [show (cat3 (bc a) (bc b) (bc c)).extract 2 (2 + 2) = bc b from cat3_1 (bc a) (bc b) (bc c) rfl] at h; exact h
  | 2 => simp only [List.getElem?_cons_succ, List.getElem?_cons_zero] at hk; injection hk with hk; subst hk; have h := World.rangeAt_of_block hB 4 2; rw [show (cat3 (bc a) (bc b) (bc c)).extract 4 (4 + 2) = bc c from cat3_2 (bc a) (bc b) (bc c) rfl] at h; exact h
  | k + 3 => simp at hk⟩
theorem r11Fits3_any (f m a b c : Nat) (w0 : World) (ha : a < 2 ^ (64 * 2)) (hb : b < 2 ^ (64 * 2)) (hc : c < 2 ^ (64 * 2)) (g0 : Nat) (hB : Blk 27 w0 g0 (cat3 (bc a) (bc b) (bc c))) :
  CR_ 82 #[.int .u8 f, .int .u8 m, .slice (some ⟨g0, 0, none⟩) 3 3] w0 (.bool (decide (f < 4) && decide (m < 5) && (fitsB f a && (fitsB f b && fitsB f c)))) := by
 have h := r11FitsL_some f m [a, b, c] g0 0 3 3 w0 (bls3 hB) (Lib.hid (by intro x hx; simp only [List.mem_cons, List.not_mem_nil, or_false] at hx; rcases hx with rfl | rfl | rfl <;> assumption)) (Lib.hid rfl) (by decide)
 have e : allB f [a, b, c] = (fitsB f a && (fitsB f b && fitsB f c)) := by unfold allB; simp only [List.all_cons, List.all_nil, Bool.and_true]
 rw [e] at h
 exact h
theorem r11Canon3 (f z a b c : Nat) (sa sb sc : Bool) (w0 : World) (g0 : Nat) (hB : Blk 27 w0 g0 (cat3 (bc a) (bc b) (bc c))) (cN : CK_ 85 #[.int .u8 f] (BV z)) (cSa : CK_ 163 #[.int .u8 f, BV a] (.bool sa)) (cSb : CK_ 163 #[.int .u8 f, BV b] (.bool sb)) (cSc : CK_ 163 #[.int .u8 f, BV c] (.bool sc)) :
  CR_ 83 #[.int .u8 f, .slice (some ⟨g0, 0, none⟩) 3 3] w0 (.tuple #[BV z, .int .u8 (cond (sa || sb || sc) 16 0)]) := by
 have H := Own.start w0
 go_enter Tryz.func83, Tryz.ntmps83
 go_wp2_with (first
  | ((with_reducible refine g0_ rfl ?_); refine H.xb ?_; (intro g w H; simp only [Act.put, q1_, q2_, q3_]))
  | ((with_reducible refine g1_ rfl ?_); refine H.xa ?_; (intro g w H; simp only [Act.put, q1_, q2_, q3_]))
  | ((with_reducible refine g2_ rfl ?_); (first | refine H.xl ?_ | refine H.xm ?_); simp only [Act.put, q1_, q2_, q3_])
  | ((with_reducible refine g3_ rfl ?_); (first | refine H.xs ?_ | refine H.xt ?_); (intro w H; simp only [Act.put]))
  )
 go_loopw [6, 7] (fun v i wr => (i = .int .i64 0 ∧ v = .int .u8 0 ∧ Own w0 wr [(g, 27, #[.int .u64 0, .int .u64 0])]) ∨ (i = .int .i64 1 ∧ v = .int .u8 (cond (sa) 16 0) ∧ Own w0 wr [(g, 27, #[.int .u64 0, .int .u64 0])]) ∨ (i = .int .i64 2 ∧ v = .int .u8 (cond (sa || sb) 16 0) ∧ Own w0 wr [(g, 27, #[.int .u64 0, .int .u64 0])]) ∨ (i = .int .i64 3 ∧ v = .int .u8 (cond (sa || sb || sc) 16 0) ∧ Own w0 wr [(g, 27, #[.int .u64 0, .int .u64 0])])) (fun _ i _ => 4 - (intOf i).toNat)
 case atStart => exact Or.inl ⟨rfl, rfl, H⟩
 case round =>
  clear H
  rcases hrel with ⟨rfl, rfl, H⟩ | ⟨rfl, rfl, H⟩ | ⟨rfl, rfl, H⟩ | ⟨rfl, rfl, H⟩
  ·cases hc : sa
   ·rw [hc] at cSa
    go_wp2_with (first
  | ((with_reducible refine g0_ rfl ?_); refine H.xb ?_; (intro g w H; simp only [Act.put, q1_, q2_, q3_]))
  | ((with_reducible refine g1_ rfl ?_); refine H.xa ?_; (intro g w H; simp only [Act.put, q1_, q2_, q3_]))
  | ((with_reducible refine g2_ rfl ?_); (first | refine H.xl ?_ | refine H.xm ?_); simp only [Act.put, q1_, q2_, q3_])
  | ((with_reducible refine g3_ rfl ?_); (first | refine H.xs ?_ | refine H.xt ?_); (intro w H; simp only [Act.put]))
  | ((with_reducible refine g5_ rfl ?_); refine H.ldo rfl rB rfl rfl hB v6_ (by rfl) ?_; simp only [Act.put, q1_, q2_, q3_])
  | (go_at_call 163; (with_reducible refine H.kc (cSa _) ?_; clear H; intro w H))
  )
    all_goals
     go_roundw
     case rel => exact Or.inr (Or.inl ⟨by go_num, (by first | rfl | simp), H.sub v5_⟩)
     case measure => simp [intOf]
   ·rw [hc] at cSa
    go_wp2_with (first
  | ((with_reducible refine g0_ rfl ?_); refine H.xb ?_; (intro g w H; simp only [Act.put, q1_, q2_, q3_]))
  | ((with_reducible refine g1_ rfl ?_); refine H.xa ?_; (intro g w H; simp only [Act.put, q1_, q2_, q3_]))
  | ((with_reducible refine g2_ rfl ?_); (first | refine H.xl ?_ | refine H.xm ?_); simp only [Act.put, q1_, q2_, q3_])
  | ((with_reducible refine g3_ rfl ?_); (first | refine H.xs ?_ | refine H.xt ?_); (intro w H; simp only [Act.put]))
  | ((with_reducible refine g5_ rfl ?_); refine H.ldo rfl rB rfl rfl hB v6_ (by rfl) ?_; simp only [Act.put, q1_, q2_, q3_])
  | (go_at_call 163; (with_reducible refine H.kc (cSa _) ?_; clear H; intro w H))
  )
    all_goals
     go_roundw
     case rel => exact Or.inr (Or.inl ⟨by go_num, (by first | rfl | simp), H.sub v5_⟩)
     case measure => simp [intOf]
  ·cases hc : sb
   ·rw [hc] at cSb
    go_wp2_with (first
  | ((with_reducible refine g0_ rfl ?_); refine H.xb ?_; (intro g w H; simp only [Act.put, q1_, q2_, q3_]))
  | ((with_reducible refine g1_ rfl ?_); refine H.xa ?_; (intro g w H; simp only [Act.put, q1_, q2_, q3_]))
  | ((with_reducible refine g2_ rfl ?_); (first | refine H.xl ?_ | refine H.xm ?_); simp only [Act.put, q1_, q2_, q3_])
  | ((with_reducible refine g3_ rfl ?_); (first | refine H.xs ?_ | refine H.xt ?_); (intro w H; simp only [Act.put]))
  | ((with_reducible refine g5_ rfl ?_); refine H.ldo rfl rB rfl rfl hB (by first | with_reducible exact cat3_1 (bc _) (bc _) (bc _) rfl) (by rfl) ?_; simp only [Act.put, q1_, q2_, q3_])
  | (go_at_call 163; (with_reducible refine H.kc (cSb _) ?_; clear H; intro w H))
  )
    all_goals
     go_roundw
     case rel => exact Or.inr (Or.inr (Or.inl ⟨by go_num, (by first | rfl | simp), H.sub v5_⟩))
     case measure => simp [intOf]
   ·rw [hc] at cSb
    go_wp2_with (first
  | ((with_reducible refine g0_ rfl ?_); refine H.xb ?_; (intro g w H; simp only [Act.put, q1_, q2_, q3_]))
  | ((with_reducible refine g1_ rfl ?_); refine H.xa ?_; (intro g w H; simp only [Act.put, q1_, q2_, q3_]))
  | ((with_reducible refine g2_ rfl ?_); (first | refine H.xl ?_ | refine H.xm ?_); simp only [Act.put, q1_, q2_, q3_])
  | ((with_reducible refine g3_ rfl ?_); (first | refine H.xs ?_ | refine H.xt ?_); (intro w H; simp only [Act.put]))
  | ((with_reducible refine g5_ rfl ?_); refine H.ldo rfl rB rfl rfl hB (by first | with_reducible exact cat3_1 (bc _) (bc _) (bc _) rfl) (by rfl) ?_; simp only [Act.put, q1_, q2_, q3_])
  | (go_at_call 163; (with_reducible refine H.kc (cSb _) ?_; clear H; intro w H))
  )
    all_goals
     go_roundw
     case rel => exact Or.inr (Or.inr (Or.inl ⟨by go_num, (by first | rfl | simp), H.sub v5_⟩))
     case measure => simp [intOf]
  ·cases hc : sc
   ·rw [hc] at cSc
    go_wp2_with (first
  | ((with_reducible refine g0_ rfl ?_); refine H.xb ?_; (intro g w H; simp only [Act.put, q1_, q2_, q3_]))
  | ((with_reducible refine g1_ rfl ?_); refine H.xa ?_; (intro g w H; simp only [Act.put, q1_, q2_, q3_]))
  | ((with_reducible refine g2_ rfl ?_); (first | refine H.xl ?_ | refine H.xm ?_); simp only [Act.put, q1_, q2_, q3_])
  | ((with_reducible refine g3_ rfl ?_); (first | refine H.xs ?_ | refine H.xt ?_); (intro w H; simp only [Act.put]))
  | ((with_reducible refine g5_ rfl ?_); refine H.ldo rfl rB rfl rfl hB (by first | with_reducible exact cat3_2 (bc _) (bc _) (bc _) rfl) (by rfl) ?_; simp only [Act.put, q1_, q2_, q3_])
  | (go_at_call 163; (with_reducible refine H.kc (cSc _) ?_; clear H; intro w H))
  )
    all_goals
     go_roundw
     case rel => exact Or.inr (Or.inr (Or.inr (⟨by go_num, (by first | rfl | simp), H.sub v5_⟩)))
     case measure => simp [intOf]
   ·rw [hc] at cSc
    go_wp2_with (first
  | ((with_reducible refine g0_ rfl ?_); refine H.xb ?_; (intro g w H; simp only [Act.put, q1_, q2_, q3_]))
  | ((with_reducible refine g1_ rfl ?_); refine H.xa ?_; (intro g w H; simp only [Act.put, q1_, q2_, q3_]))
  | ((with_reducible refine g2_ rfl ?_); (first | refine H.xl ?_ | refine H.xm ?_); simp only [Act.put, q1_, q2_, q3_])
  | ((with_reducible refine g3_ rfl ?_); (first | refine H.xs ?_ | refine H.xt ?_); (intro w H; simp only [Act.put]))
  | ((with_reducible refine g5_ rfl ?_); refine H.ldo rfl rB rfl rfl hB (by first | with_reducible exact cat3_2 (bc _) (bc _) (bc _) rfl) (by rfl) ?_; simp only [Act.put, q1_, q2_, q3_])
  | (go_at_call 163; (with_reducible refine H.kc (cSc _) ?_; clear H; intro w H))
  )
    all_goals
     go_roundw
     case rel => exact Or.inr (Or.inr (Or.inr (⟨by go_num, (by first | rfl | simp), H.sub v5_⟩)))
     case measure => simp [intOf]
  ·go_wp2_with (first
  | ((with_reducible refine g0_ rfl ?_); refine H.xb ?_; (intro g w H; simp only [Act.put, q1_, q2_, q3_]))
  | ((with_reducible refine g1_ rfl ?_); refine H.xa ?_; (intro g w H; simp only [Act.put, q1_, q2_, q3_]))
  | ((with_reducible refine g2_ rfl ?_); (first | refine H.xl ?_ | refine H.xm ?_); simp only [Act.put, q1_, q2_, q3_])
  | ((with_reducible refine g3_ rfl ?_); (first | refine H.xs ?_ | refine H.xt ?_); (intro w H; simp only [Act.put]))
  | (go_at_call 85; (with_reducible refine H.kc (cN _) ?_; clear H; intro w H))
  )
   all_goals
    refine bodyPost_ret (results_ct rfl rfl (H.res rB v2_ v3_ (by rfl))) rfl ⟨?_, H.below⟩
    rfl
theorem or_one (a : Nat) : a ||| 1 = a / 2 * 2 + 1 := by
 have h1 : a = 2 * (a / 2) + a % 2 := (Nat.div_add_mod a 2).symm
 have h2 : a / 2 * 2 ||| 1 = a / 2 * 2 + 1 := by
  have := Nat.two_pow_add_eq_or_of_lt (i := 1) (b := 1) (by decide) (a / 2)
  rw [Nat.pow_one, Nat.mul_comm] at this; exact this.symm
 have : a % 2 = 0 ∨ a % 2 = 1 := by omega
 rcases this with h | h
 ·have e : a / 2 * 2 = a := by omega
  rw [← h2, e]
 ·have e : a = a / 2 * 2 + 1 := by omega
  rw [← h2]
  conv => lhs; rw [e, ← h2]
  rw [Nat.or_assoc, Nat.or_self]
theorem or_one_div (a n : Nat) (hn : 1 ≤ n) : (a ||| 1) / 2 ^ n = a / 2 ^ n := by
 obtain ⟨k, rfl⟩ : ∃ k, n = k + 1 := ⟨n - 1, by omega⟩
 rw [or_one, Nat.pow_succ, Nat.mul_comm (2 ^ k), ← Nat.div_div_eq_div_mul, ← Nat.div_div_eq_div_mul]
 rw [show (a / 2 * 2 + 1) / 2 = a / 2 by omega]
theorem or_one_mod (a n : Nat) (hn : 1 ≤ n) : (a ||| 1) % 2 ^ n = a % 2 ^ n ||| 1 := by
 have h1 := Nat.div_add_mod (a ||| 1) (2 ^ n)
 have h2 := Nat.div_add_mod a (2 ^ n)
 rw [or_one_div a n hn] at h1
 rw [or_one] at h1 ⊢
 rw [or_one]
 obtain ⟨k, rfl⟩ : ∃ k, n = k + 1 := ⟨n - 1, by omega⟩
 have hm : a % 2 ^ (k + 1) / 2 * 2 + a % 2 = a % 2 ^ (k + 1) := by
  have : a % 2 ^ (k + 1) % 2 = a % 2 := Nat.mod_mod_of_dvd a (by rw [Nat.pow_succ]; exact Nat.dvd_mul_left _ _)
  omega
 omega
theorem pack_sticky (f m : Nat) (neg : Bool) (s : Nat) (e : Int) (hf : f < 4) (hl : pF f + 2 ≤ lenN s) :
  packB f m neg s e true = packB f m neg (s ||| 1) e false := by
 obtain ⟨h1, h2, h3, h4, h5, h6, h7, h8⟩ := formK f hf
 have hs0 : s ≠ 0 := by intro h; rw [h, lenN_zero] at hl; omega
 have hlen : lenN (s ||| 1) = lenN s := by
  have hge := lenN_ge s hs0
  have hlt := lenN_lt s
  obtain ⟨k, hk⟩ : ∃ k, lenN s = k + 2 := ⟨lenN s - 2, by omega⟩
  rw [hk] at hge hlt ⊢
  rw [show k + 2 - 1 = k + 1 by omega, Nat.pow_succ] at hge
  rw [show 2 ^ (k + 2) = 2 ^ (k + 1) * 2 from Nat.pow_succ _ _, Nat.pow_succ] at hlt
  apply lenN_unique
  ·rw [show k + 2 - 1 = k + 1 by omega, Nat.pow_succ, or_one]; omega
  ·rw [show 2 ^ (k + 2) = 2 ^ (k + 1) * 2 from Nat.pow_succ _ _, Nat.pow_succ, or_one]; omega
  ·omega
 have hg : ∀ at_ : Int, e + 2 ≤ at_ → gridN m neg s e true at_ = gridN m neg (s ||| 1) e false at_ := by
  intro at_ hat
  obtain ⟨n, hn⟩ : ∃ n, (at_ - e).toNat = n := ⟨_, rfl⟩
  obtain ⟨k, rfl⟩ : ∃ k, n = k + 2 := ⟨n - 2, by omega⟩
  unfold gridN
  rw [if_neg (by omega), if_neg (by omega), hn, or_one_div s _ (by omega)]
  have hmod := or_one_mod s (k + 2) (by omega)
  have hex : (decide ((s ||| 1) % 2 ^ (k + 2) = 0) && !false) = (decide (s % 2 ^ (k + 2) = 0) && !true) := by
   rw [hmod, or_one]; simp
  have hhalf : (cond (false && decide (halfN (s ||| 1) (k + 2) = 0)) 1 (halfN (s ||| 1) (k + 2)) : Int) = cond (true && decide (halfN s (k + 2) = 0)) 1 (halfN s (k + 2)) := by
   rw [Bool.false_and, Bool.true_and]
   show halfN (s ||| 1) (k + 1 + 1) = cond (decide (halfN s (k + 1 + 1) = 0)) 1 (halfN s (k + 1 + 1))
   rw [halfN_pos, halfN_pos, show k + 1 + 1 = k + 2 from rfl, hmod, or_one]
   have hev : 2 ^ (k + 1) = 2 * 2 ^ k := by rw [Nat.pow_succ, Nat.mul_comm]
   generalize s % 2 ^ (k + 2) = x
   rw [hev]
   generalize 2 ^ k = y
   rcases Nat.lt_trichotomy x (2 * y) with h | h | h
   ·rw [if_pos (by omega : x < 2 * y), if_pos (by omega)]; rfl
   ·rw [if_neg (by omega : ¬ x < 2 * y), if_pos h, if_neg (by omega), if_neg (by omega)]; rfl
   ·rw [if_neg (by omega : ¬ x < 2 * y), if_neg (by omega : ¬ x = 2 * y), if_neg (by omega), if_neg (by omega)]; rfl
  rw [hhalf, hex]
 unfold packB tinyB
 rw [hlen, hg _ (by unfold atN; omega), hg _ (by omega)]
def jamN (y k : Nat) : Nat := if y % 2 ^ k = 0 then y / 2 ^ k else y / 2 ^ k ||| 1
theorem pack_shift (f m : Nat) (neg : Bool) (s k : Nat) (e : Int) (h0 : s ≠ 0) : packB f m neg (s * 2 ^ k) (e - k) false = packB f m neg s e false := by
 symm
 exact pack_finer ⟨by omega, by rw [show (e - (e - (k : Int))).toNat = k by omega, Nat.mul_div_cancel _ (two_pos _)], by rw [show (e - (e - (k : Int))).toNat = k by omega, Nat.mul_mod_left]; rfl⟩ f m neg h0 (fun h => by cases h)
theorem jam_plus (f m : Nat) (neg : Bool) (S y k : Nat) (e : Int) (hf : f < 4) (h0 : S + jamN y k ≠ 0) (hev : y % 2 ^ k ≠ 0 → S % 2 = 0 ∧ pF f + 2 ≤ lenN (S + y / 2 ^ k)) :
  packB f m neg (S + jamN y k) e false = packB f m neg (S * 2 ^ k + y) (e - k) false := by
 have hk : (e - (e - (k : Int))).toNat = k := by omega
 by_cases hz : y % 2 ^ k = 0
 ·unfold jamN at h0 ⊢
  rw [if_pos hz] at h0 ⊢
  rw [← pack_shift f m neg _ k e h0, Nat.add_mul, Nat.div_mul_cancel (Nat.dvd_of_mod_eq_zero hz)]
 ·obtain ⟨hs, hl⟩ := hev hz
  unfold jamN
  rw [if_neg hz]
  have e1 : S + (y / 2 ^ k ||| 1) = (S + y / 2 ^ k) ||| 1 := by rw [or_one, or_one]; omega
  rw [e1, ← pack_sticky f m neg _ e hf hl]
  refine pack_finer ⟨by omega, ?_, ?_⟩ f m neg (by intro h; rw [h, lenN_zero] at hl; omega) (fun _ => hl)
  ·rw [hk, Nat.mul_comm S, Nat.mul_add_div (two_pos k)]
  ·rw [hk, Nat.mul_comm S, Nat.mul_add_mod, decide_eq_false hz]; rfl
theorem jam_minus (f m : Nat) (neg : Bool) (S y k : Nat) (e : Int) (hf : f < 4) (h0 : jamN y k < S) (hev : y % 2 ^ k ≠ 0 → S % 2 = 0 ∧ pF f + 2 ≤ lenN (S - y / 2 ^ k - 1)) :
  packB f m neg (S - jamN y k) e false = packB f m neg (S * 2 ^ k - y) (e - k) false ∧ y < S * 2 ^ k := by
 have hk : (e - (e - (k : Int))).toNat = k := by omega
 have hdm := Nat.div_add_mod y (2 ^ k)
 have hml := Nat.mod_lt y (two_pos k)
 by_cases hz : y % 2 ^ k = 0
 ·unfold jamN at h0 ⊢
  rw [if_pos hz] at h0 ⊢
  have hy : y / 2 ^ k * 2 ^ k = y := Nat.div_mul_cancel (Nat.dvd_of_mod_eq_zero hz)
  have hlt : y < S * 2 ^ k := by have := (Nat.mul_lt_mul_right (two_pos k)).2 h0; omega
  refine ⟨?_, hlt⟩
  rw [← pack_shift f m neg _ k e (by omega), Nat.sub_mul, hy]
 ·obtain ⟨hs, hl⟩ := hev hz
  unfold jamN at h0 ⊢
  rw [if_neg hz] at h0 ⊢
  rw [or_one] at h0
  have hS : y / 2 ^ k + 1 ≤ S := by omega
  have hsplit : S * 2 ^ k - y = (S - y / 2 ^ k - 1) * 2 ^ k + (2 ^ k - y % 2 ^ k) ∧ y < S * 2 ^ k := by
   obtain ⟨r, hr⟩ : ∃ r, S = y / 2 ^ k + 1 + r := ⟨S - (y / 2 ^ k + 1), by omega⟩
   rw [show S - y / 2 ^ k - 1 = r by omega, hr, Nat.add_mul, Nat.add_mul, Nat.one_mul, Nat.mul_comm (y / 2 ^ k)]
   omega
  refine ⟨?_, hsplit.2⟩
  have e1 : S - (y / 2 ^ k ||| 1) = (S - y / 2 ^ k - 1) ||| 1 := by rw [or_one, or_one]; omega
  rw [e1, ← pack_sticky f m neg _ e hf hl, hsplit.1]
  have hr : 2 ^ k - y % 2 ^ k < 2 ^ k := by omega
  refine pack_finer ⟨by omega, ?_, ?_⟩ f m neg (by intro h; rw [h, lenN_zero] at hl; omega) (fun _ => hl)
  ·rw [hk, Nat.mul_comm (S - y / 2 ^ k - 1), Nat.mul_add_div (two_pos k), Nat.div_eq_of_lt hr, Nat.add_zero]
  ·rw [hk, Nat.mul_comm (S - y / 2 ^ k - 1), Nat.mul_add_mod, Nat.mod_eq_of_lt hr, decide_eq_false (by omega)]; rfl
def sumX (f m : Nat) (nx : Bool) (sx : Nat) (ex : Int) (ny : Bool) (sy : Nat) (ey : Int) : Nat × Nat :=
 if nx = ny then packB f m nx (sx * 2 ^ (ex - min ex ey).toNat + sy * 2 ^ (ey - min ex ey).toNat) (min ex ey) false
 else if sx * 2 ^ (ex - min ex ey).toNat = sy * 2 ^ (ey - min ex ey).toNat then (zeroN f (decide (m = 2)), 0)
 else if sy * 2 ^ (ey - min ex ey).toNat < sx * 2 ^ (ex - min ex ey).toNat then packB f m nx (sx * 2 ^ (ex - min ex ey).toNat - sy * 2 ^ (ey - min ex ey).toNat) (min ex ey) false
 else packB f m ny (sy * 2 ^ (ey - min ex ey).toNat - sx * 2 ^ (ex - min ex ey).toNat) (min ex ey) false
theorem sumX_swap (f m : Nat) (nx : Bool) (sx : Nat) (ex : Int) (ny : Bool) (sy : Nat) (ey : Int) : sumX f m nx sx ex ny sy ey = sumX f m ny sy ey nx sx ex := by
 unfold sumX
 rw [Int.min_comm ey ex]
 generalize sx * 2 ^ (ex - min ex ey).toNat = X
 generalize sy * 2 ^ (ey - min ex ey).toNat = Y
 by_cases h : nx = ny
 ·rw [if_pos h, if_pos h.symm, h, Nat.add_comm]
 ·rw [if_neg h, if_neg (show ¬ ny = nx from fun e => h e.symm)]
  rcases Nat.lt_trichotomy X Y with h1 | h1 | h1
  ·rw [if_neg (show ¬ X = Y by omega), if_neg (show ¬ Y < X by omega), if_neg (show ¬ Y = X by omega), if_pos h1]
  ·rw [if_pos h1, if_pos h1.symm]
  ·rw [if_neg (show ¬ X = Y by omega), if_pos h1, if_neg (show ¬ Y = X by omega), if_neg (show ¬ X < Y by omega)]
def sumJ (f m : Nat) (nx : Bool) (S : Nat) (ny : Bool) (t : Nat) (e : Int) : Nat × Nat :=
 if nx = ny then packB f m nx (S + t) e false
 else if S = t then (zeroN f (decide (m = 2)), 0)
 else if t < S then packB f m nx (S - t) e false
 else packB f m ny (t - S) e false
theorem sumJ_eq (f m : Nat) (nx : Bool) (S : Nat) (ny : Bool) (y k : Nat) (e : Int) (hf : f < 4) (hS : S ≠ 0) (hy : y ≠ 0)
  (hev : y % 2 ^ k ≠ 0 → S % 2 = 0 ∧ pF f + 2 ≤ lenN (S - y / 2 ^ k - 1) ∧ y / 2 ^ k + 1 < S) :
  sumJ f m nx S ny (jamN y k) e = sumX f m nx (S * 2 ^ k) (e - k) ny y (e - k) := by
 have hz0 : (e - (k : Int) - min (e - k) (e - k)).toNat = 0 := by omega
 have hmin : min (e - (k : Int)) (e - k) = e - k := by omega
 have hdm := Nat.div_add_mod y (2 ^ k)
 have hml := Nat.mod_lt y (two_pos k)
 have hlen : ∀ a b : Nat, a ≤ b → lenN a ≤ lenN b := fun a b h => (lenN_le a _).2 (Nat.lt_of_le_of_lt h (lenN_lt b))
 unfold sumJ sumX
 rw [hz0, hmin, Nat.pow_zero, Nat.mul_one, Nat.mul_one]
 by_cases hn : nx = ny
 ·rw [if_pos hn, if_pos hn]
  exact jam_plus f m nx S y k e hf (by omega) (fun h => ⟨(hev h).1, Nat.le_trans (hev h).2.1 (hlen _ _ (Nat.le_trans (Nat.sub_le _ _) (Nat.le_trans (Nat.sub_le _ _) (Nat.le_add_right _ _))))⟩)
 ·rw [if_neg hn, if_neg hn]
  by_cases hz : y % 2 ^ k = 0
  ·have hj : jamN y k = y / 2 ^ k := by unfold jamN; rw [if_pos hz]
   have hyk : jamN y k * 2 ^ k = y := by rw [hj]; exact Nat.div_mul_cancel (Nat.dvd_of_mod_eq_zero hz)
   rcases Nat.lt_trichotomy S (jamN y k) with h | h | h
   ·have := (Nat.mul_lt_mul_right (two_pos k)).2 h
    rw [hyk] at this
    rw [if_neg (by omega), if_neg (by omega), if_neg (by omega), if_neg (by omega)]
    rw [← pack_shift f m ny _ k e (by omega), Nat.sub_mul, hyk]
   ·rw [if_pos h, if_pos (by rw [h, hyk])]
   ·have := jam_minus f m nx S y k e hf h (fun h' => absurd hz h')
    rw [if_neg (by omega), if_pos h, if_neg (by omega), if_pos this.2]
    exact this.1
  ·obtain ⟨h1, h2, h3⟩ := hev hz
   have hj : jamN y k < S := by unfold jamN; rw [if_neg hz, or_one]; omega
   have := jam_minus f m nx S y k e hf hj (fun _ => ⟨h1, h2⟩)
   rw [if_neg (by omega), if_pos hj, if_neg (by omega), if_pos this.2]
   exact this.1
theorem sumX_scale (f m : Nat) (nx : Bool) (sx : Nat) (ex : Int) (ny : Bool) (sy : Nat) (ey : Int) (e : Int) (he : e ≤ min ex ey) (hx : sx ≠ 0) (hy : sy ≠ 0) :
  sumX f m nx (sx * 2 ^ (ex - e).toNat) e ny (sy * 2 ^ (ey - e).toNat) e = sumX f m nx sx ex ny sy ey := by
 obtain ⟨d, hd⟩ : ∃ d : Nat, (d : Int) = min ex ey - e := ⟨(min ex ey - e).toNat, by omega⟩
 have e1 : (ex - e).toNat = (ex - min ex ey).toNat + d := by omega
 have e2 : (ey - e).toNat = (ey - min ex ey).toNat + d := by omega
 have hz0 : (e - min e e).toNat = 0 := by omega
 have hmin : min e e = e := by omega
 have hee : e = min ex ey - (d : Int) := by omega
 unfold sumX
 rw [hz0, hmin, Nat.pow_zero, Nat.mul_one, Nat.mul_one, e1, e2, Nat.pow_add, Nat.pow_add, ← Nat.mul_assoc, ← Nat.mul_assoc]
 have hX : sx * 2 ^ (ex - min ex ey).toNat ≠ 0 := fun h => by rcases Nat.mul_eq_zero.1 h with h | h; exact hx h; exact absurd h (Nat.ne_of_gt (two_pos _))
 have hY : sy * 2 ^ (ey - min ex ey).toNat ≠ 0 := fun h => by rcases Nat.mul_eq_zero.1 h with h | h; exact hy h; exact absurd h (Nat.ne_of_gt (two_pos _))
 generalize sx * 2 ^ (ex - min ex ey).toNat = X at *
 generalize sy * 2 ^ (ey - min ex ey).toNat = Y at *
 rw [hee]
 by_cases hn : nx = ny
 ·rw [if_pos hn, if_pos hn, ← Nat.add_mul, pack_shift f m nx _ d _ (by omega)]
 ·rw [if_neg hn, if_neg hn]
  rcases Nat.lt_trichotomy X Y with h | h | h
  ·have := (Nat.mul_lt_mul_right (two_pos d)).2 h
   rw [if_neg (by omega), if_neg (by omega), if_neg (by omega), if_neg (by omega), ← Nat.sub_mul, pack_shift f m ny _ d _ (by omega)]
  ·rw [if_pos (by rw [h]), if_pos h]
  ·have := (Nat.mul_lt_mul_right (two_pos d)).2 h
   rw [if_neg (by omega), if_pos (by omega), if_neg (by omega), if_pos h, ← Nat.sub_mul, pack_shift f m nx _ d _ (by omega)]
def addR (f m a b : Nat) : Nat × Nat :=
 if (nanB (clsN f a) || nanB (clsN f b)) = true then canonR f (clsN f a) (clsN f b)
 else if (infB (clsN f a) && infB (clsN f b) && !decide (clsN f a = clsN f b)) = true then (nanN f, 16)
 else if infB (clsN f a) = true then (a, 0)
 else if infB (clsN f b) = true then (b, 0)
 else if (zerB (clsN f a) && zerB (clsN f b)) = true then (if clsN f a = clsN f b then (a, 0) else (zeroN f (decide (m = 2)), 0))
 else if zerB (clsN f a) = true then (b, 0)
 else if zerB (clsN f b) = true then (a, 0)
 else sumX f m (belowN4 (clsN f a)) (sigN f a) (xpN f a) (belowN4 (clsN f b)) (sigN f b) (xpN f b)
theorem add_zero (f m a : Nat) (hf : f < 4) (hc : Fin0 f a ∨ clsN f a = 3 ∨ clsN f a = 4) : addR f m a (zeroN f (negN f a)) = (a, 0) := by
 obtain ⟨z1, z2⟩ := zero_parts f (negN f a) hf
 have hz : clsN f (zeroN f (negN f a)) = 3 ∨ clsN f (zeroN f (negN f a)) = 4 := by rw [z2]; cases negN f a <;> simp
 obtain ⟨b1, b2, b3⟩ := zer_flags f _ hz
 unfold addR
 rw [b1, b2, b3]
 rcases hc with hc | hc
 ·obtain ⟨a1, a2, a3⟩ := fin_flags f a hc
  rw [a1, a2, a3]; simp
 ·obtain ⟨a1, a2, a3⟩ := zer_flags f a hc
  have he : clsN f a = clsN f (zeroN f (negN f a)) := by
   rw [z2, ← below_neg f a (by omega)]; unfold belowN4; rcases hc with h | h <;> rw [h] <;> rfl
  rw [a1, a2, a3, if_pos he]; simp
theorem jamN_lt (y k n : Nat) (hn : 1 ≤ n) (h : y < 2 ^ n) : jamN y k < 2 ^ n := by
 obtain ⟨i, rfl⟩ : ∃ i, n = i + 1 := ⟨n - 1, by omega⟩
 have hd : y / 2 ^ k ≤ y := Nat.div_le_self _ _
 rw [Nat.pow_succ] at *
 unfold jamN
 split
 ·omega
 ·rw [or_one]; omega
theorem pack_ok (f m s : Nat) (neg : Bool) (e : Int) (hf : f < 4) (hm : m < 5) (h1 : -1048576 ≤ e) (h2 : e ≤ 1048576) (h0 : s ≠ 0) :
  packN f m neg s e false = ((packB f m neg s e false).1, (packB f m neg s e false).2, 0) := by
 unfold packN packOk
 rw [decide_eq_true hf, decide_eq_true hm, decide_eq_true h1, decide_eq_true h2, if_neg h0]; rfl
theorem sig_ne (f a : Nat) (hfa : fitsB f a = true) (h1 : nanB (clsN f a) = false) (i1 : infB (clsN f a) = false) (z1 : zerB (clsN f a) = false) : sigN f a ≠ 0 := by
 intro h0
 have := (sig_zero f a hfa (by intro h; rw [show nanB (clsN f a) = true from decide_eq_true h] at h1; cases h1) (by intro h; rw [show infB (clsN f a) = true by unfold infB; rcases h with h | h <;> rw [h] <;> rfl] at i1; cases i1)).1 h0
 rw [show zerB (clsN f a) = true by unfold zerB; rcases this with h | h <;> rw [h] <;> rfl] at z1; cases z1
theorem cast_beq (a b : Nat) : ((a : Int) == (b : Int)) = decide (a = b) := by
 by_cases h : a = b
 ·subst h; simp
 ·rw [decide_eq_false h]
  exact beq_eq_false_iff_ne.2 (by omega)
theorem lt_113_6 (x n : Nat) (hn : n ≤ 384) (h : x < 2 ^ n) : x < top6 := lt_pwr top6 n (64 * 6) _ top6.eq_1 hn h
theorem lt_up (x a b : Nat) (h : x < 2 ^ a) (hab : a ≤ b) : x < 2 ^ b := Nat.lt_of_lt_of_le h (Nat.pow_le_pow_right (by decide) hab)
theorem add_lt_pow (S t n : Nat) (h1 : S < 2 ^ n) (h2 : t < 2 ^ n) : S + t < 2 ^ (n + 1) := by rw [Nat.pow_succ]; omega
theorem sub_lt_pow (S t n : Nat) (h1 : S < 2 ^ n) : S - t < 2 ^ (n + 1) := by rw [Nat.pow_succ]; omega
theorem add_lt_pow2 (S t n k : Nat) (hk : n + 1 = k) (h1 : S < 2 ^ n) (h2 : t < 2 ^ n) : S + t < 2 ^ k := by subst hk; exact add_lt_pow S t n h1 h2
theorem sub_lt_pow2 (S t n k : Nat) (hk : n + 1 = k) (h1 : S < 2 ^ n) : S - t < 2 ^ k := by subst hk; exact sub_lt_pow S t n h1
theorem sub_ne (S t : Nat) (h : t < S) : S - t ≠ 0 := by omega
theorem add_ne (S t : Nat) (h : S ≠ 0) : S + t ≠ 0 := by omega
def sO (f a : Nat) : Nat := sigN f a / 2 ^ lowZ (sigN f a)
def xO (f a : Nat) : Int := xpN f a + lowZ (sigN f a)
theorem sO_split (f a : Nat) (na : sigN f a ≠ 0) : sigN f a = sO f a * 2 ^ lowZ (sigN f a) ∧ sO f a % 2 = 1 ∧ sO f a ≠ 0 := low_split _ na
theorem oneB (f a : Nat) (fa : fitsB f a = true) (na : sigN f a ≠ 0) : sO f a ≠ 0 ∧ nb (sO f a) ≤ 15 ∧ lenN (sO f a) ≤ 113 ∧ (-40000 ≤ xO f a ∧ xO f a ≤ 40113) := by
 obtain ⟨s1, s2, s3⟩ := sO_split f a na
 have l1 : lenN (sigN f a) ≤ 113 := (lenN_le _ 113).2 (sigN_113 f a fa)
 have l2 : lenN (sO f a) ≤ lenN (sigN f a) := lenN_div_le _ _
 have z1 := lowZ_lt _ na
 obtain ⟨x1, x2⟩ := xpN_bound f a fa
 exact ⟨s3, by unfold nb; omega, by omega, by unfold xO; omega, by unfold xO; omega⟩
theorem r8ValueF_any (f a : Nat) (w : World) (fa : fitsB f a = true) (h1 : nanB (clsN f a) = false) (i1 : infB (clsN f a) = false) (na : sigN f a ≠ 0) :
  CR_ 88 #[.int .u8 f, BV a] w (.tuple #[exV (negN f a) (sO f a) 1 (xO f a), .int .i64 0]) := by
 have h := r8Value_any f a w fa h1 i1
 obtain ⟨e1, e2, e3⟩ := numX_one (sigN f a) na (xpN f a)
 have e4 : negX' (negN f a) (sigN f a) = negN f a := by unfold negX'; rw [if_neg na]
 rw [e1, e2, e3, e4] at h
 exact h
theorem mul_len (x y p q : Nat) (hx : lenN x ≤ p) (hy : lenN y ≤ q) : lenN (x * y) ≤ p + q := by
 refine (lenN_le _ _).2 ?_
 rw [Nat.pow_add]
 exact Nat.mul_lt_mul'' ((lenN_le _ _).1 hx) ((lenN_le _ _).1 hy)
theorem r8IsInf_nt (f b : Nat) (w : World) (hf : f < 4) (hb : b < 2 ^ (64 * 2)) :
  CR_ 53 #[.int .u8 f, BV b] w (.bool (infB (clsN f b))) := by
 by_cases hc : clsN f b = 0
 ·exact r8IsInf_t f b _ w hc (fun w => r8Class_any f b w hf hb)
 ·exact r8IsInf_f f b _ w hc (fun w => r8Class_any f b w hf hb)
theorem r8IsZero_nt (f b : Nat) (w : World) (hf : f < 4) (hb : b < 2 ^ (64 * 2)) :
  CR_ 84 #[.int .u8 f, BV b] w (.bool (zerB (clsN f b))) := by
 by_cases hc : clsN f b = 3
 ·exact r8IsZero_t f b _ w hc (fun w => r8Class_any f b w hf hb)
 ·exact r8IsZero_f f b _ w hc (fun w => r8Class_any f b w hf hb)
open Go.RowKit Go.Proofs.YtgmhmpflmgfcdaaGreatDoorW.PrintWords
theorem results_four {fn : Func} {t u v x : Tmp} (h : fn.results = #[.tmp t, .tmp u, .tmp v, .tmp x]) (tmps : Array Value) (P : Program) (w : World) :
  (results fn tmps).run P w = .ok (.tuple #[tmps.getD t undef, tmps.getD u undef, tmps.getD v undef, tmps.getD x undef]) w := by
 simp [results, h]
theorem r5Sub_w (a b s : ByteArray) (z : Int) (w : World) (q : decide (z < 0) = false) (cC : CK_ 57 #[.string a, .string b] (.int .i64 z)) (cS : CK_ 206 #[.string a, .string b] (.string s)) :
  CR_ 184 #[.string a, .string b] w (.tuple #[.string s, .int .i64 0]) := by
 have H := Own.start w
 go_enter Tryz.func184, Tryz.ntmps184
 exact walk4
theorem r6Two_t (n1 n2 n3 : Bool) (s1 d1 s2 d2 a b a2 b2 c s s3 d3 : ByteArray) (e1 e2 e3 er : Int) (w : World) (h1 : -400000 ≤ e1) (h2 : e1 ≤ 400000) (h3 : -400000 ≤ e2) (h4 : e2 ≤ 400000) (q : decide (e2 < e1) = true) (cA : CK_ 171 #[.string s1, .string d2] (.tuple #[.string a, .int .i64 0])) (cB : CK_ 171 #[.string s2, .string d1] (.tuple #[.string b, .int .i64 0])) (cL : CK_ 196 #[.string a, .int .i64 (e1 - e2)] (.tuple #[.string a2, .int .i64 0])) (cl : CK_ 196 #[.string b, .int .i64 0] (.tuple #[.string b2, .int .i64 0]))  :
  CR_ 183 #[.agg (exC n1 s1 d1 e1), .agg (exC n2 s2 d2 e2)] w (.tuple #[.string a2, .string b2, .int .i64 e2, .int .i64 0]) := by
 have H := Own.start w
 go_enter Tryz.func183, Tryz.ntmps183
 exact walk4
theorem r6Two_f (n1 n2 n3 : Bool) (s1 d1 s2 d2 a b a2 b2 c s s3 d3 : ByteArray) (e1 e2 e3 er : Int) (w : World) (h1 : -400000 ≤ e1) (h2 : e1 ≤ 400000) (h3 : -400000 ≤ e2) (h4 : e2 ≤ 400000) (q : decide (e2 < e1) = false) (cA : CK_ 171 #[.string s1, .string d2] (.tuple #[.string a, .int .i64 0])) (cB : CK_ 171 #[.string s2, .string d1] (.tuple #[.string b, .int .i64 0])) (cL : CK_ 196 #[.string a, .int .i64 0] (.tuple #[.string a2, .int .i64 0])) (cl : CK_ 196 #[.string b, .int .i64 (e2 - e1)] (.tuple #[.string b2, .int .i64 0]))  :
  CR_ 183 #[.agg (exC n1 s1 d1 e1), .agg (exC n2 s2 d2 e2)] w (.tuple #[.string a2, .string b2, .int .i64 e1, .int .i64 0]) := by
 have H := Own.start w
 go_enter Tryz.func183, Tryz.ntmps183
 exact walk4
theorem r6Add_z1 (n1 n2 n3 : Bool) (s1 d1 s2 d2 a b a2 b2 c s s3 d3 : ByteArray) (e1 e2 e3 er : Int) (w : World) (h1 : -400000 ≤ e1) (h2 : e1 ≤ 400000) (h3 : -400000 ≤ e2) (h4 : e2 ≤ 400000) (f_s1 : s1.toList.isEmpty = true) (f_s1' : s1.toList = [])  :
  CR_ 107 #[.agg (exC n1 s1 d1 e1), .agg (exC n2 s2 d2 e2)] w (.tuple #[.agg (exC n2 s2 d2 e2), .int .i64 0]) := by
 have H := Own.start w
 go_enter Tryz.func107, Tryz.ntmps107
 exact walk2
theorem r6Add_z2 (n1 n2 n3 : Bool) (s1 d1 s2 d2 a b a2 b2 c s s3 d3 : ByteArray) (e1 e2 e3 er : Int) (w : World) (h1 : -400000 ≤ e1) (h2 : e1 ≤ 400000) (h3 : -400000 ≤ e2) (h4 : e2 ≤ 400000) (f_s1 : s1.toList.isEmpty = false) (f_s1' : ¬ (s1.toList = [])) (f_s2 : s2.toList.isEmpty = true) (f_s2' : s2.toList = [])  :
  CR_ 107 #[.agg (exC n1 s1 d1 e1), .agg (exC n2 s2 d2 e2)] w (.tuple #[.agg (exC n1 s1 d1 e1), .int .i64 0]) := by
 have H := Own.start w
 go_enter Tryz.func107, Tryz.ntmps107
 exact walk2
theorem r6Add_st (n3 : Bool) (s1 d1 s2 d2 a b a2 b2 c s s3 d3 : ByteArray) (e1 e2 e3 er : Int) (w : World) (h1 : -400000 ≤ e1) (h2 : e1 ≤ 400000) (h3 : -400000 ≤ e2) (h4 : e2 ≤ 400000) (f_s1 : s1.toList.isEmpty = false) (f_s1' : ¬ (s1.toList = [])) (f_s2 : s2.toList.isEmpty = false) (f_s2' : ¬ (s2.toList = [])) (cT : CK_ 183 #[.agg (exC true s1 d1 e1), .agg (exC true s2 d2 e2)] (.tuple #[.string a, .string b, .int .i64 e3, .int .i64 0])) (cM : CK_ 171 #[.string d1, .string d2] (.tuple #[.string c, .int .i64 0])) (cA : CK_ 133 #[.string a, .string b] (.tuple #[.string s, .int .i64 0])) (cK : CK_ 63 #[.bool true, .string s, .string c, .int .i64 e3] (.tuple #[.agg (exC n3 s3 d3 er), .int .i64 0]))  :
  CR_ 107 #[.agg (exC true s1 d1 e1), .agg (exC true s2 d2 e2)] w (.tuple #[.agg (exC n3 s3 d3 er), .int .i64 0]) := by
 have H := Own.start w
 go_enter Tryz.func107, Tryz.ntmps107
 exact walk2
theorem r6Add_ty (n3 : Bool) (s1 d1 s2 d2 a b a2 b2 c s s3 d3 : ByteArray) (e1 e2 e3 er : Int) (w : World) (h1 : -400000 ≤ e1) (h2 : e1 ≤ 400000) (h3 : -400000 ≤ e2) (h4 : e2 ≤ 400000) (f_s1 : s1.toList.isEmpty = false) (f_s1' : ¬ (s1.toList = [])) (f_s2 : s2.toList.isEmpty = false) (f_s2' : ¬ (s2.toList = [])) (cT : CK_ 183 #[.agg (exC true s1 d1 e1), .agg (exC false s2 d2 e2)] (.tuple #[.string a, .string b, .int .i64 e3, .int .i64 0])) (cM : CK_ 171 #[.string d1, .string d2] (.tuple #[.string c, .int .i64 0])) (z : Int) (cC : CK_ 57 #[.string a, .string b] (.int .i64 z)) (q : decide (0 ≤ z) = true) (cS : CK_ 184 #[.string a, .string b] (.tuple #[.string s, .int .i64 0])) (cK : CK_ 63 #[.bool true, .string s, .string c, .int .i64 e3] (.tuple #[.agg (exC n3 s3 d3 er), .int .i64 0]))  :
  CR_ 107 #[.agg (exC true s1 d1 e1), .agg (exC false s2 d2 e2)] w (.tuple #[.agg (exC n3 s3 d3 er), .int .i64 0]) := by
 have H := Own.start w
 go_enter Tryz.func107, Tryz.ntmps107
 exact walk2
theorem r6Add_tn (n3 : Bool) (s1 d1 s2 d2 a b a2 b2 c s s3 d3 : ByteArray) (e1 e2 e3 er : Int) (w : World) (h1 : -400000 ≤ e1) (h2 : e1 ≤ 400000) (h3 : -400000 ≤ e2) (h4 : e2 ≤ 400000) (f_s1 : s1.toList.isEmpty = false) (f_s1' : ¬ (s1.toList = [])) (f_s2 : s2.toList.isEmpty = false) (f_s2' : ¬ (s2.toList = [])) (cT : CK_ 183 #[.agg (exC true s1 d1 e1), .agg (exC false s2 d2 e2)] (.tuple #[.string a, .string b, .int .i64 e3, .int .i64 0])) (cM : CK_ 171 #[.string d1, .string d2] (.tuple #[.string c, .int .i64 0])) (z : Int) (cC : CK_ 57 #[.string a, .string b] (.int .i64 z)) (q : decide (0 ≤ z) = false) (cS : CK_ 184 #[.string b, .string a] (.tuple #[.string s, .int .i64 0])) (cK : CK_ 63 #[.bool false, .string s, .string c, .int .i64 e3] (.tuple #[.agg (exC n3 s3 d3 er), .int .i64 0]))  :
  CR_ 107 #[.agg (exC true s1 d1 e1), .agg (exC false s2 d2 e2)] w (.tuple #[.agg (exC n3 s3 d3 er), .int .i64 0]) := by
 have H := Own.start w
 go_enter Tryz.func107, Tryz.ntmps107
 exact walk2
theorem r6Add_sf (n3 : Bool) (s1 d1 s2 d2 a b a2 b2 c s s3 d3 : ByteArray) (e1 e2 e3 er : Int) (w : World) (h1 : -400000 ≤ e1) (h2 : e1 ≤ 400000) (h3 : -400000 ≤ e2) (h4 : e2 ≤ 400000) (f_s1 : s1.toList.isEmpty = false) (f_s1' : ¬ (s1.toList = [])) (f_s2 : s2.toList.isEmpty = false) (f_s2' : ¬ (s2.toList = [])) (cT : CK_ 183 #[.agg (exC false s1 d1 e1), .agg (exC false s2 d2 e2)] (.tuple #[.string a, .string b, .int .i64 e3, .int .i64 0])) (cM : CK_ 171 #[.string d1, .string d2] (.tuple #[.string c, .int .i64 0])) (cA : CK_ 133 #[.string a, .string b] (.tuple #[.string s, .int .i64 0])) (cK : CK_ 63 #[.bool false, .string s, .string c, .int .i64 e3] (.tuple #[.agg (exC n3 s3 d3 er), .int .i64 0]))  :
  CR_ 107 #[.agg (exC false s1 d1 e1), .agg (exC false s2 d2 e2)] w (.tuple #[.agg (exC n3 s3 d3 er), .int .i64 0]) := by
 have H := Own.start w
 go_enter Tryz.func107, Tryz.ntmps107
 exact walk2
theorem r6Add_fy (n3 : Bool) (s1 d1 s2 d2 a b a2 b2 c s s3 d3 : ByteArray) (e1 e2 e3 er : Int) (w : World) (h1 : -400000 ≤ e1) (h2 : e1 ≤ 400000) (h3 : -400000 ≤ e2) (h4 : e2 ≤ 400000) (f_s1 : s1.toList.isEmpty = false) (f_s1' : ¬ (s1.toList = [])) (f_s2 : s2.toList.isEmpty = false) (f_s2' : ¬ (s2.toList = [])) (cT : CK_ 183 #[.agg (exC false s1 d1 e1), .agg (exC true s2 d2 e2)] (.tuple #[.string a, .string b, .int .i64 e3, .int .i64 0])) (cM : CK_ 171 #[.string d1, .string d2] (.tuple #[.string c, .int .i64 0])) (z : Int) (cC : CK_ 57 #[.string a, .string b] (.int .i64 z)) (q : decide (0 ≤ z) = true) (cS : CK_ 184 #[.string a, .string b] (.tuple #[.string s, .int .i64 0])) (cK : CK_ 63 #[.bool false, .string s, .string c, .int .i64 e3] (.tuple #[.agg (exC n3 s3 d3 er), .int .i64 0]))  :
  CR_ 107 #[.agg (exC false s1 d1 e1), .agg (exC true s2 d2 e2)] w (.tuple #[.agg (exC n3 s3 d3 er), .int .i64 0]) := by
 have H := Own.start w
 go_enter Tryz.func107, Tryz.ntmps107
 exact walk2
theorem r6Add_fn (n3 : Bool) (s1 d1 s2 d2 a b a2 b2 c s s3 d3 : ByteArray) (e1 e2 e3 er : Int) (w : World) (h1 : -400000 ≤ e1) (h2 : e1 ≤ 400000) (h3 : -400000 ≤ e2) (h4 : e2 ≤ 400000) (f_s1 : s1.toList.isEmpty = false) (f_s1' : ¬ (s1.toList = [])) (f_s2 : s2.toList.isEmpty = false) (f_s2' : ¬ (s2.toList = [])) (cT : CK_ 183 #[.agg (exC false s1 d1 e1), .agg (exC true s2 d2 e2)] (.tuple #[.string a, .string b, .int .i64 e3, .int .i64 0])) (cM : CK_ 171 #[.string d1, .string d2] (.tuple #[.string c, .int .i64 0])) (z : Int) (cC : CK_ 57 #[.string a, .string b] (.int .i64 z)) (q : decide (0 ≤ z) = false) (cS : CK_ 184 #[.string b, .string a] (.tuple #[.string s, .int .i64 0])) (cK : CK_ 63 #[.bool true, .string s, .string c, .int .i64 e3] (.tuple #[.agg (exC n3 s3 d3 er), .int .i64 0]))  :
  CR_ 107 #[.agg (exC false s1 d1 e1), .agg (exC true s2 d2 e2)] w (.tuple #[.agg (exC n3 s3 d3 er), .int .i64 0]) := by
 have H := Own.start w
 go_enter Tryz.func107, Tryz.ntmps107
 exact walk2
end Go.Proofs.YtgmhmpflmgfcdaaGreatDoor
