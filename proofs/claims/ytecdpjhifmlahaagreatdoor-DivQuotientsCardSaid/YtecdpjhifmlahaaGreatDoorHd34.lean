/- Part 34 of what is proved: Dlj, Rd, Unq, Unp7, Grd, Sht, Pck, Opb. -/
import Derived.Outline
import Derived.Test.YtecdpjhifmlahaaGreatDoorHd1
import Derived.Test.YtecdpjhifmlahaaGreatDoorHd2
import Derived.Test.YtecdpjhifmlahaaGreatDoorHd3
import Derived.Test.YtecdpjhifmlahaaGreatDoorHd4
import Derived.Test.YtecdpjhifmlahaaGreatDoorHd5
import Derived.Test.YtecdpjhifmlahaaGreatDoorHd6
import Derived.Test.YtecdpjhifmlahaaGreatDoorHd33
set_option linter.unusedSimpArgs false
set_option linter.unusedVariables false
set_option linter.unnecessarySimpa false
set_option maxRecDepth 100000
set_option maxHeartbeats 1600000
namespace Go.Proofs.YtecdpjhifmlahaaGreatDoor
open Go.RowKit Go.Proofs.YtecdpjhifmlahaaGreatDoorW.PrintWords Go.Proofs.YtecdpjhifmlahaaGreatDoor.PDivQuotients
def flA (r : Nat × Nat) : Value := .tuple #[BV r.1, .int .u8 r.2]
theorem src_topQ (root : Bool) (n d : Nat) (e : Int) (hd : 0 < d) (hn : n ≠ 0) : Top (srcX root n d e hd) (topR root (topX n d + e)) := by
  cases root
  · exact rat_top n d e hn hd
  · exact root_top _ _ (rat_top n d e hn hd)
theorem numX_zero (g : Nat) (h : g = 0) : numX g 1 = 0 := by unfold numX; rw [if_pos h]
theorem lenN_div_le (g k : Nat) : lenN (g / k) ≤ lenN g := len_monoQ _ _ (Nat.div_le_self g k)
theorem r9deliver_any (f m : Nat) (neg root : Bool) (n d : Nat) (e : Int) (w : World) (hf : f < 4) (hm : m < 5) (h0 : n ≠ 0) (hn : lenN n ≤ 100000) (hd : lenN d ≤ 20000) (hd0 : 0 < d) (he : -200000 ≤ e) (he2 : e ≤ 200000) :
    Calls Tryz.prog 165 #[.int .u8 f, .int .u8 m, exV neg n d e, .bool root] w fun e' w' => e' = .returned (flA (deliverR (srcX root n d e hd0) f m neg (topR root (topX n d + e)))) ∧ Below w.heap.size w w' := by
  have hnb : nb n ≤ 16384 := by unfold nb; omega
  have hdb : nb d ≤ 16384 := by unfold nb; omega
  obtain ⟨p1, p2, -, -, -, -⟩ := formB f hf
  obtain ⟨-, -, -, k4, k5, k6, -, -⟩ := formK f hf
  have cT := fun w => r9top_any neg root n d e w h0 hnb hdb (by omega) (by omega)
  have cM := fun w => r7Emin_any f w
  have cP := fun w => r7Precision_any f w
  have cX := fun w => r7Emax_any f w
  have cO := fun w => r9Over_any f m neg w hf hm
  have cY := fun w => r9tiny_any f m neg root n d e w hf hm h0 hn hd hd0 he he2
  have ht := topX_bound n d
  have hTop := src_topQ root n d e hd0 h0
  obtain ⟨T, hT⟩ : ∃ T, topR root (topX n d + e) = T := ⟨_, rfl⟩
  rw [hT] at hTop ⊢
  simp only [hT] at cT cY
  have hTb : -2000000 ≤ T ∧ T ≤ 2000000 := by rw [← hT]; unfold topR; split <;> omega
  have gb := grid_bounds (srcX root n d e hd0) f m neg T hf hTop
  unfold deliverR
  by_cases h1 : (eF f : Int) < T
  · rw [if_pos h1]
    exact r9Dl_x _ f m (pF f) (eF f) neg root _ _ e T (eminI f) w p2 hTb.1 hTb.2 (by omega) (by omega) cT cP cX (decide_eq_true h1) cO
  rw [if_neg h1]
  by_cases h2 : T < eminI f
  · have ha : atN f T = (eminI f - (pF f : Int) + 1) := by unfold atN; omega
    rw [ha] at gb ⊢
    have g1 : root = false → e - (eminI f - (pF f : Int) + 1) ≤ 29990 := by
      rintro rfl
      have hT' : topX n d + e = T := hT
      omega
    have g2 : root = true → e - 2 * (eminI f - (pF f : Int) + 1) ≤ 29990 := by
      rintro rfl
      have hT' : (topX n d + e) / 2 = T := hT
      omega
    have hS := src_nb root n d e (eminI f - (pF f : Int) + 1) hd0 hn g1 g2
    have cF := fun w => r9find_any neg root n d e (eminI f - (pF f : Int) + 1) w hnb hdb hd0 (by omega) (by omega) (by omega) (by omega) hn g1 g2
    have cK := fun w => r9taken_any (srcX root n d e hd0) m neg (eminI f - (pF f : Int) + 1) w hm hS
    have hx : (gridR (srcX root n d e hd0) m neg (eminI f - (pF f : Int) + 1)).2 = (srcX root n d e hd0).ex (eminI f - (pF f : Int) + 1) := rfl
    rw [hx]
    obtain ⟨g, hg⟩ : ∃ g, (gridR (srcX root n d e hd0) m neg (eminI f - (pF f : Int) + 1)).1 = g := ⟨_, rfl⟩
    rw [hg] at gb ⊢
    simp only [hg] at cK
    have hgl : lenN g ≤ 114 := (lenN_le g 114).2 (Nat.lt_of_le_of_lt gb.1 (Nat.pow_lt_pow_right (by decide) (by omega)))
    have hgb : nb g ≤ 16384 := by unfold nb; omega
    have cA := fun w => r6Make_any neg g 1 (eminI f - (pF f : Int) + 1) w hgb (by decide) (by decide) (by omega) (by omega)
    rw [strB_one] at cA
    by_cases h3 : g = 0
    · obtain ⟨s1, s2⟩ := str_noneO (numX g 1) (numX_zero g h3)
      rw [if_pos h3]
      exact r9Dl_nt 0 _ 0 _ _ _ _ _ _ _ _ _ _ f m (pF f) (eF f) neg root _ _ e T (eminI f) w p2 hTb.1 hTb.2 (by omega) (by omega) cT cP cX (decide_eq_false h1) cM (decide_eq_true h2) cF cK cA s1 s2 (fun w => r7Zero_any f neg w hf)
    obtain ⟨x1, x2, x3⟩ := numX_one g h3 (eminI f - (pF f : Int) + 1)
    obtain ⟨-, -, l3⟩ := low_split g h3
    have x4 : negX' neg g = neg := by unfold negX'; rw [if_neg h3]
    rw [x1, x2, x3, x4] at cA
    obtain ⟨s1, s2⟩ := str_fullO (g / 2 ^ lowZ g) l3
    have hlz := lowZ_lt g h3
    have cB := fun w => r8Of_any f neg (g / 2 ^ lowZ g) ((eminI f - (pF f : Int) + 1) + lowZ g) w hf l3 (Nat.le_trans (lenN_div_le g _) (by omega)) (by omega) (by omega)
    have ho := ofR_enc f neg g (eminI f - (pF f : Int) + 1) hf h3 gb.1 gb.2.2 (by rcases gb.2.1 with h | h; exact Or.inl h; exact Or.inr h)
    rw [ho] at cB
    rw [if_neg h3]
    by_cases h4 : (eF f : Int) < lenN g - 1 + (eminI f - (pF f : Int) + 1)
    · rw [if_pos h4] at cB ⊢
      exact r9Dl_ot _ 0 _ _ _ _ _ _ _ _ _ _ _ f m (pF f) (eF f) neg root _ _ e T (eminI f) w p2 hTb.1 hTb.2 (by omega) (by omega) cT cP cX (decide_eq_false h1) cM (decide_eq_true h2) cF cK cA s1 s2 cB cO
    rw [if_neg h4] at cB ⊢
    cases hE : (srcX root n d e hd0).ex (eminI f - (pF f : Int) + 1)
    · rw [hE] at cF cK
      rw [if_neg (by decide)]
      cases hY : tinyR (srcX root n d e hd0) f m neg T
      · rw [hY] at cY
        exact r9Dl_it 0 0 _ _ _ _ _ _ _ _ _ _ f m (pF f) (eF f) neg root _ _ e T (eminI f) w p2 hTb.1 hTb.2 (by omega) (by omega) cT cP cX (decide_eq_false h1) cM (decide_eq_true h2) cF cK cA s1 s2 cB cY
      · rw [hY] at cY
        exact r9Dl_ut 0 0 _ _ _ _ _ _ _ _ _ _ f m (pF f) (eF f) neg root _ _ e T (eminI f) w p2 hTb.1 hTb.2 (by omega) (by omega) cT cP cX (decide_eq_false h1) cM (decide_eq_true h2) cF cK cA s1 s2 cB cY
    · rw [hE] at cF cK
      rw [if_pos rfl]
      exact r9Dl_et 0 0 _ _ _ _ _ _ _ _ _ _ f m (pF f) (eF f) neg root _ _ e T (eminI f) w p2 hTb.1 hTb.2 (by omega) (by omega) cT cP cX (decide_eq_false h1) cM (decide_eq_true h2) cF cK cA s1 s2 cB
  · have ha : atN f T = (T - (pF f : Int) + 1) := by unfold atN; omega
    rw [ha] at gb ⊢
    have g1 : root = false → e - (T - (pF f : Int) + 1) ≤ 29990 := by
      rintro rfl
      have hT' : topX n d + e = T := hT
      omega
    have g2 : root = true → e - 2 * (T - (pF f : Int) + 1) ≤ 29990 := by
      rintro rfl
      have hT' : (topX n d + e) / 2 = T := hT
      omega
    have hS := src_nb root n d e (T - (pF f : Int) + 1) hd0 hn g1 g2
    have cF := fun w => r9find_any neg root n d e (T - (pF f : Int) + 1) w hnb hdb hd0 (by omega) (by omega) (by omega) (by omega) hn g1 g2
    have cK := fun w => r9taken_any (srcX root n d e hd0) m neg (T - (pF f : Int) + 1) w hm hS
    have hx : (gridR (srcX root n d e hd0) m neg (T - (pF f : Int) + 1)).2 = (srcX root n d e hd0).ex (T - (pF f : Int) + 1) := rfl
    rw [hx]
    obtain ⟨g, hg⟩ : ∃ g, (gridR (srcX root n d e hd0) m neg (T - (pF f : Int) + 1)).1 = g := ⟨_, rfl⟩
    rw [hg] at gb ⊢
    simp only [hg] at cK
    have hgl : lenN g ≤ 114 := (lenN_le g 114).2 (Nat.lt_of_le_of_lt gb.1 (Nat.pow_lt_pow_right (by decide) (by omega)))
    have hgb : nb g ≤ 16384 := by unfold nb; omega
    have cA := fun w => r6Make_any neg g 1 (T - (pF f : Int) + 1) w hgb (by decide) (by decide) (by omega) (by omega)
    rw [strB_one] at cA
    by_cases h3 : g = 0
    · obtain ⟨s1, s2⟩ := str_noneO (numX g 1) (numX_zero g h3)
      rw [if_pos h3]
      exact r9Dl_nf 0 _ 0 _ _ _ _ _ _ _ _ _ _ f m (pF f) (eF f) neg root _ _ e T (eminI f) w p2 hTb.1 hTb.2 (by omega) (by omega) cT cP cX (decide_eq_false h1) cM (decide_eq_false h2) cF cK cA s1 s2 (fun w => r7Zero_any f neg w hf)
    obtain ⟨x1, x2, x3⟩ := numX_one g h3 (T - (pF f : Int) + 1)
    obtain ⟨-, -, l3⟩ := low_split g h3
    have x4 : negX' neg g = neg := by unfold negX'; rw [if_neg h3]
    rw [x1, x2, x3, x4] at cA
    obtain ⟨s1, s2⟩ := str_fullO (g / 2 ^ lowZ g) l3
    have hlz := lowZ_lt g h3
    have cB := fun w => r8Of_any f neg (g / 2 ^ lowZ g) ((T - (pF f : Int) + 1) + lowZ g) w hf l3 (Nat.le_trans (lenN_div_le g _) (by omega)) (by omega) (by omega)
    have ho := ofR_enc f neg g (T - (pF f : Int) + 1) hf h3 gb.1 gb.2.2 (by rcases gb.2.1 with h | h; exact Or.inl h; exact Or.inr h)
    rw [ho] at cB
    rw [if_neg h3]
    by_cases h4 : (eF f : Int) < lenN g - 1 + (T - (pF f : Int) + 1)
    · rw [if_pos h4] at cB ⊢
      exact r9Dl_of _ 0 _ _ _ _ _ _ _ _ _ _ _ f m (pF f) (eF f) neg root _ _ e T (eminI f) w p2 hTb.1 hTb.2 (by omega) (by omega) cT cP cX (decide_eq_false h1) cM (decide_eq_false h2) cF cK cA s1 s2 cB cO
    rw [if_neg h4] at cB ⊢
    cases hE : (srcX root n d e hd0).ex (T - (pF f : Int) + 1)
    · rw [hE] at cF cK
      rw [if_neg (by decide)]
      cases hY : tinyR (srcX root n d e hd0) f m neg T
      · rw [hY] at cY
        exact r9Dl_if 0 0 _ _ _ _ _ _ _ _ _ _ f m (pF f) (eF f) neg root _ _ e T (eminI f) w p2 hTb.1 hTb.2 (by omega) (by omega) cT cP cX (decide_eq_false h1) cM (decide_eq_false h2) cF cK cA s1 s2 cB cY
      · rw [hY] at cY
        exact r9Dl_uf 0 0 _ _ _ _ _ _ _ _ _ _ f m (pF f) (eF f) neg root _ _ e T (eminI f) w p2 hTb.1 hTb.2 (by omega) (by omega) cT cP cX (decide_eq_false h1) cM (decide_eq_false h2) cF cK cA s1 s2 cB cY
    · rw [hE] at cF cK
      rw [if_pos rfl]
      exact r9Dl_ef 0 0 _ _ _ _ _ _ _ _ _ _ f m (pF f) (eF f) neg root _ _ e T (eminI f) w p2 hTb.1 hTb.2 (by omega) (by omega) cT cP cX (decide_eq_false h1) cM (decide_eq_false h2) cF cK cA s1 s2 cB
open Go.RowKit Go.Proofs.YtecdpjhifmlahaaGreatDoorW.PrintWords Go.Proofs.YtecdpjhifmlahaaGreatDoor.PDivQuotients
theorem r6odd_any (v : Nat) (w : World) (hv : nb v ≤ 100000) : Calls Tryz.prog 230 #[.string (strB v)] w fun e' w' => e' = .returned (.bool (decide (v % 2 = 1))) ∧ Below w.heap.size w w' :=
  (abacusref06_odd.calls _ _ w (odd_strB v hv)).mono fun _ _ h => ⟨h.1, h.2.below⟩
structure OneF (n d : Nat) (e : Int) : Prop where
  num : n ≠ 0
  odd : n % 2 = 1
  den : d % 2 = 1
  gcd : Nat.gcd n d = 1
  len : lenN n ≤ 60000
  lend : lenN d ≤ 20000
  lo : -200000 ≤ e
  hi : e ≤ 200000
theorem oneF (n d : Nat) (e : Int) (hn : n ≠ 0) (hd : d ≠ 0) (h1 : lenN n ≤ 19000) (h2 : lenN d ≤ 19000) (h3 : -150000 ≤ e) (h4 : e ≤ 150000) : OneF (numX n d) (denX n d) (expX n d e) := by
  obtain ⟨o1, o2, o3⟩ := mkx_odd n d hn hd
  obtain ⟨-, -, x3, -⟩ := mkx_parts n d hn hd
  have a1 : lenN (numX n d) ≤ lenN n := by
    unfold numX; rw [if_neg hn]
    exact Nat.le_trans (lenN_div_le _ _) (lenN_div_le _ _)
  have a2 : lenN (denX n d) ≤ lenN d := by
    unfold denX; rw [if_neg hn]
    exact Nat.le_trans (lenN_div_le _ _) (lenN_div_le _ _)
  have z1 := lowZ_lt n hn
  have z2 := lowZ_lt d hd
  have a3 : expX n d e = e + lowZ n - lowZ d := by unfold expX; rw [if_neg hn]
  exact ⟨x3, o1, o2, o3, by omega, by omega, by rw [a3]; omega, by rw [a3]; omega⟩
theorem r6May_any (neg : Bool) (n d : Nat) (e : Int) (w : World) (h : OneF n d e) :
    Calls Tryz.prog 214 #[exV neg n d e] w fun e' w' => e' = .returned (.bool true) ∧ Below w.heap.size w w' := by
  have hn : nb n ≤ 16384 := by have := h.len; unfold nb; omega
  have hd : nb d ≤ 16384 := by have := h.lend; unfold nb; omega
  have l1 := h.lo
  have l2 := h.hi
  obtain ⟨f1, f1'⟩ := strE_full n h.num
  obtain ⟨g1, g1'⟩ := strE_one (Nat.gcd n d) h.gcd
  have cO := fun w => r6odd_any d w (by omega)
  have co := fun w => r6odd_any n w (by omega)
  rw [decide_eq_true h.den] at cO
  rw [decide_eq_true h.odd] at co
  exact r6May_w neg _ _ _ e w (by omega) (by omega) (decide_eq_false (by omega)) (decide_eq_false (by omega)) (fun w => r5May_any n w hn) (fun w => r5May_any d w hd) f1 f1' cO co (fun w => r5Gcd_any n d w hn hd) g1 g1'
theorem r9Fault_any (f m : Nat) (neg : Bool) (n d : Nat) (e : Int) (w : World) (hf : f < 4) (hm : m < 5) (h : OneF n d e) :
    Calls Tryz.prog 164 #[.int .u8 f, .int .u8 m, exV neg n d e] w fun e' w' => e' = .returned (.int .i64 0) ∧ Below w.heap.size w w' := by
  have hn : nb n ≤ 8192 := by have := h.len; unfold nb; omega
  have hd : nb d ≤ 8192 := by have := h.lend; unfold nb; omega
  have cR := fun w => r7Right_any f w
  have cM := fun w => r7RightMode_any m w
  rw [decide_eq_true hf] at cR
  rw [decide_eq_true hm] at cM
  exact r9Fault_w f m neg _ _ e w (decide_eq_false (by rw [size_strB]; omega)) (decide_eq_false (by rw [size_strB]; omega)) cR cM (fun w => r6May_any neg n d e w h)
theorem r9Round_any (f m : Nat) (neg : Bool) (n d : Nat) (e : Int) (w : World) (hf : f < 4) (hm : m < 5) (h : OneF n d e) :
    Calls Tryz.prog 64 #[.int .u8 f, .int .u8 m, exV neg n d e] w fun e' w' => e' = .returned (.tuple #[BV (rndX f m neg n d e).1, .int .u8 ((rndX f m neg n d e).2 : Nat), .int .i64 0]) ∧ Below w.heap.size w w' := by
  have hd0 : 0 < d := by have := h.den; omega
  obtain ⟨f1, f1'⟩ := strE_full n h.num
  have cD := fun w => r9deliver_any f m neg false n d e w hf hm h.num (by have := h.len; omega) h.lend hd0 h.lo h.hi
  rw [rnd_src f m neg n d e hd0]
  exact r9Round_w f m _ _ _ _ e neg w (fun w => r9Fault_any f m neg n d e w hf hm h) f1 f1' cD
open Go.RowKit
def partsQ : Array (Nat × Nat) := #[(0, 1), (1, 6), (7, 1), (8, 6)]
theorem places_partsQ (w : World) : ∃ fs, Tryz.prog.underlying 103 = some (.struct fs) ∧ (fs.mapM fun f => do pure (f.offset, ← sizeOf f.type) : Sem (Array (Nat × Nat))).run Tryz.prog w = .ok partsQ w := by
  refine ⟨_, Tryz.underlying103, ?_⟩
  unfold partsQ
  go_simp
theorem partsQ_0 (c s : Nat) (x : Int) (f c' : Nat) (rest : List (Nat × Value)) : Instr.fill (partsQ[·]?) (parts c s x f) ((0, .int .u8 c') :: rest) = Instr.fill (partsQ[·]?) (parts c' s x f) rest := fill_step _ _ 0 0 1 _ _ rfl rfl (show 0 + 1 ≤ 14 by decide)
theorem partsQ_c (c : Nat) (w : World) : (Instr.build 103 #[(0, .int .u8 c)]).run Tryz.prog w = .ok (PV c 0 0 0) w := by
  obtain ⟨fs, hu, hp⟩ := places_partsQ w
  exact run_build rP hu hp _ _ (by show Instr.fill _ _ [_] = _; rw [partsQ_0]; rfl)
theorem wp_bldQ {P : Program} {op : Oper} {a : Act} {Q : Exit → Act → World → Prop} {ops : Array Oper} {rest : List Oper} {w : World} {t : TypeId} {i : Nat} {x : Operand} (hw : Region.wanted op (yielded ops a.tmps) = true) (ho : op.op = .build t #[(i, x)]) {u1 : Value} (h1 : a.eval x = u1) {v : Value}
    (hv : ∀ w, (Instr.build t #[(i, u1)]).run P w = .ok v w) (h : wpList P ops Q rest (a.put op.dst v) w) : wpList P ops Q (op :: rest) a w :=
  wp_bld hw ho (by simp [h1]) hv h
theorem set_pwQ (a b : Nat) (x : Int) (d c s : Nat) (y : Int) (f : Nat) : setRow (parts a b x d) 0 (parts c s y f).toList = parts c s y f := set_all _ _ rfl
theorem set_limbsQ (a b : Nat) : setRow (limbs a) 0 (limbs b).toList = limbs b := set_all _ _ rfl
theorem set_leadQ (t i s : Nat) (ht : t < 2 ^ (64 * i + s)) (hs : s < 64) (hi : i < 6) : setRow (limbs t) i (#[.int .u64 (Go.bits .or .u64 (limb t i) (IntKind.u64.wrap (2 ^ s)))] : Array Value).toList = limbs (t + 2 ^ (64 * i + s)) := limbs_top t i s ht hs hi
theorem kindUnpack_0 (f b e t p : Nat) (neg : Bool) (w : World) (hT : Tab w) (cT : CK_ 125 #[.int .u8 f, BV b] (.bool true)) (cP : CK_ 102 #[.int .u8 f] (.int .i64 (p : Nat))) (cF : CT_ 167 #[.int .u8 f, BV b] (.tuple #[.bool neg, .int .i64 (e : Nat), W t])) (cC : CT_ 137 #[.int .u8 f, BV b] (.int .u8 0))  :
    Calls Tryz.prog 71 #[.int .u8 f, BV b] w fun e' w' => e' = .returned (.tuple #[PV 0 0 0 0, .int .i64 0]) ∧ Below w.heap.size w w' := by
  have H := Own.start w
  have HT := Lib.hid hT
  clear hT
  go_enter Tryz.func71, Tryz.ntmps71
  exact walk1
theorem kindUnpack_3 (f b e t p : Nat) (neg : Bool) (w : World) (hT : Tab w) (cT : CK_ 125 #[.int .u8 f, BV b] (.bool true)) (cP : CK_ 102 #[.int .u8 f] (.int .i64 (p : Nat))) (cF : CT_ 167 #[.int .u8 f, BV b] (.tuple #[.bool neg, .int .i64 (e : Nat), W t])) (cC : CT_ 137 #[.int .u8 f, BV b] (.int .u8 3))  :
    Calls Tryz.prog 71 #[.int .u8 f, BV b] w fun e' w' => e' = .returned (.tuple #[PV 3 0 0 0, .int .i64 0]) ∧ Below w.heap.size w w' := by
  have H := Own.start w
  have HT := Lib.hid hT
  clear hT
  go_enter Tryz.func71, Tryz.ntmps71
  exact walk1
theorem kindUnpack_4 (f b e t p : Nat) (neg : Bool) (w : World) (hT : Tab w) (cT : CK_ 125 #[.int .u8 f, BV b] (.bool true)) (cP : CK_ 102 #[.int .u8 f] (.int .i64 (p : Nat))) (cF : CT_ 167 #[.int .u8 f, BV b] (.tuple #[.bool neg, .int .i64 (e : Nat), W t])) (cC : CT_ 137 #[.int .u8 f, BV b] (.int .u8 4))  :
    Calls Tryz.prog 71 #[.int .u8 f, BV b] w fun e' w' => e' = .returned (.tuple #[PV 4 0 0 0, .int .i64 0]) ∧ Below w.heap.size w w' := by
  have H := Own.start w
  have HT := Lib.hid hT
  clear hT
  go_enter Tryz.func71, Tryz.ntmps71
  exact walk1
theorem kindUnpack_7 (f b e t p : Nat) (neg : Bool) (w : World) (hT : Tab w) (cT : CK_ 125 #[.int .u8 f, BV b] (.bool true)) (cP : CK_ 102 #[.int .u8 f] (.int .i64 (p : Nat))) (cF : CT_ 167 #[.int .u8 f, BV b] (.tuple #[.bool neg, .int .i64 (e : Nat), W t])) (cC : CT_ 137 #[.int .u8 f, BV b] (.int .u8 7))  :
    Calls Tryz.prog 71 #[.int .u8 f, BV b] w fun e' w' => e' = .returned (.tuple #[PV 7 0 0 0, .int .i64 0]) ∧ Below w.heap.size w w' := by
  have H := Own.start w
  have HT := Lib.hid hT
  clear hT
  go_enter Tryz.func71, Tryz.ntmps71
  exact walk1
theorem kindUnpack_8 (f b e t p : Nat) (neg : Bool) (w : World) (hT : Tab w) (cT : CK_ 125 #[.int .u8 f, BV b] (.bool true)) (cP : CK_ 102 #[.int .u8 f] (.int .i64 (p : Nat))) (cF : CT_ 167 #[.int .u8 f, BV b] (.tuple #[.bool neg, .int .i64 (e : Nat), W t])) (cC : CT_ 137 #[.int .u8 f, BV b] (.int .u8 8))  :
    Calls Tryz.prog 71 #[.int .u8 f, BV b] w fun e' w' => e' = .returned (.tuple #[PV 8 0 0 t, .int .i64 0]) ∧ Below w.heap.size w w' := by
  have H := Own.start w
  have HT := Lib.hid hT
  clear hT
  go_enter Tryz.func71, Tryz.ntmps71
  exact walk1
theorem kindUnpack_9 (f b e t p : Nat) (neg : Bool) (w : World) (hT : Tab w) (cT : CK_ 125 #[.int .u8 f, BV b] (.bool true)) (cP : CK_ 102 #[.int .u8 f] (.int .i64 (p : Nat))) (cF : CT_ 167 #[.int .u8 f, BV b] (.tuple #[.bool neg, .int .i64 (e : Nat), W t])) (cC : CT_ 137 #[.int .u8 f, BV b] (.int .u8 9))  :
    Calls Tryz.prog 71 #[.int .u8 f, BV b] w fun e' w' => e' = .returned (.tuple #[PV 9 0 0 t, .int .i64 0]) ∧ Below w.heap.size w w' := by
  have H := Own.start w
  have HT := Lib.hid hT
  clear hT
  go_enter Tryz.func71, Tryz.ntmps71
  exact walk1
theorem kindUnpack_2 (f b e t p : Nat) (em : Int) (neg : Bool) (w : World) (hT : Tab w) (he : e ≤ 32767) (hp : p ≤ 113) (hm1 : -16382 ≤ em) (hm2 : em ≤ 0) (cM : CK_ 154 #[.int .u8 f] (.int .i64 em)) (cT : CK_ 125 #[.int .u8 f, BV b] (.bool true)) (cP : CK_ 102 #[.int .u8 f] (.int .i64 (p : Nat))) (cF : CT_ 167 #[.int .u8 f, BV b] (.tuple #[.bool neg, .int .i64 (e : Nat), W t])) (cC : CT_ 137 #[.int .u8 f, BV b] (.int .u8 2))  :
    Calls Tryz.prog 71 #[.int .u8 f, BV b] w fun e' w' => e' = .returned (.tuple #[PV 2 t ((e : Int) + em - (p : Int) + 1) 0, .int .i64 0]) ∧ Below w.heap.size w w' := by
  have H := Own.start w
  have HT := Lib.hid hT
  clear hT
  go_enter Tryz.func71, Tryz.ntmps71
  exact walk1
theorem kindUnpack_5 (f b e t p : Nat) (em : Int) (neg : Bool) (w : World) (hT : Tab w) (he : e ≤ 32767) (hp : p ≤ 113) (hm1 : -16382 ≤ em) (hm2 : em ≤ 0) (cM : CK_ 154 #[.int .u8 f] (.int .i64 em)) (cT : CK_ 125 #[.int .u8 f, BV b] (.bool true)) (cP : CK_ 102 #[.int .u8 f] (.int .i64 (p : Nat))) (cF : CT_ 167 #[.int .u8 f, BV b] (.tuple #[.bool neg, .int .i64 (e : Nat), W t])) (cC : CT_ 137 #[.int .u8 f, BV b] (.int .u8 5))  :
    Calls Tryz.prog 71 #[.int .u8 f, BV b] w fun e' w' => e' = .returned (.tuple #[PV 5 t ((e : Int) + em - (p : Int) + 1) 0, .int .i64 0]) ∧ Below w.heap.size w w' := by
  have H := Own.start w
  have HT := Lib.hid hT
  clear hT
  go_enter Tryz.func71, Tryz.ntmps71
  exact walk1
theorem kindUnpack_1_0 (f b e t p : Nat) (em : Int) (neg : Bool) (w : World) (hT : Tab w) (s : Nat) (he : e ≤ 32767) (he1 : 1 ≤ e) (hs64 : s < 64) (htq : t < 2 ^ (64 * 0 + s)) (hqi : ((p : Int) - 1) / 64 = 0) (hqs : ((p : Int) - 1) % 64 = (s : Int)) (hp1 : 11 ≤ p) (hp : p ≤ 113) (hm1 : -16382 ≤ em) (hm2 : em ≤ 0) (cM : CK_ 154 #[.int .u8 f] (.int .i64 em)) (cT : CK_ 125 #[.int .u8 f, BV b] (.bool true)) (cP : CK_ 102 #[.int .u8 f] (.int .i64 (p : Nat))) (cF : CT_ 167 #[.int .u8 f, BV b] (.tuple #[.bool neg, .int .i64 (e : Nat), W t])) (cC : CT_ 137 #[.int .u8 f, BV b] (.int .u8 1))  :
    Calls Tryz.prog 71 #[.int .u8 f, BV b] w fun e' w' => e' = .returned (.tuple #[PV 1 (t + 2 ^ (64 * 0 + s)) ((e : Int) - 1 + em - (p : Int) + 1) 0, .int .i64 0]) ∧ Below w.heap.size w w' := by
  have H := Own.start w
  have HT := Lib.hid hT
  clear hT
  have he1' : (1 : Int) ≤ (e : Int) := by omega
  have he2' : (e : Int) ≤ 32767 := by omega
  have hp2' : (p : Int) ≤ 113 := by omega
  have hp3' : (11 : Int) ≤ (p : Int) := by omega
  have HS := Lib.hid hs64
  have HTQ := Lib.hid htq
  have s64 : (s : Int) < 64 := by omega
  clear htq hs64
  go_enter Tryz.func71, Tryz.ntmps71
  exact walk1
theorem kindUnpack_6_0 (f b e t p : Nat) (em : Int) (neg : Bool) (w : World) (hT : Tab w) (s : Nat) (he : e ≤ 32767) (he1 : 1 ≤ e) (hs64 : s < 64) (htq : t < 2 ^ (64 * 0 + s)) (hqi : ((p : Int) - 1) / 64 = 0) (hqs : ((p : Int) - 1) % 64 = (s : Int)) (hp1 : 11 ≤ p) (hp : p ≤ 113) (hm1 : -16382 ≤ em) (hm2 : em ≤ 0) (cM : CK_ 154 #[.int .u8 f] (.int .i64 em)) (cT : CK_ 125 #[.int .u8 f, BV b] (.bool true)) (cP : CK_ 102 #[.int .u8 f] (.int .i64 (p : Nat))) (cF : CT_ 167 #[.int .u8 f, BV b] (.tuple #[.bool neg, .int .i64 (e : Nat), W t])) (cC : CT_ 137 #[.int .u8 f, BV b] (.int .u8 6))  :
    Calls Tryz.prog 71 #[.int .u8 f, BV b] w fun e' w' => e' = .returned (.tuple #[PV 6 (t + 2 ^ (64 * 0 + s)) ((e : Int) - 1 + em - (p : Int) + 1) 0, .int .i64 0]) ∧ Below w.heap.size w w' := by
  have H := Own.start w
  have HT := Lib.hid hT
  clear hT
  have he1' : (1 : Int) ≤ (e : Int) := by omega
  have he2' : (e : Int) ≤ 32767 := by omega
  have hp2' : (p : Int) ≤ 113 := by omega
  have hp3' : (11 : Int) ≤ (p : Int) := by omega
  have HS := Lib.hid hs64
  have HTQ := Lib.hid htq
  have s64 : (s : Int) < 64 := by omega
  clear htq hs64
  go_enter Tryz.func71, Tryz.ntmps71
  exact walk1
theorem kindUnpack_1_1 (f b e t p : Nat) (em : Int) (neg : Bool) (w : World) (hT : Tab w) (s : Nat) (he : e ≤ 32767) (he1 : 1 ≤ e) (hs64 : s < 64) (htq : t < 2 ^ (64 * 1 + s)) (hqi : ((p : Int) - 1) / 64 = 1) (hqs : ((p : Int) - 1) % 64 = (s : Int)) (hp1 : 11 ≤ p) (hp : p ≤ 113) (hm1 : -16382 ≤ em) (hm2 : em ≤ 0) (cM : CK_ 154 #[.int .u8 f] (.int .i64 em)) (cT : CK_ 125 #[.int .u8 f, BV b] (.bool true)) (cP : CK_ 102 #[.int .u8 f] (.int .i64 (p : Nat))) (cF : CT_ 167 #[.int .u8 f, BV b] (.tuple #[.bool neg, .int .i64 (e : Nat), W t])) (cC : CT_ 137 #[.int .u8 f, BV b] (.int .u8 1))  :
    Calls Tryz.prog 71 #[.int .u8 f, BV b] w fun e' w' => e' = .returned (.tuple #[PV 1 (t + 2 ^ (64 * 1 + s)) ((e : Int) - 1 + em - (p : Int) + 1) 0, .int .i64 0]) ∧ Below w.heap.size w w' := by
  have H := Own.start w
  have HT := Lib.hid hT
  clear hT
  have he1' : (1 : Int) ≤ (e : Int) := by omega
  have he2' : (e : Int) ≤ 32767 := by omega
  have hp2' : (p : Int) ≤ 113 := by omega
  have hp3' : (11 : Int) ≤ (p : Int) := by omega
  have HS := Lib.hid hs64
  have HTQ := Lib.hid htq
  have s64 : (s : Int) < 64 := by omega
  clear htq hs64
  go_enter Tryz.func71, Tryz.ntmps71
  exact walk2
theorem kindUnpack_6_1 (f b e t p : Nat) (em : Int) (neg : Bool) (w : World) (hT : Tab w) (s : Nat) (he : e ≤ 32767) (he1 : 1 ≤ e) (hs64 : s < 64) (htq : t < 2 ^ (64 * 1 + s)) (hqi : ((p : Int) - 1) / 64 = 1) (hqs : ((p : Int) - 1) % 64 = (s : Int)) (hp1 : 11 ≤ p) (hp : p ≤ 113) (hm1 : -16382 ≤ em) (hm2 : em ≤ 0) (cM : CK_ 154 #[.int .u8 f] (.int .i64 em)) (cT : CK_ 125 #[.int .u8 f, BV b] (.bool true)) (cP : CK_ 102 #[.int .u8 f] (.int .i64 (p : Nat))) (cF : CT_ 167 #[.int .u8 f, BV b] (.tuple #[.bool neg, .int .i64 (e : Nat), W t])) (cC : CT_ 137 #[.int .u8 f, BV b] (.int .u8 6))  :
    Calls Tryz.prog 71 #[.int .u8 f, BV b] w fun e' w' => e' = .returned (.tuple #[PV 6 (t + 2 ^ (64 * 1 + s)) ((e : Int) - 1 + em - (p : Int) + 1) 0, .int .i64 0]) ∧ Below w.heap.size w w' := by
  have H := Own.start w
  have HT := Lib.hid hT
  clear hT
  have he1' : (1 : Int) ≤ (e : Int) := by omega
  have he2' : (e : Int) ≤ 32767 := by omega
  have hp2' : (p : Int) ≤ 113 := by omega
  have hp3' : (11 : Int) ≤ (p : Int) := by omega
  have HS := Lib.hid hs64
  have HTQ := Lib.hid htq
  have s64 : (s : Int) < 64 := by omega
  clear htq hs64
  go_enter Tryz.func71, Tryz.ntmps71
  exact walk2
open Go.RowKit
theorem ret_parts {c c' s s' f f' : Nat} {x x' : Int} {e : Ending} {P : Prop} (h1 : c = c') (h2 : s = s') (h3 : x = x') (h4 : f = f') (k : e = .returned (.tuple #[PV c s x f, .int .i64 0]) ∧ P) : e = .returned (.tuple #[PV c' s' x' f', .int .i64 0]) ∧ P := by
  subst h1 h2 h3 h4; exact k
theorem leadBit (f : Nat) (h : f < 4) : (((pF f : Int) - 1) / 64 = 0 ∧ ∃ s : Nat, s < 64 ∧ ((pF f : Int) - 1) % 64 = s ∧ pF f - 1 = 64 * 0 + s) ∨ (((pF f : Int) - 1) / 64 = 1 ∧ ∃ s : Nat, s < 64 ∧ ((pF f : Int) - 1) % 64 = s ∧ pF f - 1 = 64 * 1 + s) := by
  have : f = 0 ∨ f = 1 ∨ f = 2 ∨ f = 3 := by omega
  rcases this with rfl | rfl | rfl | rfl
  · left; exact ⟨by decide, 23, by decide, by decide, rfl⟩
  · left; exact ⟨by decide, 52, by decide, by decide, rfl⟩
  · left; exact ⟨by decide, 10, by decide, by decide, rfl⟩
  · right; exact ⟨by decide, 48, by decide, by decide, rfl⟩
theorem kindUnpack_yes (f b : Nat) (w : World) (h : fitsB f b = true) (hT : Tab w) :
    Calls Tryz.prog 71 #[.int .u8 f, BV b] w fun e w' => e = .returned (.tuple #[PV (clsN f b) (sigN f b) (xpN f b) (frN f b), .int .i64 0]) ∧ Below w.heap.size w w' := by
  obtain ⟨hf, hb0⟩ := (fits_iff f b).1 h
  obtain ⟨h1, h2, h3, h4, h5, h6, h7, h8⟩ := formK f hf
  have hb : b < 2 ^ (64 * 2) := Nat.lt_of_lt_of_le hb0 (Nat.pow_le_pow_right (by decide) (by have := (formB f hf).2.2.2.1; omega))
  have cT := fun w => shapeFits_any f b w hb
  rw [h] at cT
  have cP := fun w => shapePrecision_any f w (by omega)
  have cM := fun w => shapeEmin_any f w (by omega)
  have cF := fun w hT => kindFields_any f b w hf hb hT
  have cC := fun w hT => kindclass_any f b w hf hb hT
  have hx := expN_lt f b hf
  have ht := Nat.mod_lt b (two_pos (pF f - 1))
  rcases cls_cases f b with ⟨e1, e2, e3⟩ | ⟨e1, e2, e3⟩ | ⟨e1, e2, e3⟩ | ⟨e1, e2, e3⟩ | ⟨e1, e2, e3⟩
  · cases hn : negN f b
    · rw [hn] at e3
      simp only [e3, cond] at cC
      refine (kindUnpack_7 f b _ _ _ _ w hT cT cP cF cC).mono fun e w' k => ret_parts ?_ ?_ ?_ ?_ k
      · rw [e3]; rfl
      · unfold sigN; rw [e3]; rfl
      · unfold xpN; rw [e3]; rfl
      · unfold frN; rw [e3]; rfl
    · rw [hn] at e3
      simp only [e3, cond] at cC
      refine (kindUnpack_0 f b _ _ _ _ w hT cT cP cF cC).mono fun e w' k => ret_parts ?_ ?_ ?_ ?_ k
      · rw [e3]; rfl
      · unfold sigN; rw [e3]; rfl
      · unfold xpN; rw [e3]; rfl
      · unfold frN; rw [e3]; rfl
  · cases hn : (b % 2 ^ (pF f - 1)).testBit (pF f - 2)
    · rw [hn] at e3
      simp only [e3, cond] at cC
      refine (kindUnpack_8 f b _ _ _ _ w hT cT cP cF cC).mono fun e w' k => ret_parts ?_ ?_ ?_ ?_ k
      · rw [e3]; rfl
      · unfold sigN; rw [e3]; rfl
      · unfold xpN; rw [e3]; rfl
      · unfold frN; rw [e3]; rfl
    · rw [hn] at e3
      simp only [e3, cond] at cC
      refine (kindUnpack_9 f b _ _ _ _ w hT cT cP cF cC).mono fun e w' k => ret_parts ?_ ?_ ?_ ?_ k
      · rw [e3]; rfl
      · unfold sigN; rw [e3]; rfl
      · unfold xpN; rw [e3]; rfl
      · unfold frN; rw [e3]; rfl
  · cases hn : negN f b
    · rw [hn] at e3
      simp only [e3, cond] at cC
      refine (kindUnpack_4 f b _ _ _ _ w hT cT cP cF cC).mono fun e w' k => ret_parts ?_ ?_ ?_ ?_ k
      · rw [e3]; rfl
      · unfold sigN; rw [e3]; rfl
      · unfold xpN; rw [e3]; rfl
      · unfold frN; rw [e3]; rfl
    · rw [hn] at e3
      simp only [e3, cond] at cC
      refine (kindUnpack_3 f b _ _ _ _ w hT cT cP cF cC).mono fun e w' k => ret_parts ?_ ?_ ?_ ?_ k
      · rw [e3]; rfl
      · unfold sigN; rw [e3]; rfl
      · unfold xpN; rw [e3]; rfl
      · unfold frN; rw [e3]; rfl
  · cases hn : negN f b
    · rw [hn] at e3
      simp only [e3, cond] at cC
      refine (kindUnpack_5 f b _ _ _ _ _ w hT (by omega) h8 (by omega) (by omega) cM cT cP cF cC).mono fun e w' k => ret_parts ?_ ?_ ?_ ?_ k
      · rw [e3]; rfl
      · unfold sigN; rw [e3]; rfl
      · unfold xpN; rw [e3]; rfl
      · unfold frN; rw [e3]; rfl
    · rw [hn] at e3
      simp only [e3, cond] at cC
      refine (kindUnpack_2 f b _ _ _ _ _ w hT (by omega) h8 (by omega) (by omega) cM cT cP cF cC).mono fun e w' k => ret_parts ?_ ?_ ?_ ?_ k
      · rw [e3]; rfl
      · unfold sigN; rw [e3]; rfl
      · unfold xpN; rw [e3]; rfl
      · unfold frN; rw [e3]; rfl
  · cases hn : negN f b
    · rw [hn] at e3
      simp only [e3, cond] at cC
      rcases leadBit f hf with ⟨q1, s, q2, q3, q4⟩ | ⟨q1, s, q2, q3, q4⟩
      · refine (kindUnpack_6_0 f b _ _ _ _ _ w hT s (by omega) (by omega) q2 (by rw [← q4]; exact ht) q1 q3 h7 h8 (by omega) (by omega) cM cT cP cF cC).mono fun e w' k => ret_parts ?_ ?_ ?_ ?_ k
        · rw [e3]; rfl
        · unfold sigN; rw [e3, ← q4]; rfl
        · unfold xpN; rw [e3]; rfl
        · unfold frN; rw [e3]; rfl
      · refine (kindUnpack_6_1 f b _ _ _ _ _ w hT s (by omega) (by omega) q2 (by rw [← q4]; exact ht) q1 q3 h7 h8 (by omega) (by omega) cM cT cP cF cC).mono fun e w' k => ret_parts ?_ ?_ ?_ ?_ k
        · rw [e3]; rfl
        · unfold sigN; rw [e3, ← q4]; rfl
        · unfold xpN; rw [e3]; rfl
        · unfold frN; rw [e3]; rfl
    · rw [hn] at e3
      simp only [e3, cond] at cC
      rcases leadBit f hf with ⟨q1, s, q2, q3, q4⟩ | ⟨q1, s, q2, q3, q4⟩
      · refine (kindUnpack_1_0 f b _ _ _ _ _ w hT s (by omega) (by omega) q2 (by rw [← q4]; exact ht) q1 q3 h7 h8 (by omega) (by omega) cM cT cP cF cC).mono fun e w' k => ret_parts ?_ ?_ ?_ ?_ k
        · rw [e3]; rfl
        · unfold sigN; rw [e3, ← q4]; rfl
        · unfold xpN; rw [e3]; rfl
        · unfold frN; rw [e3]; rfl
      · refine (kindUnpack_1_1 f b _ _ _ _ _ w hT s (by omega) (by omega) q2 (by rw [← q4]; exact ht) q1 q3 h7 h8 (by omega) (by omega) cM cT cP cF cC).mono fun e w' k => ret_parts ?_ ?_ ?_ ?_ k
        · rw [e3]; rfl
        · unfold sigN; rw [e3, ← q4]; rfl
        · unfold xpN; rw [e3]; rfl
        · unfold frN; rw [e3]; rfl
theorem kindUnpack_not (f b : Nat) (w : World) (hb : b < 2 ^ (64 * 2)) (h : fitsB f b = false) :
    Calls Tryz.prog 71 #[.int .u8 f, BV b] w fun e w' => e = .returned (.tuple #[PV 0 0 0 0, .int .i64 2]) ∧ Below w.heap.size w w' := by
  have cT := fun w => shapeFits_any f b w hb
  rw [h] at cT
  exact kindUnpack_no f b w cT
open Go.RowKit
theorem set_limbs (a b : Nat) : setRow (limbs a) 0 (limbs b).toList = limbs b := set_all _ _ rfl
theorem wideOf_1 (w : World) : Calls Tryz.prog 47 #[.int .u64 1] w fun e w' => e = .returned (W 1) ∧ Below w.heap.size w w' := wideOf_any 1 w (by decide)
theorem roundGrid_up (m s k : Nat) (e at_ n : Int) (neg mo lo : Bool) (w : World) (hT : Tab w) (h1 : -2000000 ≤ e) (h2 : e ≤ 2000000) (h3 : -2000000 ≤ at_) (h4 : at_ ≤ 2000000) (hn : at_ - e = n) (hn0 : n ≤ 0) (cL : CK_ 104 #[W s, .int .i64 (-n)] (.tuple #[W k, .bool lo])) :
    Calls Tryz.prog 157 #[.int .u8 m, RV neg s e mo, .int .i64 at_] w fun e w' => e = .returned (.tuple #[W k, .bool (!mo)]) ∧ Below w.heap.size w w' := by
  have H := Own.start w
  have HT := Lib.hid hT
  clear hT
  go_enter Tryz.func157, Tryz.ntmps157
  exact walk3
theorem roundGrid_f_t (m s k : Nat) (e at_ n : Int) (half : Int) (neg ex : Bool) (w : World) (hT : Tab w) (h1 : -2000000 ≤ e) (h2 : e ≤ 2000000) (h3 : -2000000 ≤ at_) (h4 : at_ ≤ 2000000) (hn : at_ - e = n) (hn0 : 0 < n) (cC : CT_ 135 #[W s, .int .i64 n] (.tuple #[W k, .int .i64 half, .bool ex])) (cR : ∀ w, Calls Tryz.prog 136 #[.int .u8 m, .bool neg, .bool (Go.bits .and .u64 (limb k 0) 1 == 1), .int .i64 half, .bool ex] w fun e w' => e = .returned (.bool true) ∧ w = w') :
    Calls Tryz.prog 157 #[.int .u8 m, RV neg s e false, .int .i64 at_] w fun e w' => e = .returned (.tuple #[W (k + 1), .bool ex]) ∧ Below w.heap.size w w' := by
  have H := Own.start w
  have HT := Lib.hid hT
  clear hT
  have n0 : ¬ n ≤ 0 := by omega
  go_enter Tryz.func157, Tryz.ntmps157
  exact walk3
theorem roundGrid_f_f (m s k : Nat) (e at_ n : Int) (half : Int) (neg ex : Bool) (w : World) (hT : Tab w) (h1 : -2000000 ≤ e) (h2 : e ≤ 2000000) (h3 : -2000000 ≤ at_) (h4 : at_ ≤ 2000000) (hn : at_ - e = n) (hn0 : 0 < n) (cC : CT_ 135 #[W s, .int .i64 n] (.tuple #[W k, .int .i64 half, .bool ex])) (cR : ∀ w, Calls Tryz.prog 136 #[.int .u8 m, .bool neg, .bool (Go.bits .and .u64 (limb k 0) 1 == 1), .int .i64 half, .bool ex] w fun e w' => e = .returned (.bool false) ∧ w = w') :
    Calls Tryz.prog 157 #[.int .u8 m, RV neg s e false, .int .i64 at_] w fun e w' => e = .returned (.tuple #[W k, .bool ex]) ∧ Below w.heap.size w w' := by
  have H := Own.start w
  have HT := Lib.hid hT
  clear hT
  have n0 : ¬ n ≤ 0 := by omega
  go_enter Tryz.func157, Tryz.ntmps157
  exact walk3
theorem roundGrid_tz_t (m s k : Nat) (e at_ n : Int) (half : Int) (neg ex : Bool) (w : World) (hT : Tab w) (h1 : -2000000 ≤ e) (h2 : e ≤ 2000000) (h3 : -2000000 ≤ at_) (h4 : at_ ≤ 2000000) (hn : at_ - e = n) (hn0 : 0 < n) (hz : (half == 0) = true) (cC : CT_ 135 #[W s, .int .i64 n] (.tuple #[W k, .int .i64 half, .bool ex])) (cR : ∀ w, Calls Tryz.prog 136 #[.int .u8 m, .bool neg, .bool (Go.bits .and .u64 (limb k 0) 1 == 1), .int .i64 1, .bool false] w fun e w' => e = .returned (.bool true) ∧ w = w') :
    Calls Tryz.prog 157 #[.int .u8 m, RV neg s e true, .int .i64 at_] w fun e w' => e = .returned (.tuple #[W (k + 1), .bool false]) ∧ Below w.heap.size w w' := by
  have H := Own.start w
  have HT := Lib.hid hT
  clear hT
  have n0 : ¬ n ≤ 0 := by omega
  go_enter Tryz.func157, Tryz.ntmps157
  exact walk3
theorem roundGrid_tz_f (m s k : Nat) (e at_ n : Int) (half : Int) (neg ex : Bool) (w : World) (hT : Tab w) (h1 : -2000000 ≤ e) (h2 : e ≤ 2000000) (h3 : -2000000 ≤ at_) (h4 : at_ ≤ 2000000) (hn : at_ - e = n) (hn0 : 0 < n) (hz : (half == 0) = true) (cC : CT_ 135 #[W s, .int .i64 n] (.tuple #[W k, .int .i64 half, .bool ex])) (cR : ∀ w, Calls Tryz.prog 136 #[.int .u8 m, .bool neg, .bool (Go.bits .and .u64 (limb k 0) 1 == 1), .int .i64 1, .bool false] w fun e w' => e = .returned (.bool false) ∧ w = w') :
    Calls Tryz.prog 157 #[.int .u8 m, RV neg s e true, .int .i64 at_] w fun e w' => e = .returned (.tuple #[W k, .bool false]) ∧ Below w.heap.size w w' := by
  have H := Own.start w
  have HT := Lib.hid hT
  clear hT
  have n0 : ¬ n ≤ 0 := by omega
  go_enter Tryz.func157, Tryz.ntmps157
  exact walk3
theorem roundGrid_tn_t (m s k : Nat) (e at_ n : Int) (half : Int) (neg ex : Bool) (w : World) (hT : Tab w) (h1 : -2000000 ≤ e) (h2 : e ≤ 2000000) (h3 : -2000000 ≤ at_) (h4 : at_ ≤ 2000000) (hn : at_ - e = n) (hn0 : 0 < n) (hz : (half == 0) = false) (cC : CT_ 135 #[W s, .int .i64 n] (.tuple #[W k, .int .i64 half, .bool ex])) (cR : ∀ w, Calls Tryz.prog 136 #[.int .u8 m, .bool neg, .bool (Go.bits .and .u64 (limb k 0) 1 == 1), .int .i64 half, .bool false] w fun e w' => e = .returned (.bool true) ∧ w = w') :
    Calls Tryz.prog 157 #[.int .u8 m, RV neg s e true, .int .i64 at_] w fun e w' => e = .returned (.tuple #[W (k + 1), .bool false]) ∧ Below w.heap.size w w' := by
  have H := Own.start w
  have HT := Lib.hid hT
  clear hT
  have n0 : ¬ n ≤ 0 := by omega
  go_enter Tryz.func157, Tryz.ntmps157
  exact walk3
theorem roundGrid_tn_f (m s k : Nat) (e at_ n : Int) (half : Int) (neg ex : Bool) (w : World) (hT : Tab w) (h1 : -2000000 ≤ e) (h2 : e ≤ 2000000) (h3 : -2000000 ≤ at_) (h4 : at_ ≤ 2000000) (hn : at_ - e = n) (hn0 : 0 < n) (hz : (half == 0) = false) (cC : CT_ 135 #[W s, .int .i64 n] (.tuple #[W k, .int .i64 half, .bool ex])) (cR : ∀ w, Calls Tryz.prog 136 #[.int .u8 m, .bool neg, .bool (Go.bits .and .u64 (limb k 0) 1 == 1), .int .i64 half, .bool false] w fun e w' => e = .returned (.bool false) ∧ w = w') :
    Calls Tryz.prog 157 #[.int .u8 m, RV neg s e true, .int .i64 at_] w fun e w' => e = .returned (.tuple #[W k, .bool false]) ∧ Below w.heap.size w w' := by
  have H := Own.start w
  have HT := Lib.hid hT
  clear hT
  have n0 : ¬ n ≤ 0 := by omega
  go_enter Tryz.func157, Tryz.ntmps157
  exact walk3
open Go.RowKit
theorem shapeGreatest_0 (neg : Bool) (w : World) :
    Calls Tryz.prog 209 #[.int .u8 0, .bool neg] w fun e w' => e = .returned (BV (greatN 0 neg)) ∧ Below w.heap.size w w' := by
  have H := Own.start w
  have cI : ∀ w, Calls Tryz.prog 76 #[.int .u8 0, .bool false] w fun e w' => e = .returned (.agg #[.int .u64 0, .int .u64 2139095040]) ∧ Below w.heap.size w w' := fun w => shapeInf_any 0 false w (by decide)
  have cW : ∀ w, Calls Tryz.prog 169 #[.int .u8 0, .agg #[.int .u64 0, .int .u64 2139095039], .bool neg] w fun e w' => e = .returned (BV (greatN 0 neg)) ∧ Below w.heap.size w w' := by
    intro w
    have := shapeWith_any 0 2139095039 neg w (by decide)
    rw [or_sign 0 2139095039 neg (by decide)] at this
    exact this
  have cC : ∀ w, Calls Tryz.prog 72 #[.int .u8 0] w fun e w' => e = .returned (.int .i64 0) ∧ w = w' := fun w => shapeCheck_any 0 w (by decide)
  have cN : ∀ w, Calls Tryz.prog 196 #[.int .u8 0] w fun e w' => e = .returned (.int .i64 32) ∧ Below w.heap.size w w' := fun w => shapeWidth_any 0 w (by decide)
  go_enter Tryz.func209, Tryz.ntmps209
  go_wp2_with (first
    | ((with_reducible show wpList _ _ _ (⟨_, .box _ _, _, _, _, _⟩ :: _) _ _); refine H.box rfl rfl (cells_agg _) ?_; (intro g w H; simp only [Act.put, q1_, q2_, q3_, List.set_nil]))
    | ((with_reducible show wpList _ _ _ (⟨_, .alloc 27, _, _, _, _⟩ :: _) _ _); refine H.new rfl (T := 27) rfl tB_z (cells_agg _) ?_; (intro g w H; simp only [Act.put, q1_, q2_, q3_, List.set_nil]))
    | ((with_reducible show wpList _ _ _ (⟨_, .alloc 25, _, _, _, _⟩ :: _) _ _); refine H.new rfl (T := 25) rfl tu_z (cells_int _ _) ?_; (intro g w H; simp only [Act.put, q1_, q2_, q3_, List.set_nil]))
    | ((with_reducible show wpList _ _ _ (⟨_, .load 27 _, _, _, _, _⟩ :: _) _ _); (first | refine H.load rfl (ty := 27) rfl rfl 0 rfl Tryz.underlying27 rfl (by with_reducible exact ext_2 _ _) (by exact tB_s) ?_ | refine H.load rfl (ty := 27) rfl rfl 1 rfl Tryz.underlying27 rfl (by with_reducible exact ext_2 _ _) (by exact tB_s) ?_); simp only [Act.put, q1_, q2_, q3_, List.set_nil])
    | ((with_reducible show wpList _ _ _ (⟨_, .load 25 _, _, _, _, _⟩ :: _) _ _); (first | refine H.load1 rfl (ty := 25) rfl rfl 0 rfl Tryz.underlying25 rfl (by with_reducible exact get_20 _ _) ?_ | refine H.load1 rfl (ty := 25) rfl rfl 0 rfl Tryz.underlying25 rfl (by with_reducible exact get_21 _ _) ?_ | refine H.load1 rfl (ty := 25) rfl rfl 0 rfl Tryz.underlying25 rfl (by with_reducible exact limbs_o0 _) ?_ | refine H.load1 rfl (ty := 25) rfl rfl 0 rfl Tryz.underlying25 rfl (by with_reducible exact limbs_o1 _) ?_ | refine H.load1 rfl (ty := 25) rfl rfl 0 rfl Tryz.underlying25 rfl (by with_reducible exact limbs_o2 _) ?_ | refine H.load1 rfl (ty := 25) rfl rfl 0 rfl Tryz.underlying25 rfl (by with_reducible exact limbs_o3 _) ?_ | refine H.load1 rfl (ty := 25) rfl rfl 0 rfl Tryz.underlying25 rfl (by with_reducible exact limbs_o4 _) ?_ | refine H.load1 rfl (ty := 25) rfl rfl 0 rfl Tryz.underlying25 rfl (by with_reducible exact limbs_o5 _) ?_ | refine H.load1 rfl (ty := 25) rfl rfl 0 rfl Tryz.underlying25 rfl (by with_reducible exact get_10 _) ?_ | refine H.load1 rfl (ty := 25) rfl rfl 1 rfl Tryz.underlying25 rfl (by with_reducible exact get_20 _ _) ?_ | refine H.load1 rfl (ty := 25) rfl rfl 1 rfl Tryz.underlying25 rfl (by with_reducible exact get_21 _ _) ?_ | refine H.load1 rfl (ty := 25) rfl rfl 1 rfl Tryz.underlying25 rfl (by with_reducible exact limbs_o0 _) ?_ | refine H.load1 rfl (ty := 25) rfl rfl 1 rfl Tryz.underlying25 rfl (by with_reducible exact limbs_o1 _) ?_ | refine H.load1 rfl (ty := 25) rfl rfl 1 rfl Tryz.underlying25 rfl (by with_reducible exact limbs_o2 _) ?_ | refine H.load1 rfl (ty := 25) rfl rfl 1 rfl Tryz.underlying25 rfl (by with_reducible exact limbs_o3 _) ?_ | refine H.load1 rfl (ty := 25) rfl rfl 1 rfl Tryz.underlying25 rfl (by with_reducible exact limbs_o4 _) ?_ | refine H.load1 rfl (ty := 25) rfl rfl 1 rfl Tryz.underlying25 rfl (by with_reducible exact limbs_o5 _) ?_ | refine H.load1 rfl (ty := 25) rfl rfl 1 rfl Tryz.underlying25 rfl (by with_reducible exact get_10 _) ?_); simp only [Act.put, q1_, q2_, q3_, List.set_nil])
    | ((with_reducible show wpList _ _ _ (⟨_, .store 27 _ _, _, _, _, _⟩ :: _) _ _); (first | refine H.store rfl (ty := 27) rfl rfl (cells_agg _) 0 rfl v2_ (by exact tB_s) (one_of rfl) (ble_le rfl) ?_ | refine H.store rfl (ty := 27) rfl rfl (cells_agg _) 1 rfl v2_ (by exact tB_s) (one_of rfl) (ble_le rfl) ?_); (intro w H; simp only [q2_, q3_] at H; simp only [Act.put, q1_, q2_, q3_, List.set_nil]))
    | ((with_reducible show wpList _ _ _ (⟨_, .store 25 _ _, _, _, _, _⟩ :: _) _ _); (first | refine H.store rfl (ty := 25) rfl rfl (cells_int _ _) 0 rfl (by with_reducible exact set_20 _ _ _) (by exact tu_s) (one_of rfl) (ble_le rfl) ?_ | refine H.store rfl (ty := 25) rfl rfl (cells_int _ _) 0 rfl (by with_reducible exact set_21 _ _ _) (by exact tu_s) (one_of rfl) (ble_le rfl) ?_ | refine H.store rfl (ty := 25) rfl rfl (cells_int _ _) 0 rfl (by with_reducible exact set_10 _ _) (by exact tu_s) (one_of rfl) (ble_le rfl) ?_ | refine H.store rfl (ty := 25) rfl rfl (cells_int _ _) 1 rfl (by with_reducible exact set_20 _ _ _) (by exact tu_s) (one_of rfl) (ble_le rfl) ?_ | refine H.store rfl (ty := 25) rfl rfl (cells_int _ _) 1 rfl (by with_reducible exact set_21 _ _ _) (by exact tu_s) (one_of rfl) (ble_le rfl) ?_ | refine H.store rfl (ty := 25) rfl rfl (cells_int _ _) 1 rfl (by with_reducible exact set_10 _ _) (by exact tu_s) (one_of rfl) (ble_le rfl) ?_); (intro w H; simp only [q2_, q3_] at H; simp only [Act.put, q1_, q2_, q3_, List.set_nil]))
    | ((first | go_at_call 76 | go_at_call 196 | go_at_call 169); (with_reducible first | refine (cI _).mono ?_ | refine (cN _).mono ?_ | refine (cW _).mono ?_); rintro e w ⟨rfl, hb⟩; replace H := H.call hb; clear hb)
    | (go_at_call 72; ((with_reducible refine (cC _).mono ?_); rintro e w' ⟨rfl, rfl⟩))
    )
  (first | refine bodyPost_ret (results_c rfl rfl (H.result 0 rfl Tryz.underlying27 rfl (by exact tB_s) (ext_2 _ _))) rfl ⟨?_, H.below⟩ | refine bodyPost_ret (results_c rfl rfl (H.result 1 rfl Tryz.underlying27 rfl (by exact tB_s) (ext_2 _ _))) rfl ⟨?_, H.below⟩)
  exact rfl
theorem shapeGreatest_1 (neg : Bool) (w : World) :
    Calls Tryz.prog 209 #[.int .u8 1, .bool neg] w fun e w' => e = .returned (BV (greatN 1 neg)) ∧ Below w.heap.size w w' := by
  have H := Own.start w
  have cI : ∀ w, Calls Tryz.prog 76 #[.int .u8 1, .bool false] w fun e w' => e = .returned (.agg #[.int .u64 0, .int .u64 9218868437227405312]) ∧ Below w.heap.size w w' := fun w => shapeInf_any 1 false w (by decide)
  have cW : ∀ w, Calls Tryz.prog 169 #[.int .u8 1, .agg #[.int .u64 0, .int .u64 9218868437227405311], .bool neg] w fun e w' => e = .returned (BV (greatN 1 neg)) ∧ Below w.heap.size w w' := by
    intro w
    have := shapeWith_any 1 9218868437227405311 neg w (by decide)
    rw [or_sign 1 9218868437227405311 neg (by decide)] at this
    exact this
  have cC : ∀ w, Calls Tryz.prog 72 #[.int .u8 1] w fun e w' => e = .returned (.int .i64 0) ∧ w = w' := fun w => shapeCheck_any 1 w (by decide)
  have cN : ∀ w, Calls Tryz.prog 196 #[.int .u8 1] w fun e w' => e = .returned (.int .i64 64) ∧ Below w.heap.size w w' := fun w => shapeWidth_any 1 w (by decide)
  go_enter Tryz.func209, Tryz.ntmps209
  go_wp2_with (first
    | ((with_reducible show wpList _ _ _ (⟨_, .box _ _, _, _, _, _⟩ :: _) _ _); refine H.box rfl rfl (cells_agg _) ?_; (intro g w H; simp only [Act.put, q1_, q2_, q3_, List.set_nil]))
    | ((with_reducible show wpList _ _ _ (⟨_, .alloc 27, _, _, _, _⟩ :: _) _ _); refine H.new rfl (T := 27) rfl tB_z (cells_agg _) ?_; (intro g w H; simp only [Act.put, q1_, q2_, q3_, List.set_nil]))
    | ((with_reducible show wpList _ _ _ (⟨_, .alloc 25, _, _, _, _⟩ :: _) _ _); refine H.new rfl (T := 25) rfl tu_z (cells_int _ _) ?_; (intro g w H; simp only [Act.put, q1_, q2_, q3_, List.set_nil]))
    | ((with_reducible show wpList _ _ _ (⟨_, .load 27 _, _, _, _, _⟩ :: _) _ _); (first | refine H.load rfl (ty := 27) rfl rfl 0 rfl Tryz.underlying27 rfl (by with_reducible exact ext_2 _ _) (by exact tB_s) ?_ | refine H.load rfl (ty := 27) rfl rfl 1 rfl Tryz.underlying27 rfl (by with_reducible exact ext_2 _ _) (by exact tB_s) ?_); simp only [Act.put, q1_, q2_, q3_, List.set_nil])
    | ((with_reducible show wpList _ _ _ (⟨_, .load 25 _, _, _, _, _⟩ :: _) _ _); (first | refine H.load1 rfl (ty := 25) rfl rfl 0 rfl Tryz.underlying25 rfl (by with_reducible exact get_20 _ _) ?_ | refine H.load1 rfl (ty := 25) rfl rfl 0 rfl Tryz.underlying25 rfl (by with_reducible exact get_21 _ _) ?_ | refine H.load1 rfl (ty := 25) rfl rfl 0 rfl Tryz.underlying25 rfl (by with_reducible exact limbs_o0 _) ?_ | refine H.load1 rfl (ty := 25) rfl rfl 0 rfl Tryz.underlying25 rfl (by with_reducible exact limbs_o1 _) ?_ | refine H.load1 rfl (ty := 25) rfl rfl 0 rfl Tryz.underlying25 rfl (by with_reducible exact limbs_o2 _) ?_ | refine H.load1 rfl (ty := 25) rfl rfl 0 rfl Tryz.underlying25 rfl (by with_reducible exact limbs_o3 _) ?_ | refine H.load1 rfl (ty := 25) rfl rfl 0 rfl Tryz.underlying25 rfl (by with_reducible exact limbs_o4 _) ?_ | refine H.load1 rfl (ty := 25) rfl rfl 0 rfl Tryz.underlying25 rfl (by with_reducible exact limbs_o5 _) ?_ | refine H.load1 rfl (ty := 25) rfl rfl 0 rfl Tryz.underlying25 rfl (by with_reducible exact get_10 _) ?_ | refine H.load1 rfl (ty := 25) rfl rfl 1 rfl Tryz.underlying25 rfl (by with_reducible exact get_20 _ _) ?_ | refine H.load1 rfl (ty := 25) rfl rfl 1 rfl Tryz.underlying25 rfl (by with_reducible exact get_21 _ _) ?_ | refine H.load1 rfl (ty := 25) rfl rfl 1 rfl Tryz.underlying25 rfl (by with_reducible exact limbs_o0 _) ?_ | refine H.load1 rfl (ty := 25) rfl rfl 1 rfl Tryz.underlying25 rfl (by with_reducible exact limbs_o1 _) ?_ | refine H.load1 rfl (ty := 25) rfl rfl 1 rfl Tryz.underlying25 rfl (by with_reducible exact limbs_o2 _) ?_ | refine H.load1 rfl (ty := 25) rfl rfl 1 rfl Tryz.underlying25 rfl (by with_reducible exact limbs_o3 _) ?_ | refine H.load1 rfl (ty := 25) rfl rfl 1 rfl Tryz.underlying25 rfl (by with_reducible exact limbs_o4 _) ?_ | refine H.load1 rfl (ty := 25) rfl rfl 1 rfl Tryz.underlying25 rfl (by with_reducible exact limbs_o5 _) ?_ | refine H.load1 rfl (ty := 25) rfl rfl 1 rfl Tryz.underlying25 rfl (by with_reducible exact get_10 _) ?_); simp only [Act.put, q1_, q2_, q3_, List.set_nil])
    | ((with_reducible show wpList _ _ _ (⟨_, .store 27 _ _, _, _, _, _⟩ :: _) _ _); (first | refine H.store rfl (ty := 27) rfl rfl (cells_agg _) 0 rfl v2_ (by exact tB_s) (one_of rfl) (ble_le rfl) ?_ | refine H.store rfl (ty := 27) rfl rfl (cells_agg _) 1 rfl v2_ (by exact tB_s) (one_of rfl) (ble_le rfl) ?_); (intro w H; simp only [q2_, q3_] at H; simp only [Act.put, q1_, q2_, q3_, List.set_nil]))
    | ((with_reducible show wpList _ _ _ (⟨_, .store 25 _ _, _, _, _, _⟩ :: _) _ _); (first | refine H.store rfl (ty := 25) rfl rfl (cells_int _ _) 0 rfl (by with_reducible exact set_20 _ _ _) (by exact tu_s) (one_of rfl) (ble_le rfl) ?_ | refine H.store rfl (ty := 25) rfl rfl (cells_int _ _) 0 rfl (by with_reducible exact set_21 _ _ _) (by exact tu_s) (one_of rfl) (ble_le rfl) ?_ | refine H.store rfl (ty := 25) rfl rfl (cells_int _ _) 0 rfl (by with_reducible exact set_10 _ _) (by exact tu_s) (one_of rfl) (ble_le rfl) ?_ | refine H.store rfl (ty := 25) rfl rfl (cells_int _ _) 1 rfl (by with_reducible exact set_20 _ _ _) (by exact tu_s) (one_of rfl) (ble_le rfl) ?_ | refine H.store rfl (ty := 25) rfl rfl (cells_int _ _) 1 rfl (by with_reducible exact set_21 _ _ _) (by exact tu_s) (one_of rfl) (ble_le rfl) ?_ | refine H.store rfl (ty := 25) rfl rfl (cells_int _ _) 1 rfl (by with_reducible exact set_10 _ _) (by exact tu_s) (one_of rfl) (ble_le rfl) ?_); (intro w H; simp only [q2_, q3_] at H; simp only [Act.put, q1_, q2_, q3_, List.set_nil]))
    | ((first | go_at_call 76 | go_at_call 196 | go_at_call 169); (with_reducible first | refine (cI _).mono ?_ | refine (cN _).mono ?_ | refine (cW _).mono ?_); rintro e w ⟨rfl, hb⟩; replace H := H.call hb; clear hb)
    | (go_at_call 72; ((with_reducible refine (cC _).mono ?_); rintro e w' ⟨rfl, rfl⟩))
    )
  (first | refine bodyPost_ret (results_c rfl rfl (H.result 0 rfl Tryz.underlying27 rfl (by exact tB_s) (ext_2 _ _))) rfl ⟨?_, H.below⟩ | refine bodyPost_ret (results_c rfl rfl (H.result 1 rfl Tryz.underlying27 rfl (by exact tB_s) (ext_2 _ _))) rfl ⟨?_, H.below⟩)
  exact rfl
theorem shapeGreatest_2 (neg : Bool) (w : World) :
    Calls Tryz.prog 209 #[.int .u8 2, .bool neg] w fun e w' => e = .returned (BV (greatN 2 neg)) ∧ Below w.heap.size w w' := by
  have H := Own.start w
  have cI : ∀ w, Calls Tryz.prog 76 #[.int .u8 2, .bool false] w fun e w' => e = .returned (.agg #[.int .u64 0, .int .u64 31744]) ∧ Below w.heap.size w w' := fun w => shapeInf_any 2 false w (by decide)
  have cW : ∀ w, Calls Tryz.prog 169 #[.int .u8 2, .agg #[.int .u64 0, .int .u64 31743], .bool neg] w fun e w' => e = .returned (BV (greatN 2 neg)) ∧ Below w.heap.size w w' := by
    intro w
    have := shapeWith_any 2 31743 neg w (by decide)
    rw [or_sign 2 31743 neg (by decide)] at this
    exact this
  have cC : ∀ w, Calls Tryz.prog 72 #[.int .u8 2] w fun e w' => e = .returned (.int .i64 0) ∧ w = w' := fun w => shapeCheck_any 2 w (by decide)
  have cN : ∀ w, Calls Tryz.prog 196 #[.int .u8 2] w fun e w' => e = .returned (.int .i64 16) ∧ Below w.heap.size w w' := fun w => shapeWidth_any 2 w (by decide)
  go_enter Tryz.func209, Tryz.ntmps209
  go_wp2_with (first
    | ((with_reducible show wpList _ _ _ (⟨_, .box _ _, _, _, _, _⟩ :: _) _ _); refine H.box rfl rfl (cells_agg _) ?_; (intro g w H; simp only [Act.put, q1_, q2_, q3_, List.set_nil]))
    | ((with_reducible show wpList _ _ _ (⟨_, .alloc 27, _, _, _, _⟩ :: _) _ _); refine H.new rfl (T := 27) rfl tB_z (cells_agg _) ?_; (intro g w H; simp only [Act.put, q1_, q2_, q3_, List.set_nil]))
    | ((with_reducible show wpList _ _ _ (⟨_, .alloc 25, _, _, _, _⟩ :: _) _ _); refine H.new rfl (T := 25) rfl tu_z (cells_int _ _) ?_; (intro g w H; simp only [Act.put, q1_, q2_, q3_, List.set_nil]))
    | ((with_reducible show wpList _ _ _ (⟨_, .load 27 _, _, _, _, _⟩ :: _) _ _); (first | refine H.load rfl (ty := 27) rfl rfl 0 rfl Tryz.underlying27 rfl (by with_reducible exact ext_2 _ _) (by exact tB_s) ?_ | refine H.load rfl (ty := 27) rfl rfl 1 rfl Tryz.underlying27 rfl (by with_reducible exact ext_2 _ _) (by exact tB_s) ?_); simp only [Act.put, q1_, q2_, q3_, List.set_nil])
    | ((with_reducible show wpList _ _ _ (⟨_, .load 25 _, _, _, _, _⟩ :: _) _ _); (first | refine H.load1 rfl (ty := 25) rfl rfl 0 rfl Tryz.underlying25 rfl (by with_reducible exact get_20 _ _) ?_ | refine H.load1 rfl (ty := 25) rfl rfl 0 rfl Tryz.underlying25 rfl (by with_reducible exact get_21 _ _) ?_ | refine H.load1 rfl (ty := 25) rfl rfl 0 rfl Tryz.underlying25 rfl (by with_reducible exact limbs_o0 _) ?_ | refine H.load1 rfl (ty := 25) rfl rfl 0 rfl Tryz.underlying25 rfl (by with_reducible exact limbs_o1 _) ?_ | refine H.load1 rfl (ty := 25) rfl rfl 0 rfl Tryz.underlying25 rfl (by with_reducible exact limbs_o2 _) ?_ | refine H.load1 rfl (ty := 25) rfl rfl 0 rfl Tryz.underlying25 rfl (by with_reducible exact limbs_o3 _) ?_ | refine H.load1 rfl (ty := 25) rfl rfl 0 rfl Tryz.underlying25 rfl (by with_reducible exact limbs_o4 _) ?_ | refine H.load1 rfl (ty := 25) rfl rfl 0 rfl Tryz.underlying25 rfl (by with_reducible exact limbs_o5 _) ?_ | refine H.load1 rfl (ty := 25) rfl rfl 0 rfl Tryz.underlying25 rfl (by with_reducible exact get_10 _) ?_ | refine H.load1 rfl (ty := 25) rfl rfl 1 rfl Tryz.underlying25 rfl (by with_reducible exact get_20 _ _) ?_ | refine H.load1 rfl (ty := 25) rfl rfl 1 rfl Tryz.underlying25 rfl (by with_reducible exact get_21 _ _) ?_ | refine H.load1 rfl (ty := 25) rfl rfl 1 rfl Tryz.underlying25 rfl (by with_reducible exact limbs_o0 _) ?_ | refine H.load1 rfl (ty := 25) rfl rfl 1 rfl Tryz.underlying25 rfl (by with_reducible exact limbs_o1 _) ?_ | refine H.load1 rfl (ty := 25) rfl rfl 1 rfl Tryz.underlying25 rfl (by with_reducible exact limbs_o2 _) ?_ | refine H.load1 rfl (ty := 25) rfl rfl 1 rfl Tryz.underlying25 rfl (by with_reducible exact limbs_o3 _) ?_ | refine H.load1 rfl (ty := 25) rfl rfl 1 rfl Tryz.underlying25 rfl (by with_reducible exact limbs_o4 _) ?_ | refine H.load1 rfl (ty := 25) rfl rfl 1 rfl Tryz.underlying25 rfl (by with_reducible exact limbs_o5 _) ?_ | refine H.load1 rfl (ty := 25) rfl rfl 1 rfl Tryz.underlying25 rfl (by with_reducible exact get_10 _) ?_); simp only [Act.put, q1_, q2_, q3_, List.set_nil])
    | ((with_reducible show wpList _ _ _ (⟨_, .store 27 _ _, _, _, _, _⟩ :: _) _ _); (first | refine H.store rfl (ty := 27) rfl rfl (cells_agg _) 0 rfl v2_ (by exact tB_s) (one_of rfl) (ble_le rfl) ?_ | refine H.store rfl (ty := 27) rfl rfl (cells_agg _) 1 rfl v2_ (by exact tB_s) (one_of rfl) (ble_le rfl) ?_); (intro w H; simp only [q2_, q3_] at H; simp only [Act.put, q1_, q2_, q3_, List.set_nil]))
    | ((with_reducible show wpList _ _ _ (⟨_, .store 25 _ _, _, _, _, _⟩ :: _) _ _); (first | refine H.store rfl (ty := 25) rfl rfl (cells_int _ _) 0 rfl (by with_reducible exact set_20 _ _ _) (by exact tu_s) (one_of rfl) (ble_le rfl) ?_ | refine H.store rfl (ty := 25) rfl rfl (cells_int _ _) 0 rfl (by with_reducible exact set_21 _ _ _) (by exact tu_s) (one_of rfl) (ble_le rfl) ?_ | refine H.store rfl (ty := 25) rfl rfl (cells_int _ _) 0 rfl (by with_reducible exact set_10 _ _) (by exact tu_s) (one_of rfl) (ble_le rfl) ?_ | refine H.store rfl (ty := 25) rfl rfl (cells_int _ _) 1 rfl (by with_reducible exact set_20 _ _ _) (by exact tu_s) (one_of rfl) (ble_le rfl) ?_ | refine H.store rfl (ty := 25) rfl rfl (cells_int _ _) 1 rfl (by with_reducible exact set_21 _ _ _) (by exact tu_s) (one_of rfl) (ble_le rfl) ?_ | refine H.store rfl (ty := 25) rfl rfl (cells_int _ _) 1 rfl (by with_reducible exact set_10 _ _) (by exact tu_s) (one_of rfl) (ble_le rfl) ?_); (intro w H; simp only [q2_, q3_] at H; simp only [Act.put, q1_, q2_, q3_, List.set_nil]))
    | ((first | go_at_call 76 | go_at_call 196 | go_at_call 169); (with_reducible first | refine (cI _).mono ?_ | refine (cN _).mono ?_ | refine (cW _).mono ?_); rintro e w ⟨rfl, hb⟩; replace H := H.call hb; clear hb)
    | (go_at_call 72; ((with_reducible refine (cC _).mono ?_); rintro e w' ⟨rfl, rfl⟩))
    )
  (first | refine bodyPost_ret (results_c rfl rfl (H.result 0 rfl Tryz.underlying27 rfl (by exact tB_s) (ext_2 _ _))) rfl ⟨?_, H.below⟩ | refine bodyPost_ret (results_c rfl rfl (H.result 1 rfl Tryz.underlying27 rfl (by exact tB_s) (ext_2 _ _))) rfl ⟨?_, H.below⟩)
  exact rfl
theorem shapeGreatest_3 (neg : Bool) (w : World) :
    Calls Tryz.prog 209 #[.int .u8 3, .bool neg] w fun e w' => e = .returned (BV (greatN 3 neg)) ∧ Below w.heap.size w w' := by
  have H := Own.start w
  have cI : ∀ w, Calls Tryz.prog 76 #[.int .u8 3, .bool false] w fun e w' => e = .returned (.agg #[.int .u64 9223090561878065152, .int .u64 0]) ∧ Below w.heap.size w w' := fun w => shapeInf_any 3 false w (by decide)
  have cW : ∀ w, Calls Tryz.prog 169 #[.int .u8 3, .agg #[.int .u64 9223090561878065151, .int .u64 (IntKind.u64.wrap (-1))], .bool neg] w fun e w' => e = .returned (BV (greatN 3 neg)) ∧ Below w.heap.size w w' := by
    intro w
    have := shapeWith_any 3 170135991163610696904058773219554885631 neg w (by decide)
    rw [or_sign 3 170135991163610696904058773219554885631 neg (by decide)] at this
    exact this
  have cC : ∀ w, Calls Tryz.prog 72 #[.int .u8 3] w fun e w' => e = .returned (.int .i64 0) ∧ w = w' := fun w => shapeCheck_any 3 w (by decide)
  have cN : ∀ w, Calls Tryz.prog 196 #[.int .u8 3] w fun e w' => e = .returned (.int .i64 128) ∧ Below w.heap.size w w' := fun w => shapeWidth_any 3 w (by decide)
  go_enter Tryz.func209, Tryz.ntmps209
  go_wp2_with (first
    | ((with_reducible show wpList _ _ _ (⟨_, .box _ _, _, _, _, _⟩ :: _) _ _); refine H.box rfl rfl (cells_agg _) ?_; (intro g w H; simp only [Act.put, q1_, q2_, q3_, List.set_nil]))
    | ((with_reducible show wpList _ _ _ (⟨_, .alloc 27, _, _, _, _⟩ :: _) _ _); refine H.new rfl (T := 27) rfl tB_z (cells_agg _) ?_; (intro g w H; simp only [Act.put, q1_, q2_, q3_, List.set_nil]))
    | ((with_reducible show wpList _ _ _ (⟨_, .alloc 25, _, _, _, _⟩ :: _) _ _); refine H.new rfl (T := 25) rfl tu_z (cells_int _ _) ?_; (intro g w H; simp only [Act.put, q1_, q2_, q3_, List.set_nil]))
    | ((with_reducible show wpList _ _ _ (⟨_, .load 27 _, _, _, _, _⟩ :: _) _ _); (first | refine H.load rfl (ty := 27) rfl rfl 0 rfl Tryz.underlying27 rfl (by with_reducible exact ext_2 _ _) (by exact tB_s) ?_ | refine H.load rfl (ty := 27) rfl rfl 1 rfl Tryz.underlying27 rfl (by with_reducible exact ext_2 _ _) (by exact tB_s) ?_); simp only [Act.put, q1_, q2_, q3_, List.set_nil])
    | ((with_reducible show wpList _ _ _ (⟨_, .load 25 _, _, _, _, _⟩ :: _) _ _); (first | refine H.load1 rfl (ty := 25) rfl rfl 0 rfl Tryz.underlying25 rfl (by with_reducible exact get_20 _ _) ?_ | refine H.load1 rfl (ty := 25) rfl rfl 0 rfl Tryz.underlying25 rfl (by with_reducible exact get_21 _ _) ?_ | refine H.load1 rfl (ty := 25) rfl rfl 0 rfl Tryz.underlying25 rfl (by with_reducible exact limbs_o0 _) ?_ | refine H.load1 rfl (ty := 25) rfl rfl 0 rfl Tryz.underlying25 rfl (by with_reducible exact limbs_o1 _) ?_ | refine H.load1 rfl (ty := 25) rfl rfl 0 rfl Tryz.underlying25 rfl (by with_reducible exact limbs_o2 _) ?_ | refine H.load1 rfl (ty := 25) rfl rfl 0 rfl Tryz.underlying25 rfl (by with_reducible exact limbs_o3 _) ?_ | refine H.load1 rfl (ty := 25) rfl rfl 0 rfl Tryz.underlying25 rfl (by with_reducible exact limbs_o4 _) ?_ | refine H.load1 rfl (ty := 25) rfl rfl 0 rfl Tryz.underlying25 rfl (by with_reducible exact limbs_o5 _) ?_ | refine H.load1 rfl (ty := 25) rfl rfl 0 rfl Tryz.underlying25 rfl (by with_reducible exact get_10 _) ?_ | refine H.load1 rfl (ty := 25) rfl rfl 1 rfl Tryz.underlying25 rfl (by with_reducible exact get_20 _ _) ?_ | refine H.load1 rfl (ty := 25) rfl rfl 1 rfl Tryz.underlying25 rfl (by with_reducible exact get_21 _ _) ?_ | refine H.load1 rfl (ty := 25) rfl rfl 1 rfl Tryz.underlying25 rfl (by with_reducible exact limbs_o0 _) ?_ | refine H.load1 rfl (ty := 25) rfl rfl 1 rfl Tryz.underlying25 rfl (by with_reducible exact limbs_o1 _) ?_ | refine H.load1 rfl (ty := 25) rfl rfl 1 rfl Tryz.underlying25 rfl (by with_reducible exact limbs_o2 _) ?_ | refine H.load1 rfl (ty := 25) rfl rfl 1 rfl Tryz.underlying25 rfl (by with_reducible exact limbs_o3 _) ?_ | refine H.load1 rfl (ty := 25) rfl rfl 1 rfl Tryz.underlying25 rfl (by with_reducible exact limbs_o4 _) ?_ | refine H.load1 rfl (ty := 25) rfl rfl 1 rfl Tryz.underlying25 rfl (by with_reducible exact limbs_o5 _) ?_ | refine H.load1 rfl (ty := 25) rfl rfl 1 rfl Tryz.underlying25 rfl (by with_reducible exact get_10 _) ?_); simp only [Act.put, q1_, q2_, q3_, List.set_nil])
    | ((with_reducible show wpList _ _ _ (⟨_, .store 27 _ _, _, _, _, _⟩ :: _) _ _); (first | refine H.store rfl (ty := 27) rfl rfl (cells_agg _) 0 rfl v2_ (by exact tB_s) (one_of rfl) (ble_le rfl) ?_ | refine H.store rfl (ty := 27) rfl rfl (cells_agg _) 1 rfl v2_ (by exact tB_s) (one_of rfl) (ble_le rfl) ?_); (intro w H; simp only [q2_, q3_] at H; simp only [Act.put, q1_, q2_, q3_, List.set_nil]))
    | ((with_reducible show wpList _ _ _ (⟨_, .store 25 _ _, _, _, _, _⟩ :: _) _ _); (first | refine H.store rfl (ty := 25) rfl rfl (cells_int _ _) 0 rfl (by with_reducible exact set_20 _ _ _) (by exact tu_s) (one_of rfl) (ble_le rfl) ?_ | refine H.store rfl (ty := 25) rfl rfl (cells_int _ _) 0 rfl (by with_reducible exact set_21 _ _ _) (by exact tu_s) (one_of rfl) (ble_le rfl) ?_ | refine H.store rfl (ty := 25) rfl rfl (cells_int _ _) 0 rfl (by with_reducible exact set_10 _ _) (by exact tu_s) (one_of rfl) (ble_le rfl) ?_ | refine H.store rfl (ty := 25) rfl rfl (cells_int _ _) 1 rfl (by with_reducible exact set_20 _ _ _) (by exact tu_s) (one_of rfl) (ble_le rfl) ?_ | refine H.store rfl (ty := 25) rfl rfl (cells_int _ _) 1 rfl (by with_reducible exact set_21 _ _ _) (by exact tu_s) (one_of rfl) (ble_le rfl) ?_ | refine H.store rfl (ty := 25) rfl rfl (cells_int _ _) 1 rfl (by with_reducible exact set_10 _ _) (by exact tu_s) (one_of rfl) (ble_le rfl) ?_); (intro w H; simp only [q2_, q3_] at H; simp only [Act.put, q1_, q2_, q3_, List.set_nil]))
    | ((first | go_at_call 76 | go_at_call 196 | go_at_call 169); (with_reducible first | refine (cI _).mono ?_ | refine (cN _).mono ?_ | refine (cW _).mono ?_); rintro e w ⟨rfl, hb⟩; replace H := H.call hb; clear hb)
    | (go_at_call 72; ((with_reducible refine (cC _).mono ?_); rintro e w' ⟨rfl, rfl⟩))
    )
  (first | refine bodyPost_ret (results_c rfl rfl (H.result 0 rfl Tryz.underlying27 rfl (by exact tB_s) (ext_2 _ _))) rfl ⟨?_, H.below⟩ | refine bodyPost_ret (results_c rfl rfl (H.result 1 rfl Tryz.underlying27 rfl (by exact tB_s) (ext_2 _ _))) rfl ⟨?_, H.below⟩)
  exact rfl
theorem shapeGreatest_no (f : Nat) (neg : Bool) (w : World) (hf : f < 256) (h4 : ¬ f < 4) :
    Calls Tryz.prog 209 #[.int .u8 f, .bool neg] w fun e w' => e = .returned (BV (greatN f neg)) ∧ Below w.heap.size w w' := by
  have H := Own.start w
  rw [show greatN f neg = 0 by unfold greatN; rw [decide_eq_false h4]; rfl]
  have cI : ∀ w, Calls Tryz.prog 76 #[.int .u8 f, .bool false] w fun e w' => e = .returned (.agg #[.int .u64 0, .int .u64 0]) ∧ Below w.heap.size w w' := by
    intro w
    have := shapeInf_any f false w hf
    rw [show infN f false = 0 by unfold infN; rw [decide_eq_false h4]; rfl] at this
    exact this
  go_enter Tryz.func209, Tryz.ntmps209
  go_wp2_with (first
    | ((with_reducible show wpList _ _ _ (⟨_, .box _ _, _, _, _, _⟩ :: _) _ _); refine H.box rfl rfl (cells_agg _) ?_; (intro g w H; simp only [Act.put, q1_, q2_, q3_, List.set_nil]))
    | ((with_reducible show wpList _ _ _ (⟨_, .alloc 27, _, _, _, _⟩ :: _) _ _); refine H.new rfl (T := 27) rfl tB_z (cells_agg _) ?_; (intro g w H; simp only [Act.put, q1_, q2_, q3_, List.set_nil]))
    | ((with_reducible show wpList _ _ _ (⟨_, .alloc 25, _, _, _, _⟩ :: _) _ _); refine H.new rfl (T := 25) rfl tu_z (cells_int _ _) ?_; (intro g w H; simp only [Act.put, q1_, q2_, q3_, List.set_nil]))
    | ((with_reducible show wpList _ _ _ (⟨_, .load 27 _, _, _, _, _⟩ :: _) _ _); (first | refine H.load rfl (ty := 27) rfl rfl 0 rfl Tryz.underlying27 rfl (by with_reducible exact ext_2 _ _) (by exact tB_s) ?_ | refine H.load rfl (ty := 27) rfl rfl 1 rfl Tryz.underlying27 rfl (by with_reducible exact ext_2 _ _) (by exact tB_s) ?_); simp only [Act.put, q1_, q2_, q3_, List.set_nil])
    | ((with_reducible show wpList _ _ _ (⟨_, .load 25 _, _, _, _, _⟩ :: _) _ _); (first | refine H.load1 rfl (ty := 25) rfl rfl 0 rfl Tryz.underlying25 rfl (by with_reducible exact get_20 _ _) ?_ | refine H.load1 rfl (ty := 25) rfl rfl 0 rfl Tryz.underlying25 rfl (by with_reducible exact get_21 _ _) ?_ | refine H.load1 rfl (ty := 25) rfl rfl 0 rfl Tryz.underlying25 rfl (by with_reducible exact limbs_o0 _) ?_ | refine H.load1 rfl (ty := 25) rfl rfl 0 rfl Tryz.underlying25 rfl (by with_reducible exact limbs_o1 _) ?_ | refine H.load1 rfl (ty := 25) rfl rfl 0 rfl Tryz.underlying25 rfl (by with_reducible exact limbs_o2 _) ?_ | refine H.load1 rfl (ty := 25) rfl rfl 0 rfl Tryz.underlying25 rfl (by with_reducible exact limbs_o3 _) ?_ | refine H.load1 rfl (ty := 25) rfl rfl 0 rfl Tryz.underlying25 rfl (by with_reducible exact limbs_o4 _) ?_ | refine H.load1 rfl (ty := 25) rfl rfl 0 rfl Tryz.underlying25 rfl (by with_reducible exact limbs_o5 _) ?_ | refine H.load1 rfl (ty := 25) rfl rfl 0 rfl Tryz.underlying25 rfl (by with_reducible exact get_10 _) ?_ | refine H.load1 rfl (ty := 25) rfl rfl 1 rfl Tryz.underlying25 rfl (by with_reducible exact get_20 _ _) ?_ | refine H.load1 rfl (ty := 25) rfl rfl 1 rfl Tryz.underlying25 rfl (by with_reducible exact get_21 _ _) ?_ | refine H.load1 rfl (ty := 25) rfl rfl 1 rfl Tryz.underlying25 rfl (by with_reducible exact limbs_o0 _) ?_ | refine H.load1 rfl (ty := 25) rfl rfl 1 rfl Tryz.underlying25 rfl (by with_reducible exact limbs_o1 _) ?_ | refine H.load1 rfl (ty := 25) rfl rfl 1 rfl Tryz.underlying25 rfl (by with_reducible exact limbs_o2 _) ?_ | refine H.load1 rfl (ty := 25) rfl rfl 1 rfl Tryz.underlying25 rfl (by with_reducible exact limbs_o3 _) ?_ | refine H.load1 rfl (ty := 25) rfl rfl 1 rfl Tryz.underlying25 rfl (by with_reducible exact limbs_o4 _) ?_ | refine H.load1 rfl (ty := 25) rfl rfl 1 rfl Tryz.underlying25 rfl (by with_reducible exact limbs_o5 _) ?_ | refine H.load1 rfl (ty := 25) rfl rfl 1 rfl Tryz.underlying25 rfl (by with_reducible exact get_10 _) ?_); simp only [Act.put, q1_, q2_, q3_, List.set_nil])
    | ((with_reducible show wpList _ _ _ (⟨_, .store 27 _ _, _, _, _, _⟩ :: _) _ _); (first | refine H.store rfl (ty := 27) rfl rfl (cells_agg _) 0 rfl v2_ (by exact tB_s) (one_of rfl) (ble_le rfl) ?_ | refine H.store rfl (ty := 27) rfl rfl (cells_agg _) 1 rfl v2_ (by exact tB_s) (one_of rfl) (ble_le rfl) ?_); (intro w H; simp only [q2_, q3_] at H; simp only [Act.put, q1_, q2_, q3_, List.set_nil]))
    | ((with_reducible show wpList _ _ _ (⟨_, .store 25 _ _, _, _, _, _⟩ :: _) _ _); (first | refine H.store rfl (ty := 25) rfl rfl (cells_int _ _) 0 rfl (by with_reducible exact set_20 _ _ _) (by exact tu_s) (one_of rfl) (ble_le rfl) ?_ | refine H.store rfl (ty := 25) rfl rfl (cells_int _ _) 0 rfl (by with_reducible exact set_21 _ _ _) (by exact tu_s) (one_of rfl) (ble_le rfl) ?_ | refine H.store rfl (ty := 25) rfl rfl (cells_int _ _) 0 rfl (by with_reducible exact set_10 _ _) (by exact tu_s) (one_of rfl) (ble_le rfl) ?_ | refine H.store rfl (ty := 25) rfl rfl (cells_int _ _) 1 rfl (by with_reducible exact set_20 _ _ _) (by exact tu_s) (one_of rfl) (ble_le rfl) ?_ | refine H.store rfl (ty := 25) rfl rfl (cells_int _ _) 1 rfl (by with_reducible exact set_21 _ _ _) (by exact tu_s) (one_of rfl) (ble_le rfl) ?_ | refine H.store rfl (ty := 25) rfl rfl (cells_int _ _) 1 rfl (by with_reducible exact set_10 _ _) (by exact tu_s) (one_of rfl) (ble_le rfl) ?_); (intro w H; simp only [q2_, q3_] at H; simp only [Act.put, q1_, q2_, q3_, List.set_nil]))
    | (go_at_call 76; ((with_reducible refine (cI _).mono ?_); rintro e w ⟨rfl, hb⟩; replace H := H.call hb; clear hb))
    )
  (first | refine bodyPost_ret (results_c rfl rfl (H.result 0 rfl Tryz.underlying27 rfl (by exact tB_s) (ext_2 _ _))) rfl ⟨?_, H.below⟩ | refine bodyPost_ret (results_c rfl rfl (H.result 1 rfl Tryz.underlying27 rfl (by exact tB_s) (ext_2 _ _))) rfl ⟨?_, H.below⟩)
  exact rfl
theorem shapeGreatest_any (f : Nat) (neg : Bool) (w : World) (hf : f < 256) :
    Calls Tryz.prog 209 #[.int .u8 f, .bool neg] w fun e w' => e = .returned (BV (greatN f neg)) ∧ Below w.heap.size w w' := by
  rcases forms f with rfl | rfl | rfl | rfl | h
  · exact shapeGreatest_0 neg w
  · exact shapeGreatest_1 neg w
  · exact shapeGreatest_2 neg w
  · exact shapeGreatest_3 neg w
  · exact shapeGreatest_no f neg w hf (by omega)
theorem roundRight_no (f m : Nat) (w : World) (hf : f < 256) (h4 : ¬ f < 4) :
    Calls Tryz.prog 153 #[.int .u8 f, .int .u8 m] w fun e w' => e = .returned (.bool false) ∧ w = w' := by
  go_enter Tryz.func153, Tryz.ntmps153
  go_wp2_with (first | (go_at_call 72; ((with_reducible refine (shapeCheck_any f _ hf).mono ?_); rw [decide_eq_false h4]; rintro e w' ⟨rfl, rfl⟩)))
  go_ret
  exact ⟨rfl, rfl⟩
theorem roundRight_yes (f m : Nat) (w : World) (hf : f < 256) (hm : m < 256) (h4 : f < 4) :
    Calls Tryz.prog 153 #[.int .u8 f, .int .u8 m] w fun e w' => e = .returned (.bool (decide (m < 5))) ∧ w = w' := by
  by_cases h5 : m < 5
  · rw [decide_eq_true h5]
    go_enter Tryz.func153, Tryz.ntmps153
    go_wp2_with (first | (go_at_call 72; ((with_reducible refine (shapeCheck_any f _ hf).mono ?_); rw [decide_eq_true h4]; rintro e w' ⟨rfl, rfl⟩)) | (go_at_call 73; ((with_reducible refine (shapeCheckMode_any m _ hm).mono ?_); rw [decide_eq_true h5]; rintro e w' ⟨rfl, rfl⟩)))
    go_ret
    exact ⟨rfl, rfl⟩
  rw [decide_eq_false h5]
  go_enter Tryz.func153, Tryz.ntmps153
  go_wp2_with (first | (go_at_call 72; ((with_reducible refine (shapeCheck_any f _ hf).mono ?_); rw [decide_eq_true h4]; rintro e w' ⟨rfl, rfl⟩)) | (go_at_call 73; ((with_reducible refine (shapeCheckMode_any m _ hm).mono ?_); rw [decide_eq_false h5]; rintro e w' ⟨rfl, rfl⟩)))
  go_ret
  exact ⟨rfl, rfl⟩
theorem roundRight_any (f m : Nat) (w : World) (hf : f < 256) (hm : m < 256) :
    Calls Tryz.prog 153 #[.int .u8 f, .int .u8 m] w fun e w' => e = .returned (.bool (decide (f < 4) && decide (m < 5))) ∧ w = w' := by
  by_cases h4 : f < 4
  · rw [decide_eq_true h4, Bool.true_and]; exact roundRight_yes f m w hf hm h4
  · rw [decide_eq_false h4, Bool.false_and]; exact roundRight_no f m w hf h4
theorem roundOver_0 (f : Nat) (neg : Bool) (w : World) (hf : f < 256) (cR : ∀ w, Calls Tryz.prog 153 #[.int .u8 f, .int .u8 0] w fun e w' => e = .returned (.bool true) ∧ w = w') :
    Calls Tryz.prog 156 #[.int .u8 f, .int .u8 0, .bool neg] w fun e w' => e = .returned (.tuple #[BV (infN f neg), .int .u8 5, .int .i64 0]) ∧ Below w.heap.size w w' := by
  have H := Own.start w
  go_enter Tryz.func156, Tryz.ntmps156
  go_wp2_with (first
    | ((with_reducible show wpList _ _ _ (⟨_, .box _ _, _, _, _, _⟩ :: _) _ _); refine H.box rfl rfl (cells_agg _) ?_; (intro g w H; simp only [Act.put, q1_, q2_, q3_, List.set_nil]))
    | ((with_reducible show wpList _ _ _ (⟨_, .alloc 27, _, _, _, _⟩ :: _) _ _); refine H.new rfl (T := 27) rfl tB_z (cells_agg _) ?_; (intro g w H; simp only [Act.put, q1_, q2_, q3_, List.set_nil]))
    | ((with_reducible show wpList _ _ _ (⟨_, .load 27 _, _, _, _, _⟩ :: _) _ _); refine H.load rfl (ty := 27) rfl rfl 0 rfl Tryz.underlying27 rfl (by with_reducible exact ext_2 _ _) (by exact tB_s) ?_; simp only [Act.put, q1_, q2_, q3_, List.set_nil])
    | ((with_reducible show wpList _ _ _ (⟨_, .store 27 _ _, _, _, _, _⟩ :: _) _ _); refine H.store rfl (ty := 27) rfl rfl (cells_agg _) 0 rfl v2_ (by exact tB_s) (one_of rfl) (ble_le rfl) ?_; (intro w H; simp only [q2_, q3_] at H; simp only [Act.put, q1_, q2_, q3_, List.set_nil]))
    | (go_at_call 153; ((with_reducible refine (cR _).mono ?_); rintro e w' ⟨rfl, rfl⟩))
    | ((first | go_at_call 209 | go_at_call 76); (with_reducible first | refine (shapeGreatest_any f neg _ hf).mono ?_ | refine (shapeInf_any f neg _ hf).mono ?_); rintro e w ⟨rfl, hb⟩; replace H := H.call hb; clear hb)
    )
  refine bodyPost_ret (results_ctt rfl rfl (H.result 0 rfl Tryz.underlying27 rfl (by exact tB_s) (ext_2 _ _))) rfl ⟨?_, H.below⟩
  exact rfl
theorem roundOver_1 (f : Nat) (neg : Bool) (w : World) (hf : f < 256) (cR : ∀ w, Calls Tryz.prog 153 #[.int .u8 f, .int .u8 1] w fun e w' => e = .returned (.bool true) ∧ w = w') :
    Calls Tryz.prog 156 #[.int .u8 f, .int .u8 1, .bool neg] w fun e w' => e = .returned (.tuple #[BV (greatN f neg), .int .u8 5, .int .i64 0]) ∧ Below w.heap.size w w' := by
  have H := Own.start w
  go_enter Tryz.func156, Tryz.ntmps156
  go_wp2_with (first
    | ((with_reducible show wpList _ _ _ (⟨_, .box _ _, _, _, _, _⟩ :: _) _ _); refine H.box rfl rfl (cells_agg _) ?_; (intro g w H; simp only [Act.put, q1_, q2_, q3_, List.set_nil]))
    | ((with_reducible show wpList _ _ _ (⟨_, .alloc 27, _, _, _, _⟩ :: _) _ _); refine H.new rfl (T := 27) rfl tB_z (cells_agg _) ?_; (intro g w H; simp only [Act.put, q1_, q2_, q3_, List.set_nil]))
    | ((with_reducible show wpList _ _ _ (⟨_, .load 27 _, _, _, _, _⟩ :: _) _ _); refine H.load rfl (ty := 27) rfl rfl 0 rfl Tryz.underlying27 rfl (by with_reducible exact ext_2 _ _) (by exact tB_s) ?_; simp only [Act.put, q1_, q2_, q3_, List.set_nil])
    | ((with_reducible show wpList _ _ _ (⟨_, .store 27 _ _, _, _, _, _⟩ :: _) _ _); refine H.store rfl (ty := 27) rfl rfl (cells_agg _) 0 rfl v2_ (by exact tB_s) (one_of rfl) (ble_le rfl) ?_; (intro w H; simp only [q2_, q3_] at H; simp only [Act.put, q1_, q2_, q3_, List.set_nil]))
    | (go_at_call 153; ((with_reducible refine (cR _).mono ?_); rintro e w' ⟨rfl, rfl⟩))
    | ((first | go_at_call 209 | go_at_call 76); (with_reducible first | refine (shapeGreatest_any f neg _ hf).mono ?_ | refine (shapeInf_any f neg _ hf).mono ?_); rintro e w ⟨rfl, hb⟩; replace H := H.call hb; clear hb)
    )
  refine bodyPost_ret (results_ctt rfl rfl (H.result 0 rfl Tryz.underlying27 rfl (by exact tB_s) (ext_2 _ _))) rfl ⟨?_, H.below⟩
  exact rfl
theorem roundOver_2t (f : Nat) (w : World) (hf : f < 256) (cR : ∀ w, Calls Tryz.prog 153 #[.int .u8 f, .int .u8 2] w fun e w' => e = .returned (.bool true) ∧ w = w') :
    Calls Tryz.prog 156 #[.int .u8 f, .int .u8 2, .bool true] w fun e w' => e = .returned (.tuple #[BV (infN f true), .int .u8 5, .int .i64 0]) ∧ Below w.heap.size w w' := by
  have H := Own.start w
  go_enter Tryz.func156, Tryz.ntmps156
  go_wp2_with (first
    | ((with_reducible show wpList _ _ _ (⟨_, .box _ _, _, _, _, _⟩ :: _) _ _); refine H.box rfl rfl (cells_agg _) ?_; (intro g w H; simp only [Act.put, q1_, q2_, q3_, List.set_nil]))
    | ((with_reducible show wpList _ _ _ (⟨_, .alloc 27, _, _, _, _⟩ :: _) _ _); refine H.new rfl (T := 27) rfl tB_z (cells_agg _) ?_; (intro g w H; simp only [Act.put, q1_, q2_, q3_, List.set_nil]))
    | ((with_reducible show wpList _ _ _ (⟨_, .load 27 _, _, _, _, _⟩ :: _) _ _); refine H.load rfl (ty := 27) rfl rfl 0 rfl Tryz.underlying27 rfl (by with_reducible exact ext_2 _ _) (by exact tB_s) ?_; simp only [Act.put, q1_, q2_, q3_, List.set_nil])
    | ((with_reducible show wpList _ _ _ (⟨_, .store 27 _ _, _, _, _, _⟩ :: _) _ _); refine H.store rfl (ty := 27) rfl rfl (cells_agg _) 0 rfl v2_ (by exact tB_s) (one_of rfl) (ble_le rfl) ?_; (intro w H; simp only [q2_, q3_] at H; simp only [Act.put, q1_, q2_, q3_, List.set_nil]))
    | (go_at_call 153; ((with_reducible refine (cR _).mono ?_); rintro e w' ⟨rfl, rfl⟩))
    | ((first | go_at_call 209 | go_at_call 76); (with_reducible first | refine (shapeGreatest_any f true _ hf).mono ?_ | refine (shapeInf_any f true _ hf).mono ?_); rintro e w ⟨rfl, hb⟩; replace H := H.call hb; clear hb)
    )
  refine bodyPost_ret (results_ctt rfl rfl (H.result 0 rfl Tryz.underlying27 rfl (by exact tB_s) (ext_2 _ _))) rfl ⟨?_, H.below⟩
  exact rfl
theorem roundOver_2f (f : Nat) (w : World) (hf : f < 256) (cR : ∀ w, Calls Tryz.prog 153 #[.int .u8 f, .int .u8 2] w fun e w' => e = .returned (.bool true) ∧ w = w') :
    Calls Tryz.prog 156 #[.int .u8 f, .int .u8 2, .bool false] w fun e w' => e = .returned (.tuple #[BV (greatN f false), .int .u8 5, .int .i64 0]) ∧ Below w.heap.size w w' := by
  have H := Own.start w
  go_enter Tryz.func156, Tryz.ntmps156
  go_wp2_with (first
    | ((with_reducible show wpList _ _ _ (⟨_, .box _ _, _, _, _, _⟩ :: _) _ _); refine H.box rfl rfl (cells_agg _) ?_; (intro g w H; simp only [Act.put, q1_, q2_, q3_, List.set_nil]))
    | ((with_reducible show wpList _ _ _ (⟨_, .alloc 27, _, _, _, _⟩ :: _) _ _); refine H.new rfl (T := 27) rfl tB_z (cells_agg _) ?_; (intro g w H; simp only [Act.put, q1_, q2_, q3_, List.set_nil]))
    | ((with_reducible show wpList _ _ _ (⟨_, .load 27 _, _, _, _, _⟩ :: _) _ _); refine H.load rfl (ty := 27) rfl rfl 0 rfl Tryz.underlying27 rfl (by with_reducible exact ext_2 _ _) (by exact tB_s) ?_; simp only [Act.put, q1_, q2_, q3_, List.set_nil])
    | ((with_reducible show wpList _ _ _ (⟨_, .store 27 _ _, _, _, _, _⟩ :: _) _ _); refine H.store rfl (ty := 27) rfl rfl (cells_agg _) 0 rfl v2_ (by exact tB_s) (one_of rfl) (ble_le rfl) ?_; (intro w H; simp only [q2_, q3_] at H; simp only [Act.put, q1_, q2_, q3_, List.set_nil]))
    | (go_at_call 153; ((with_reducible refine (cR _).mono ?_); rintro e w' ⟨rfl, rfl⟩))
    | ((first | go_at_call 209 | go_at_call 76); (with_reducible first | refine (shapeGreatest_any f false _ hf).mono ?_ | refine (shapeInf_any f false _ hf).mono ?_); rintro e w ⟨rfl, hb⟩; replace H := H.call hb; clear hb)
    )
  refine bodyPost_ret (results_ctt rfl rfl (H.result 0 rfl Tryz.underlying27 rfl (by exact tB_s) (ext_2 _ _))) rfl ⟨?_, H.below⟩
  exact rfl
theorem roundOver_3t (f : Nat) (w : World) (hf : f < 256) (cR : ∀ w, Calls Tryz.prog 153 #[.int .u8 f, .int .u8 3] w fun e w' => e = .returned (.bool true) ∧ w = w') :
    Calls Tryz.prog 156 #[.int .u8 f, .int .u8 3, .bool true] w fun e w' => e = .returned (.tuple #[BV (greatN f true), .int .u8 5, .int .i64 0]) ∧ Below w.heap.size w w' := by
  have H := Own.start w
  go_enter Tryz.func156, Tryz.ntmps156
  go_wp2_with (first
    | ((with_reducible show wpList _ _ _ (⟨_, .box _ _, _, _, _, _⟩ :: _) _ _); refine H.box rfl rfl (cells_agg _) ?_; (intro g w H; simp only [Act.put, q1_, q2_, q3_, List.set_nil]))
    | ((with_reducible show wpList _ _ _ (⟨_, .alloc 27, _, _, _, _⟩ :: _) _ _); refine H.new rfl (T := 27) rfl tB_z (cells_agg _) ?_; (intro g w H; simp only [Act.put, q1_, q2_, q3_, List.set_nil]))
    | ((with_reducible show wpList _ _ _ (⟨_, .load 27 _, _, _, _, _⟩ :: _) _ _); refine H.load rfl (ty := 27) rfl rfl 0 rfl Tryz.underlying27 rfl (by with_reducible exact ext_2 _ _) (by exact tB_s) ?_; simp only [Act.put, q1_, q2_, q3_, List.set_nil])
    | ((with_reducible show wpList _ _ _ (⟨_, .store 27 _ _, _, _, _, _⟩ :: _) _ _); refine H.store rfl (ty := 27) rfl rfl (cells_agg _) 0 rfl v2_ (by exact tB_s) (one_of rfl) (ble_le rfl) ?_; (intro w H; simp only [q2_, q3_] at H; simp only [Act.put, q1_, q2_, q3_, List.set_nil]))
    | (go_at_call 153; ((with_reducible refine (cR _).mono ?_); rintro e w' ⟨rfl, rfl⟩))
    | ((first | go_at_call 209 | go_at_call 76); (with_reducible first | refine (shapeGreatest_any f true _ hf).mono ?_ | refine (shapeInf_any f true _ hf).mono ?_); rintro e w ⟨rfl, hb⟩; replace H := H.call hb; clear hb)
    )
  refine bodyPost_ret (results_ctt rfl rfl (H.result 0 rfl Tryz.underlying27 rfl (by exact tB_s) (ext_2 _ _))) rfl ⟨?_, H.below⟩
  exact rfl
theorem roundOver_3f (f : Nat) (w : World) (hf : f < 256) (cR : ∀ w, Calls Tryz.prog 153 #[.int .u8 f, .int .u8 3] w fun e w' => e = .returned (.bool true) ∧ w = w') :
    Calls Tryz.prog 156 #[.int .u8 f, .int .u8 3, .bool false] w fun e w' => e = .returned (.tuple #[BV (infN f false), .int .u8 5, .int .i64 0]) ∧ Below w.heap.size w w' := by
  have H := Own.start w
  go_enter Tryz.func156, Tryz.ntmps156
  go_wp2_with (first
    | ((with_reducible show wpList _ _ _ (⟨_, .box _ _, _, _, _, _⟩ :: _) _ _); refine H.box rfl rfl (cells_agg _) ?_; (intro g w H; simp only [Act.put, q1_, q2_, q3_, List.set_nil]))
    | ((with_reducible show wpList _ _ _ (⟨_, .alloc 27, _, _, _, _⟩ :: _) _ _); refine H.new rfl (T := 27) rfl tB_z (cells_agg _) ?_; (intro g w H; simp only [Act.put, q1_, q2_, q3_, List.set_nil]))
    | ((with_reducible show wpList _ _ _ (⟨_, .load 27 _, _, _, _, _⟩ :: _) _ _); refine H.load rfl (ty := 27) rfl rfl 0 rfl Tryz.underlying27 rfl (by with_reducible exact ext_2 _ _) (by exact tB_s) ?_; simp only [Act.put, q1_, q2_, q3_, List.set_nil])
    | ((with_reducible show wpList _ _ _ (⟨_, .store 27 _ _, _, _, _, _⟩ :: _) _ _); refine H.store rfl (ty := 27) rfl rfl (cells_agg _) 0 rfl v2_ (by exact tB_s) (one_of rfl) (ble_le rfl) ?_; (intro w H; simp only [q2_, q3_] at H; simp only [Act.put, q1_, q2_, q3_, List.set_nil]))
    | (go_at_call 153; ((with_reducible refine (cR _).mono ?_); rintro e w' ⟨rfl, rfl⟩))
    | ((first | go_at_call 209 | go_at_call 76); (with_reducible first | refine (shapeGreatest_any f false _ hf).mono ?_ | refine (shapeInf_any f false _ hf).mono ?_); rintro e w ⟨rfl, hb⟩; replace H := H.call hb; clear hb)
    )
  refine bodyPost_ret (results_ctt rfl rfl (H.result 0 rfl Tryz.underlying27 rfl (by exact tB_s) (ext_2 _ _))) rfl ⟨?_, H.below⟩
  exact rfl
theorem roundOver_4 (f : Nat) (neg : Bool) (w : World) (hf : f < 256) (cR : ∀ w, Calls Tryz.prog 153 #[.int .u8 f, .int .u8 4] w fun e w' => e = .returned (.bool true) ∧ w = w') :
    Calls Tryz.prog 156 #[.int .u8 f, .int .u8 4, .bool neg] w fun e w' => e = .returned (.tuple #[BV (infN f neg), .int .u8 5, .int .i64 0]) ∧ Below w.heap.size w w' := by
  have H := Own.start w
  go_enter Tryz.func156, Tryz.ntmps156
  go_wp2_with (first
    | ((with_reducible show wpList _ _ _ (⟨_, .box _ _, _, _, _, _⟩ :: _) _ _); refine H.box rfl rfl (cells_agg _) ?_; (intro g w H; simp only [Act.put, q1_, q2_, q3_, List.set_nil]))
    | ((with_reducible show wpList _ _ _ (⟨_, .alloc 27, _, _, _, _⟩ :: _) _ _); refine H.new rfl (T := 27) rfl tB_z (cells_agg _) ?_; (intro g w H; simp only [Act.put, q1_, q2_, q3_, List.set_nil]))
    | ((with_reducible show wpList _ _ _ (⟨_, .load 27 _, _, _, _, _⟩ :: _) _ _); refine H.load rfl (ty := 27) rfl rfl 0 rfl Tryz.underlying27 rfl (by with_reducible exact ext_2 _ _) (by exact tB_s) ?_; simp only [Act.put, q1_, q2_, q3_, List.set_nil])
    | ((with_reducible show wpList _ _ _ (⟨_, .store 27 _ _, _, _, _, _⟩ :: _) _ _); refine H.store rfl (ty := 27) rfl rfl (cells_agg _) 0 rfl v2_ (by exact tB_s) (one_of rfl) (ble_le rfl) ?_; (intro w H; simp only [q2_, q3_] at H; simp only [Act.put, q1_, q2_, q3_, List.set_nil]))
    | (go_at_call 153; ((with_reducible refine (cR _).mono ?_); rintro e w' ⟨rfl, rfl⟩))
    | ((first | go_at_call 209 | go_at_call 76); (with_reducible first | refine (shapeGreatest_any f neg _ hf).mono ?_ | refine (shapeInf_any f neg _ hf).mono ?_); rintro e w ⟨rfl, hb⟩; replace H := H.call hb; clear hb)
    )
  refine bodyPost_ret (results_ctt rfl rfl (H.result 0 rfl Tryz.underlying27 rfl (by exact tB_s) (ext_2 _ _))) rfl ⟨?_, H.below⟩
  exact rfl
theorem roundOver_any (f m : Nat) (neg : Bool) (w : World) (hf : f < 4) (hm : m < 5) :
    Calls Tryz.prog 156 #[.int .u8 f, .int .u8 m, .bool neg] w fun e w' => e = .returned (.tuple #[BV (overN f m neg), .int .u8 5, .int .i64 0]) ∧ Below w.heap.size w w' := by
  have cR := fun w => roundRight_any f m w (by omega) (by omega)
  rw [decide_eq_true hf, decide_eq_true hm] at cR
  have : m = 0 ∨ m = 1 ∨ m = 2 ∨ m = 3 ∨ m = 4 := by omega
  rcases this with rfl | rfl | rfl | rfl | rfl
  · exact roundOver_0 f neg w (by omega) cR
  · exact roundOver_1 f neg w (by omega) cR
  · cases neg
    · exact roundOver_2f f w (by omega) cR
    · exact roundOver_2t f w (by omega) cR
  · cases neg
    · exact roundOver_3f f w (by omega) cR
    · exact roundOver_3t f w (by omega) cR
  · exact roundOver_4 f neg w (by omega) cR
open Go.RowKit
theorem set_bits (a b c d : Value) : setRow #[a, b] 0 (#[c, d] : Array Value).toList = #[c, d] := set_all _ _ rfl
theorem roundTiny_ne (f m s p : Nat) (e top lo : Int) (neg mo : Bool) (w : World) (hT : Tab w) (hp : p ≤ 113) (l1 : -20000 ≤ lo) (l2 : lo ≤ 20000) (t1 : -1100000 ≤ top) (t2 : top ≤ 1100000) (hne : (top == lo - 1) = false) (cE : CK_ 154 #[.int .u8 f] (.int .i64 lo)) (cP : CK_ 102 #[.int .u8 f] (.int .i64 (p : Nat))) :
    Calls Tryz.prog 158 #[.int .u8 f, .int .u8 m, RV neg s e mo, .int .i64 top] w fun e w' => e = .returned (.bool (decide (top < lo))) ∧ Below w.heap.size w w' := by
  have H := Own.start w
  have HT := Lib.hid hT
  clear hT
  have hne2 : (top != lo - 1) = true := by rw [bne, hne]; rfl
  go_enter Tryz.func158, Tryz.ntmps158
  exact walk2
theorem roundTiny_eq (f m s p k lk : Nat) (e top lo at_ : Int) (neg mo ex : Bool) (w : World) (hT : Tab w) (hp : p ≤ 113) (l1 : -20000 ≤ lo) (l2 : lo ≤ 20000) (t1 : -1100000 ≤ top) (t2 : top ≤ 1100000) (heq : (top == lo - 1) = true) (ha : top - (p : Int) + 1 = at_) (cE : CK_ 154 #[.int .u8 f] (.int .i64 lo)) (cP : CK_ 102 #[.int .u8 f] (.int .i64 (p : Nat))) (cG : CT_ 157 #[.int .u8 m, RV neg s e mo, .int .i64 at_] (.tuple #[W k, .bool ex])) (cK : CK_ 103 #[W k] (.int .i64 (lk : Nat))) :
    Calls Tryz.prog 158 #[.int .u8 f, .int .u8 m, RV neg s e mo, .int .i64 top] w fun e w' => e = .returned (.bool (decide (lk ≤ p))) ∧ Below w.heap.size w w' := by
  have H := Own.start w
  have HT := Lib.hid hT
  clear hT
  have hne2 : (top != lo - 1) = false := by rw [bne, heq]; rfl
  go_enter Tryz.func158, Tryz.ntmps158
  exact walk2
theorem roundPack_right (f m s p : Nat) (e : Int) (neg mo : Bool) (w : World) (hp : p ≤ 113) (cP : CK_ 102 #[.int .u8 f] (.int .i64 (p : Nat))) (cR : ∀ w, Calls Tryz.prog 153 #[.int .u8 f, .int .u8 m] w fun e w' => e = .returned (.bool false) ∧ w = w') :
    Calls Tryz.prog 61 #[.int .u8 f, .int .u8 m, RV neg s e mo] w fun e w' => e = .returned (.tuple #[BV 0, .int .u8 0, .int .i64 2]) ∧ Below w.heap.size w w' := by
  have H := Own.start w
  go_enter Tryz.func61, Tryz.ntmps61
  exact walk1
theorem roundPack_low (f m s p : Nat) (e : Int) (neg mo : Bool) (w : World) (hp : p ≤ 113) (he : e < -1048576) (cP : CK_ 102 #[.int .u8 f] (.int .i64 (p : Nat))) (cR : ∀ w, Calls Tryz.prog 153 #[.int .u8 f, .int .u8 m] w fun e w' => e = .returned (.bool true) ∧ w = w') :
    Calls Tryz.prog 61 #[.int .u8 f, .int .u8 m, RV neg s e mo] w fun e w' => e = .returned (.tuple #[BV 0, .int .u8 0, .int .i64 2]) ∧ Below w.heap.size w w' := by
  have H := Own.start w
  have he2 : decide (e < -1048576) = true := by simpa using he
  go_enter Tryz.func61, Tryz.ntmps61
  exact walk1
theorem roundPack_high (f m s p : Nat) (e : Int) (neg mo : Bool) (w : World) (hp : p ≤ 113) (he : 1048576 < e) (cP : CK_ 102 #[.int .u8 f] (.int .i64 (p : Nat))) (cR : ∀ w, Calls Tryz.prog 153 #[.int .u8 f, .int .u8 m] w fun e w' => e = .returned (.bool true) ∧ w = w') :
    Calls Tryz.prog 61 #[.int .u8 f, .int .u8 m, RV neg s e mo] w fun e w' => e = .returned (.tuple #[BV 0, .int .u8 0, .int .i64 2]) ∧ Below w.heap.size w w' := by
  have H := Own.start w
  have he2 : decide (e < -1048576) = false := by simp; omega
  have he3 : decide (1048576 < e) = true := by simpa using he
  go_enter Tryz.func61, Tryz.ntmps61
  exact walk1
theorem roundPack_more (f m s p l : Nat) (e : Int) (neg : Bool) (w : World) (hp : p ≤ 113) (h1 : -1048576 ≤ e) (h2 : e ≤ 1048576) (hl : l < p + 2) (hl4 : l ≤ 384) (cP : CK_ 102 #[.int .u8 f] (.int .i64 (p : Nat))) (cR : ∀ w, Calls Tryz.prog 153 #[.int .u8 f, .int .u8 m] w fun e w' => e = .returned (.bool true) ∧ w = w') (cL : CK_ 103 #[W s] (.int .i64 (l : Nat))) :
    Calls Tryz.prog 61 #[.int .u8 f, .int .u8 m, RV neg s e true] w fun e w' => e = .returned (.tuple #[BV 0, .int .u8 0, .int .i64 2]) ∧ Below w.heap.size w w' := by
  have H := Own.start w
  have he2 : decide (e < -1048576) = false := by simp; omega
  have he3 : decide (1048576 < e) = false := by simp; omega
  have hl2 : decide ((l : Int) < (p : Int) + 2) = true := by simp; omega
  go_enter Tryz.func61, Tryz.ntmps61
  exact walk1
theorem roundPack_zero_f (f m s p l z : Nat) (e : Int) (neg : Bool) (w : World) (hT : Tab w) (hp : p ≤ 113) (h1 : -1048576 ≤ e) (h2 : e ≤ 1048576) (hl4 : l ≤ 384) (cP : CK_ 102 #[.int .u8 f] (.int .i64 (p : Nat))) (cR : ∀ w, Calls Tryz.prog 153 #[.int .u8 f, .int .u8 m] w fun e w' => e = .returned (.bool true) ∧ w = w') (cL : CK_ 103 #[W s] (.int .i64 (l : Nat))) (hs : s < top6) (hs0 : decide (s = 0) = true) (cZ : CK_ 91 #[.int .u8 f, .bool neg] (BV z)) :
    Calls Tryz.prog 61 #[.int .u8 f, .int .u8 m, RV neg s e false] w fun e w' => e = .returned (.tuple #[BV z, .int .u8 0, .int .i64 0]) ∧ Below w.heap.size w w' := by
  have H := Own.start w
  have HT := Lib.hid hT
  clear hT
  have he2 : decide (e < -1048576) = false := by simp; omega
  have he3 : decide (1048576 < e) = false := by simp; omega
  have eq1 : ∀ w, (Op.equalIn 10000 63 (.agg (limbs s)) (.agg #[.int .u64 0, .int .u64 0, .int .u64 0, .int .u64 0, .int .u64 0, .int .u64 0])).run Tryz.prog w = .ok true w := fun w => (run_equal_zero w s hs).trans (by rw [hs0])
  clear hs hs0
  go_enter Tryz.func61, Tryz.ntmps61
  exact walk1
theorem roundPack_over_f (f m s p l E o : Nat) (e top lo : Int) (neg : Bool) (w : World) (hT : Tab w) (hp : p ≤ 113) (h1 : -1048576 ≤ e) (h2 : e ≤ 1048576) (hl4 : l ≤ 384) (cP : CK_ 102 #[.int .u8 f] (.int .i64 (p : Nat))) (cR : ∀ w, Calls Tryz.prog 153 #[.int .u8 f, .int .u8 m] w fun e w' => e = .returned (.bool true) ∧ w = w') (cL : CK_ 103 #[W s] (.int .i64 (l : Nat))) (hs : s < top6) (hs0 : decide (s = 0) = false) (htop : (l : Int) - 1 + e = top) (l1 : -20000 ≤ lo) (l2 : lo ≤ 20000) (t1 : -1100000 ≤ top) (t2 : top ≤ 1100000) (hE : E ≤ 16383) (cE : CK_ 154 #[.int .u8 f] (.int .i64 lo)) (cX : CK_ 155 #[.int .u8 f] (.int .i64 (E : Nat))) (hov : (E : Int) < top) (cO : CK_ 156 #[.int .u8 f, .int .u8 m, .bool neg] (.tuple #[BV o, .int .u8 5, .int .i64 0])) :
    Calls Tryz.prog 61 #[.int .u8 f, .int .u8 m, RV neg s e false] w fun e w' => e = .returned (.tuple #[BV o, .int .u8 5, .int .i64 0]) ∧ Below w.heap.size w w' := by
  have H := Own.start w
  have HT := Lib.hid hT
  clear hT
  have he2 : decide (e < -1048576) = false := by simp; omega
  have he3 : decide (1048576 < e) = false := by simp; omega
  have eq1 : ∀ w, (Op.equalIn 10000 63 (.agg (limbs s)) (.agg #[.int .u64 0, .int .u64 0, .int .u64 0, .int .u64 0, .int .u64 0, .int .u64 0])).run Tryz.prog w = .ok false w := fun w => (run_equal_zero w s hs).trans (by rw [hs0])
  have v1 : IntKind.i64.wrap ((l : Int) - 1) = (l : Int) - 1 := IntWalk.i64_in _ (by omega)
  have v2 : IntKind.i64.wrap ((l : Int) - 1 + e) = top := by rw [htop]; exact IntWalk.i64_in _ (by omega)
  clear hs hs0 htop
  go_enter Tryz.func61, Tryz.ntmps61
  exact walk2
theorem roundPack_zero_t (f m s p l z : Nat) (e : Int) (neg : Bool) (w : World) (hT : Tab w) (hp : p ≤ 113) (h1 : -1048576 ≤ e) (h2 : e ≤ 1048576) (hl4 : l ≤ 384) (hl : ¬ l < p + 2) (cP : CK_ 102 #[.int .u8 f] (.int .i64 (p : Nat))) (cR : ∀ w, Calls Tryz.prog 153 #[.int .u8 f, .int .u8 m] w fun e w' => e = .returned (.bool true) ∧ w = w') (cL : CK_ 103 #[W s] (.int .i64 (l : Nat))) (hs : s < top6) (hs0 : decide (s = 0) = true) (cZ : CK_ 91 #[.int .u8 f, .bool neg] (BV z)) :
    Calls Tryz.prog 61 #[.int .u8 f, .int .u8 m, RV neg s e true] w fun e w' => e = .returned (.tuple #[BV z, .int .u8 0, .int .i64 0]) ∧ Below w.heap.size w w' := by
  have H := Own.start w
  have HT := Lib.hid hT
  clear hT
  have he2 : decide (e < -1048576) = false := by simp; omega
  have he3 : decide (1048576 < e) = false := by simp; omega
  have hl2 : decide ((l : Int) < (p : Int) + 2) = false := by simp; omega
  have eq1 : ∀ w, (Op.equalIn 10000 63 (.agg (limbs s)) (.agg #[.int .u64 0, .int .u64 0, .int .u64 0, .int .u64 0, .int .u64 0, .int .u64 0])).run Tryz.prog w = .ok true w := fun w => (run_equal_zero w s hs).trans (by rw [hs0])
  clear hs hs0
  go_enter Tryz.func61, Tryz.ntmps61
  exact walk1
theorem roundPack_over_t (f m s p l E o : Nat) (e top lo : Int) (neg : Bool) (w : World) (hT : Tab w) (hp : p ≤ 113) (h1 : -1048576 ≤ e) (h2 : e ≤ 1048576) (hl4 : l ≤ 384) (hl : ¬ l < p + 2) (cP : CK_ 102 #[.int .u8 f] (.int .i64 (p : Nat))) (cR : ∀ w, Calls Tryz.prog 153 #[.int .u8 f, .int .u8 m] w fun e w' => e = .returned (.bool true) ∧ w = w') (cL : CK_ 103 #[W s] (.int .i64 (l : Nat))) (hs : s < top6) (hs0 : decide (s = 0) = false) (htop : (l : Int) - 1 + e = top) (l1 : -20000 ≤ lo) (l2 : lo ≤ 20000) (t1 : -1100000 ≤ top) (t2 : top ≤ 1100000) (hE : E ≤ 16383) (cE : CK_ 154 #[.int .u8 f] (.int .i64 lo)) (cX : CK_ 155 #[.int .u8 f] (.int .i64 (E : Nat))) (hov : (E : Int) < top) (cO : CK_ 156 #[.int .u8 f, .int .u8 m, .bool neg] (.tuple #[BV o, .int .u8 5, .int .i64 0])) :
    Calls Tryz.prog 61 #[.int .u8 f, .int .u8 m, RV neg s e true] w fun e w' => e = .returned (.tuple #[BV o, .int .u8 5, .int .i64 0]) ∧ Below w.heap.size w w' := by
  have H := Own.start w
  have HT := Lib.hid hT
  clear hT
  have he2 : decide (e < -1048576) = false := by simp; omega
  have he3 : decide (1048576 < e) = false := by simp; omega
  have hl2 : decide ((l : Int) < (p : Int) + 2) = false := by simp; omega
  have eq1 : ∀ w, (Op.equalIn 10000 63 (.agg (limbs s)) (.agg #[.int .u64 0, .int .u64 0, .int .u64 0, .int .u64 0, .int .u64 0, .int .u64 0])).run Tryz.prog w = .ok false w := fun w => (run_equal_zero w s hs).trans (by rw [hs0])
  have v1 : IntKind.i64.wrap ((l : Int) - 1) = (l : Int) - 1 := IntWalk.i64_in _ (by omega)
  have v2 : IntKind.i64.wrap ((l : Int) - 1 + e) = top := by rw [htop]; exact IntWalk.i64_in _ (by omega)
  clear hs hs0 htop
  go_enter Tryz.func61, Tryz.ntmps61
  exact walk2
open Go.RowKit
theorem app_get (p q r : Array Value) (hp : p.size = 14) (hq : q.size = 14) (hr : r.size = 14) (j : Nat) : (p ++ q ++ r)[j]? = if j < 14 then p[j]? else if j < 28 then q[j - 14]? else r[j - 28]? := by
  rw [Array.getElem?_append, Array.getElem?_append, Array.size_append, hp, hq]
  by_cases h1 : j < 14
  · rw [if_pos (by omega), if_pos h1, if_pos h1]
  · by_cases h2 : j < 28
    · rw [if_pos (by omega), if_neg h1, if_neg h1, if_pos h2]
    · rw [if_neg (by omega), if_neg h1, if_neg h2]
theorem app_size (p q r : Array Value) (hp : p.size = 14) (hq : q.size = 14) (hr : r.size = 14) : (p ++ q ++ r).size = 42 := by rw [Array.size_append, Array.size_append, hp, hq, hr]
theorem set_app0 (p q r v : Array Value) (hp : p.size = 14) (hq : q.size = 14) (hr : r.size = 14) (hv : v.size = 14) : setRow (p ++ q ++ r) 0 v.toList = v ++ q ++ r := by
  apply Array.ext_getElem?
  intro j
  rw [setRow_at _ _ _ _ (by rw [app_size p q r hp hq hr]; omega), app_get p q r hp hq hr, app_get v q r hv hq hr, hv, if_neg (by omega)]
  by_cases h1 : j < 14
  · rw [if_pos (by omega), if_pos h1]; rfl
  · rw [if_neg (by omega), if_neg h1, if_neg h1]
theorem set_app1 (p q r v : Array Value) (hp : p.size = 14) (hq : q.size = 14) (hr : r.size = 14) (hv : v.size = 14) : setRow (p ++ q ++ r) 14 v.toList = p ++ v ++ r := by
  apply Array.ext_getElem?
  intro j
  rw [setRow_at _ _ _ _ (by rw [app_size p q r hp hq hr]; omega), app_get p q r hp hq hr, app_get p v r hp hv hr, hv]
  by_cases h1 : j < 14
  · rw [if_pos (by omega), if_pos h1, if_pos h1]
  · by_cases h2 : j < 28
    · rw [if_neg (by omega), if_pos (by omega), if_neg h1, if_pos h2]
    · rw [if_neg (by omega), if_neg (by omega), if_neg h1, if_neg h2, if_neg h1, if_neg h2]
theorem set_app2 (p q r v : Array Value) (hp : p.size = 14) (hq : q.size = 14) (hr : r.size = 14) (hv : v.size = 14) : setRow (p ++ q ++ r) 28 v.toList = p ++ q ++ v := by
  apply Array.ext_getElem?
  intro j
  rw [setRow_at _ _ _ _ (by rw [app_size p q r hp hq hr]; omega), app_get p q r hp hq hr, app_get p q v hp hq hv, hv]
  by_cases h1 : j < 14
  · rw [if_pos (by omega), if_pos h1, if_pos h1]
  · by_cases h2 : j < 28
    · rw [if_pos (by omega), if_neg h1, if_pos h2, if_neg h1, if_pos h2]
    · rw [if_neg (by omega), if_neg h1, if_neg h2]
      by_cases h3 : j < 42
      · rw [if_pos (by omega), if_neg h1, if_neg h2]
      · rw [if_neg (by omega), if_neg h1, if_neg h2, Array.getElem?_eq_none (by omega), Array.getElem?_eq_none (by omega)]
def tri (c1 s1 : Nat) (x1 : Int) (f1 : Nat) (c2 s2 : Nat) (x2 : Int) (f2 : Nat) (c3 s3 : Nat) (x3 : Int) (f3 : Nat) : Array Value := #[.int .u8 c1, .int .u64 (limb s1 0), .int .u64 (limb s1 1), .int .u64 (limb s1 2), .int .u64 (limb s1 3), .int .u64 (limb s1 4), .int .u64 (limb s1 5), .int .i64 x1, .int .u64 (limb f1 0), .int .u64 (limb f1 1), .int .u64 (limb f1 2), .int .u64 (limb f1 3), .int .u64 (limb f1 4), .int .u64 (limb f1 5), .int .u8 c2, .int .u64 (limb s2 0), .int .u64 (limb s2 1), .int .u64 (limb s2 2), .int .u64 (limb s2 3), .int .u64 (limb s2 4), .int .u64 (limb s2 5), .int .i64 x2, .int .u64 (limb f2 0), .int .u64 (limb f2 1), .int .u64 (limb f2 2), .int .u64 (limb f2 3), .int .u64 (limb f2 4), .int .u64 (limb f2 5), .int .u8 c3, .int .u64 (limb s3 0), .int .u64 (limb s3 1), .int .u64 (limb s3 2), .int .u64 (limb s3 3), .int .u64 (limb s3 4), .int .u64 (limb s3 5), .int .i64 x3, .int .u64 (limb f3 0), .int .u64 (limb f3 1), .int .u64 (limb f3 2), .int .u64 (limb f3 3), .int .u64 (limb f3 4), .int .u64 (limb f3 5)]
theorem ext_tri (c1 s1 : Nat) (x1 : Int) (f1 : Nat) (c2 s2 : Nat) (x2 : Int) (f2 : Nat) (c3 s3 : Nat) (x3 : Int) (f3 : Nat) : (tri c1 s1 x1 f1 c2 s2 x2 f2 c3 s3 x3 f3).extract 0 (0 + (tri c1 s1 x1 f1 c2 s2 x2 f2 c3 s3 x3 f3).size) = tri c1 s1 x1 f1 c2 s2 x2 f2 c3 s3 x3 f3 := by rw [Nat.zero_add]; exact Array.extract_size
theorem tri_app (c1 s1 : Nat) (x1 : Int) (f1 : Nat) (c2 s2 : Nat) (x2 : Int) (f2 : Nat) (c3 s3 : Nat) (x3 : Int) (f3 : Nat) : tri c1 s1 x1 f1 c2 s2 x2 f2 c3 s3 x3 f3 = parts c1 s1 x1 f1 ++ parts c2 s2 x2 f2 ++ parts c3 s3 x3 f3 := by unfold tri parts; simp only [List.append_toArray, List.cons_append, List.nil_append]
theorem ext_t0 (c1 s1 : Nat) (x1 : Int) (f1 : Nat) (c2 s2 : Nat) (x2 : Int) (f2 : Nat) (c3 s3 : Nat) (x3 : Int) (f3 : Nat) : (tri c1 s1 x1 f1 c2 s2 x2 f2 c3 s3 x3 f3).extract 0 (0 + (parts c1 s1 x1 f1).size) = parts c1 s1 x1 f1 := by rw [tri_app]; exact app3_0 _ _ _
theorem set_t0 (c1 s1 : Nat) (x1 : Int) (f1 : Nat) (c2 s2 : Nat) (x2 : Int) (f2 : Nat) (c3 s3 : Nat) (x3 : Int) (f3 : Nat) (c s : Nat) (x : Int) (f : Nat) : setRow (tri c1 s1 x1 f1 c2 s2 x2 f2 c3 s3 x3 f3) 0 (parts c s x f).toList = tri c s x f c2 s2 x2 f2 c3 s3 x3 f3 := by rw [tri_app, set_app0 _ _ _ _ rfl rfl rfl rfl, tri_app]
theorem ext_t1 (c1 s1 : Nat) (x1 : Int) (f1 : Nat) (c2 s2 : Nat) (x2 : Int) (f2 : Nat) (c3 s3 : Nat) (x3 : Int) (f3 : Nat) : (tri c1 s1 x1 f1 c2 s2 x2 f2 c3 s3 x3 f3).extract 14 (14 + (parts c2 s2 x2 f2).size) = parts c2 s2 x2 f2 := by rw [tri_app]; exact app3_1 _ _ _ rfl
theorem set_t1 (c1 s1 : Nat) (x1 : Int) (f1 : Nat) (c2 s2 : Nat) (x2 : Int) (f2 : Nat) (c3 s3 : Nat) (x3 : Int) (f3 : Nat) (c s : Nat) (x : Int) (f : Nat) : setRow (tri c1 s1 x1 f1 c2 s2 x2 f2 c3 s3 x3 f3) 14 (parts c s x f).toList = tri c1 s1 x1 f1 c s x f c3 s3 x3 f3 := by rw [tri_app, set_app1 _ _ _ _ rfl rfl rfl rfl, tri_app]
theorem ext_t2 (c1 s1 : Nat) (x1 : Int) (f1 : Nat) (c2 s2 : Nat) (x2 : Int) (f2 : Nat) (c3 s3 : Nat) (x3 : Int) (f3 : Nat) : (tri c1 s1 x1 f1 c2 s2 x2 f2 c3 s3 x3 f3).extract 28 (28 + (parts c3 s3 x3 f3).size) = parts c3 s3 x3 f3 := by rw [tri_app]; exact app3_2 _ _ _ rfl
theorem set_t2 (c1 s1 : Nat) (x1 : Int) (f1 : Nat) (c2 s2 : Nat) (x2 : Int) (f2 : Nat) (c3 s3 : Nat) (x3 : Int) (f3 : Nat) (c s : Nat) (x : Int) (f : Nat) : setRow (tri c1 s1 x1 f1 c2 s2 x2 f2 c3 s3 x3 f3) 28 (parts c s x f).toList = tri c1 s1 x1 f1 c2 s2 x2 f2 c s x f := by rw [tri_app, set_app2 _ _ _ _ rfl rfl rfl rfl, tri_app]
theorem tri_zero : tri 0 0 0 0 0 0 0 0 0 0 0 0 = #[.int .u8 0, .int .u64 0, .int .u64 0, .int .u64 0, .int .u64 0, .int .u64 0, .int .u64 0, .int .i64 0, .int .u64 0, .int .u64 0, .int .u64 0, .int .u64 0, .int .u64 0, .int .u64 0, .int .u8 0, .int .u64 0, .int .u64 0, .int .u64 0, .int .u64 0, .int .u64 0, .int .u64 0, .int .i64 0, .int .u64 0, .int .u64 0, .int .u64 0, .int .u64 0, .int .u64 0, .int .u64 0, .int .u8 0, .int .u64 0, .int .u64 0, .int .u64 0, .int .u64 0, .int .u64 0, .int .u64 0, .int .i64 0, .int .u64 0, .int .u64 0, .int .u64 0, .int .u64 0, .int .u64 0, .int .u64 0] := by
  unfold tri; simp only [limb_zero]; rfl
theorem t3_z : (Tryz.prog.info? 115).bind (·.zero) = some (.agg (tri 0 0 0 0 0 0 0 0 0 0 0 0)) := by rw [tri_zero]; kernel_rfl
theorem rQ : IsRow Tryz.prog 115 42 (tri 0 0 0 0 0 0 0 0 0 0 0 0) := ⟨⟨_, Tryz.underlying115, rfl⟩, t3_s, t3_z⟩
theorem set_tri (a1 a2 : Nat) (a3 : Int) (a4 a5 a6 : Nat) (a7 : Int) (a8 a9 a10 : Nat) (a11 : Int) (a12 c1 s1 : Nat) (x1 : Int) (f1 : Nat) (c2 s2 : Nat) (x2 : Int) (f2 : Nat) (c3 s3 : Nat) (x3 : Int) (f3 : Nat) : setRow (tri a1 a2 a3 a4 a5 a6 a7 a8 a9 a10 a11 a12) 0 (tri c1 s1 x1 f1 c2 s2 x2 f2 c3 s3 x3 f3).toList = tri c1 s1 x1 f1 c2 s2 x2 f2 c3 s3 x3 f3 := set_all _ _ rfl
theorem set_pw (a b : Nat) (x : Int) (d c s : Nat) (y : Int) (f : Nat) : setRow (parts a b x d) 0 (parts c s y f).toList = parts c s y f := set_all _ _ rfl
abbrev PZ : Array Value := parts 0 0 0 0
abbrev PT (f b : Nat) : Array Value := parts (clsN f b) (sigN f b) (xpN f b) (frN f b)
abbrev bc (b : Nat) : Array Value := #[.int .u64 (limb b 1), .int .u64 (limb b 0)]
theorem flag_on (b c : Bool) (h : c = true) : Value.int .u8 (Go.bits .or .u8 (cond b 16 0) 16) = .int .u8 (cond c 16 0) := by
  subst h; have : Go.bits .or .u8 (cond b 16 0) 16 = 16 := by cases b <;> decide +kernel
  rw [this]; rfl
theorem flag_on0 (c : Bool) (h : c = true) : Value.int .u8 (Go.bits .or .u8 0 16) = .int .u8 (cond c 16 0) := by subst h; exact flag_on false true rfl
theorem flag_off0 (c : Bool) (h : c = false) : Value.int .u8 0 = .int .u8 (cond c 16 0) := by subst h; rfl
theorem flag_off (b c : Bool) (h : c = b) : Value.int .u8 (cond b 16 0) = .int .u8 (cond c 16 0) := by rw [h]
end Go.Proofs.YtecdpjhifmlahaaGreatDoor
