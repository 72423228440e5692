/- Part 5 of what is proved: Pkj, Mem5, Bld, Hlp, Opb, Wid, Lwa, Lwb, Lwc, Lwd, Lwe. -/
import Derived.Test.YtjgonofkklpgaaaDoorWb4
set_option linter.unusedSimpArgs false
set_option linter.unusedVariables false
set_option linter.unnecessarySimpa false
namespace Go.Proofs.YtjgonofkklpgaaaDoor
open Go.RowKit
theorem roundTiny_any (f m s : Nat) (e top : Int) (neg mo : Bool) (w : World) (hT : Tab w) (hf : f < 4) (hm : m < 5) (hs : s < top6) (hs0 : s ≠ 0) (h1 : -1048576 ≤ e) (h2 : e ≤ 1048576) (ht : (lenN s : Int) - 1 + e = top) :
    Calls Tryd.prog 141 #[.int .u8 f, .int .u8 m, RV neg s e mo, .int .i64 top] w fun e' w' => e' = .returned (.bool (tinyB f m neg s e mo top)) ∧ Below w.heap.size w w' := by
  have hK := formK f hf
  have hp := pF_113 f
  have hl := lenN_pos s hs0
  have hl4 : lenN s ≤ 384 := (lenN_le s 384).2 (by rw [show 384 = 64 * 6 from rfl, ← top6.eq_1]; exact hs)
  have cE := fun w => shapeEmin_any f w (by omega)
  have cP := fun w => shapePrecision_any f w (by omega)
  unfold tinyB
  by_cases hq : top = eminI f - 1
  · rw [if_pos hq]
    have hk := gridN_le m s (pF f) neg mo e (top - pF f + 1) (by omega)
    have cG := fun w hT => roundGrid_any m s e (top - pF f + 1) neg mo w hT (by omega) hs (by omega) (by omega) (by omega) (by omega) (by omega)
    have cK := fun w => wideLen_any (gridN m neg s e mo (top - pF f + 1)).1 w (lt_top114 _ _ hp hk)
    exact roundTiny_eq f m s (pF f) _ _ e top (eminI f) _ neg mo _ w hT hp (by omega) (by omega) (by omega) (by omega) (by rw [hq, beq_self_eq_true]) rfl cE cP cG cK
  · rw [if_neg hq]
    exact roundTiny_ne f m s (pF f) e top (eminI f) neg mo w hT hp (by omega) (by omega) (by omega) (by omega) (by rw [beq_eq_false_iff_ne]; exact hq) cE cP
theorem roundPack_any (f m s : Nat) (e : Int) (neg mo : Bool) (w : World) (hT : Tab w) (hf : f < 256) (hm : m < 256) (hs : s < top6) :
    Calls Tryd.prog 69 #[.int .u8 f, .int .u8 m, RV neg s e mo] w fun e' w' => e' = .returned (.tuple #[BV (packN f m neg s e mo).1, .int .u8 ((packN f m neg s e mo).2.1 : Nat), .int .i64 (packN f m neg s e mo).2.2]) ∧ Below w.heap.size w w' := by
  have hp := pF_113 f
  have hl4 : lenN s ≤ 384 := (lenN_le s 384).2 (by rw [show 384 = 64 * 6 from rfl, ← top6.eq_1]; exact hs)
  have cP := fun w => shapePrecision_any f w hf
  have cR := fun w => roundRight_any f m w hf hm
  have cL := fun w => wideLen_any s w hs
  have cZ := fun w => shapeZero_any f neg w hf
  by_cases hr : (decide (f < 4) && decide (m < 5)) = true
  case neg =>
    have hr' : (decide (f < 4) && decide (m < 5)) = false := by cases h : (decide (f < 4) && decide (m < 5)) <;> simp_all
    have hN : packN f m neg s e mo = (0, 0, 2) := by unfold packN packOk; rw [hr']; simp only [Bool.false_and, Bool.false_eq_true, if_false]
    rw [hN]
    rw [hr'] at cR
    exact roundPack_right f m s _ e neg mo w hp cP cR
  rw [hr] at cR
  have hf4 : f < 4 := by simp only [Bool.and_eq_true, decide_eq_true_eq] at hr; exact hr.1
  have hm5 : m < 5 := by simp only [Bool.and_eq_true, decide_eq_true_eq] at hr; exact hr.2
  by_cases he1 : e < -1048576
  · have hN : packN f m neg s e mo = (0, 0, 2) := by unfold packN packOk; rw [decide_eq_false (show ¬ -1048576 ≤ e by omega)]; simp only [Bool.and_false, Bool.false_and, Bool.false_eq_true, if_false]
    rw [hN]
    exact roundPack_low f m s _ e neg mo w hp he1 cP cR
  by_cases he2 : 1048576 < e
  · have hN : packN f m neg s e mo = (0, 0, 2) := by unfold packN packOk; rw [decide_eq_false (show ¬ e ≤ 1048576 by omega)]; simp only [Bool.and_false, Bool.false_and, Bool.false_eq_true, if_false]
    rw [hN]
    exact roundPack_high f m s _ e neg mo w hp he2 cP cR
  by_cases hmo : (mo && decide (lenN s < pF f + 2)) = true
  · have hN : packN f m neg s e mo = (0, 0, 2) := by unfold packN packOk; rw [hmo]; simp only [Bool.not_true, Bool.and_false, Bool.false_eq_true, if_false]
    rw [hN]
    have ht : mo = true := by cases mo <;> simp_all
    subst ht
    exact roundPack_more f m s (pF f) (lenN s) e neg w hp (by omega) (by omega) (by simpa using hmo) hl4 cP cR cL
  have hmo' : (mo && decide (lenN s < pF f + 2)) = false := by cases h : (mo && decide (lenN s < pF f + 2)) <;> simp_all
  have hok : packOk f m s e mo = true := by
    unfold packOk
    rw [hr, hmo', decide_eq_true (show -1048576 ≤ e by omega), decide_eq_true (show e ≤ 1048576 by omega)]; rfl
  have hl : mo = true → ¬ lenN s < pF f + 2 := by intro ht; subst ht; simpa using hmo'
  by_cases hz : s = 0
  · have hN : packN f m neg s e mo = (zeroN f neg, 0, 0) := by unfold packN; rw [if_pos hok, if_pos hz]
    rw [hN]
    cases mo with
    | false => exact roundPack_zero_f f m s (pF f) (lenN s) _ e neg w hT hp (by omega) (by omega) hl4 cP cR cL hs (decide_eq_true hz) cZ
    | true => exact roundPack_zero_t f m s (pF f) (lenN s) _ e neg w hT hp (by omega) (by omega) hl4 (hl rfl) cP cR cL hs (decide_eq_true hz) cZ
  have hN : packN f m neg s e mo = ((packB f m neg s e mo).1, (packB f m neg s e mo).2, 0) := by unfold packN; rw [if_pos hok, if_neg hz]
  rw [hN]
  have hK := formK f hf4
  have hl1 := lenN_pos s hz
  have cE := fun w => shapeEmin_any f w hf
  have cX := fun w => shapeEmax_any f w hf
  have cO := fun w => roundOver_any f m neg w hf4 hm5
  obtain ⟨top, htop⟩ : ∃ top, (lenN s : Int) - 1 + e = top := ⟨_, rfl⟩
  have hz' := decide_eq_false hz
  unfold packB
  rw [htop]
  by_cases hov : (eF f : Int) < top
  · rw [if_pos hov]
    cases mo with
    | false => exact roundPack_over_f f m s (pF f) (lenN s) (eF f) _ e top (eminI f) neg w hT hp (by omega) (by omega) hl4 cP cR cL hs hz' htop (by omega) (by omega) (by omega) (by omega) (by omega) cE cX hov cO
    | true => exact roundPack_over_t f m s (pF f) (lenN s) (eF f) _ e top (eminI f) neg w hT hp (by omega) (by omega) hl4 (hl rfl) cP cR cL hs hz' htop (by omega) (by omega) (by omega) (by omega) (by omega) cE cX hov cO
  rw [if_neg hov]
  have hat : atN f top = max top (eminI f) - (pF f : Int) + 1 := rfl
  have hk := gridN_le m s (pF f) neg mo e (atN f top) (by rw [hat]; omega)
  have cG := fun w hT => roundGrid_any m s e (atN f top) neg mo w hT hm hs (by omega) (by omega) (by rw [hat]; omega) (by rw [hat]; omega) (by rw [hat]; omega)
  have cT := fun w hT => roundTiny_any f m s e top neg mo w hT hf4 hm5 hs hz (by omega) (by omega) htop
  obtain ⟨k, ex, hg⟩ : ∃ k ex, gridN m neg s e mo (atN f top) = (k, ex) := ⟨_, _, rfl⟩
  rw [hg] at cG hk ⊢
  rw [hat] at cG
  have hk' : k ≤ 2 ^ pF f := hk
  have hkt := lt_top114 k _ hp hk'
  have hkl := lenN_le_of k _ hk'
  have cK := fun w => wideLen_any k w hkt
  by_cases hov2 : (eF f : Int) < lenN k - 1 + atN f top
  · rw [if_pos hov2]
    rw [hat] at hov2
    cases mo with
    | false => exact roundPack_over2_f f m s (pF f) (lenN s) (eF f) k (lenN k) _ e top (eminI f) neg ex w hT hp (by omega) (by omega) hl4 cP cR cL hs hz' htop (by omega) (by omega) (by omega) (by omega) (by omega) cE cX (by omega) hov hov2 cG cK cO
    | true => exact roundPack_over2_t f m s (pF f) (lenN s) (eF f) k (lenN k) _ e top (eminI f) neg ex w hT hp (by omega) (by omega) hl4 (hl rfl) cP cR cL hs hz' htop (by omega) (by omega) (by omega) (by omega) (by omega) cE cX (by omega) hov hov2 cG cK cO
  rw [if_neg hov2]
  rw [hat] at hov2
  obtain ⟨d, hd⟩ : ∃ d : Nat, d = (max top (eminI f) - eminI f).toNat := ⟨_, rfl⟩
  have hd1 : max top (eminI f) - (pF f : Int) + 1 - eminI f + (pF f : Int) - 1 = (d : Int) := by omega
  have hd2 : (atN f top - eminI f + pF f - 1).toNat = d := by rw [hat]; omega
  have hen := enc_lt f k d hf4 hk' (by omega)
  have cOf := fun w => wideOf_any d w (by omega)
  rw [← hd1] at cOf
  have cLf := fun w => wideLeft_any d ((pF f : Int) - 1) w (lt_top_bits d (by omega))
  have hcl : clip ((pF f : Int) - 1) = pF f - 1 := by unfold clip; omega
  rw [hcl] at cLf
  have cAd := fun w => wideAdd_any (d * 2 ^ (pF f - 1)) k w
  have hw : 2 ^ (wF f - 1) ≤ 2 ^ (64 * 2) := Nat.pow_le_pow_right (by decide) (by rcases forms f with rfl | rfl | rfl | rfl | h <;> first | decide | omega)
  have cB := fun w => wideToBits_any (d * 2 ^ (pF f - 1) + k) w (Nat.lt_of_lt_of_le hen hw)
  have hzn : zeroN f neg = signN f neg := by unfold zeroN; rw [decide_eq_true hf4, cond_true]
  have hor : (d * 2 ^ (pF f - 1) + k) ||| zeroN f neg = encN f neg k (atN f top) := by
    rw [hzn, or_sign f _ neg hen]; unfold encN; rw [hd2]
  have fin : ∀ fl : Value, Ending.returned (.tuple #[.agg #[.int .u64 (Go.bits .or .u64 (limb (d * 2 ^ (pF f - 1) + k) 1) (limb (zeroN f neg) 1)), .int .u64 (Go.bits .or .u64 (limb (d * 2 ^ (pF f - 1) + k) 0) (limb (zeroN f neg) 0))], fl, .int .i64 0]) = .returned (.tuple #[BV (encN f neg k (atN f top)), fl, .int .i64 0]) := by
    intro fl
    have h := pair_or (d * 2 ^ (pF f - 1) + k) (zeroN f neg)
    rw [hor] at h
    injection h with h
    rw [h]
  cases ex with
  | true =>
    simp only [cond_true]
    cases mo with
    | false =>
      refine (roundPack_x_f f m s (pF f) (lenN s) (eF f) k (lenN k) _ d _ _ _ e top (eminI f) neg _ _ _ w hT hp (by omega) (by omega) hl4 cP cR cL hs hz' htop (by omega) (by omega) (by omega) (by omega) (by omega) cE cX (by omega) hov hov2 cG cK cOf cLf cAd cB cZ).mono ?_
      intro e' w' ⟨he, hb⟩
      exact ⟨he.trans (fin _), hb⟩
    | true =>
      refine (roundPack_x_t f m s (pF f) (lenN s) (eF f) k (lenN k) _ d _ _ _ e top (eminI f) neg _ _ _ w hT hp (by omega) (by omega) hl4 (hl rfl) cP cR cL hs hz' htop (by omega) (by omega) (by omega) (by omega) (by omega) cE cX (by omega) hov hov2 cG cK cOf cLf cAd cB cZ).mono ?_
      intro e' w' ⟨he, hb⟩
      exact ⟨he.trans (fin _), hb⟩
  | false =>
    simp only [cond_false]
    cases hty : tinyB f m neg s e mo top with
    | false =>
      rw [hty] at cT
      simp only [cond_false]
      cases mo with
      | false =>
        refine (roundPack_i_f f m s (pF f) (lenN s) (eF f) k (lenN k) _ d _ _ _ e top (eminI f) neg _ _ _ w hT hp (by omega) (by omega) hl4 cP cR cL hs hz' htop (by omega) (by omega) (by omega) (by omega) (by omega) cE cX (by omega) hov hov2 cG cK cOf cLf cAd cB cZ cT).mono ?_
        intro e' w' ⟨he, hb⟩
        exact ⟨he.trans (fin _), hb⟩
      | true =>
        refine (roundPack_i_t f m s (pF f) (lenN s) (eF f) k (lenN k) _ d _ _ _ e top (eminI f) neg _ _ _ w hT hp (by omega) (by omega) hl4 (hl rfl) cP cR cL hs hz' htop (by omega) (by omega) (by omega) (by omega) (by omega) cE cX (by omega) hov hov2 cG cK cOf cLf cAd cB cZ cT).mono ?_
        intro e' w' ⟨he, hb⟩
        exact ⟨he.trans (fin _), hb⟩
    | true =>
      rw [hty] at cT
      simp only [cond_true]
      cases mo with
      | false =>
        refine (roundPack_u_f f m s (pF f) (lenN s) (eF f) k (lenN k) _ d _ _ _ e top (eminI f) neg _ _ _ w hT hp (by omega) (by omega) hl4 cP cR cL hs hz' htop (by omega) (by omega) (by omega) (by omega) (by omega) cE cX (by omega) hov hov2 cG cK cOf cLf cAd cB cZ cT).mono ?_
        intro e' w' ⟨he, hb⟩
        exact ⟨he.trans (fin _), hb⟩
      | true =>
        refine (roundPack_u_t f m s (pF f) (lenN s) (eF f) k (lenN k) _ d _ _ _ e top (eminI f) neg _ _ _ w hT hp (by omega) (by omega) hl4 (hl rfl) cP cR cL hs hz' htop (by omega) (by omega) (by omega) (by omega) (by omega) cE cX (by omega) hov hov2 cG cK cOf cLf cAd cB cZ cT).mono ?_
        intro e' w' ⟨he, hb⟩
        exact ⟨he.trans (fin _), hb⟩
end Go.Proofs.YtjgonofkklpgaaaDoor

namespace Go.Proofs.YtjgonofkklpgaaaDoor
open Go.RowKit
section
variable {P : Program} {w0 w : World} {L L' : List Bk} {op : Oper} {a : Act} {Q : Exit → Act → World → Prop} {ops : Array Oper} {rest : List Oper} {K : Act → World → Prop}
/-- A block that was there. -/
theorem Own.was (H : Own w0 w L) {T : TypeId} {g : Nat} {cs : Array Value} (hb : Blk T w0 g cs) : Blk T w g cs := hb.below H.below hb.lt
theorem foldl_set (vs : List Value) : ∀ (k off : Nat) (cs : Array Value), (vs.zipIdx k).foldl (fun cs (c : Value × Nat) => cs.setIfInBounds (off + c.2) c.1) cs = setRow cs (off + k) vs := by
  induction vs with
  | nil => intro k off cs; rfl
  | cons v r ih =>
    intro k off cs
    rw [List.zipIdx_cons, List.foldl_cons, ih, setRow]; rfl
theorem foldl_cells (v : Value) (off : Nat) (cs : Array Value) : v.cells.zipIdx.foldl (fun cs (c, j) => cs.setIfInBounds (off + j) c) cs = setRow cs off v.cells.toList := by
  have := foldl_set v.cells.toList 0 off cs
  rw [Nat.add_zero] at this
  rw [← this, ← Array.foldl_toList, Array.toList_zipIdx]
end
theorem app2_1 (u v : Array Value) {n : Nat} (h : u.size = n) : (u ++ v).extract n (n + v.size) = v := by subst h; simp
theorem app3_0 (u v x : Array Value) : (u ++ v ++ x).extract 0 (0 + u.size) = u := by simp
theorem app3_1 (u v x : Array Value) {n : Nat} (h : u.size = n) : (u ++ v ++ x).extract n (n + v.size) = v := by subst h; simp
theorem app3_2 (u v x : Array Value) {n : Nat} (h : u.size + v.size = n) : (u ++ v ++ x).extract n (n + x.size) = x := app2_1 (u ++ v) x (by rw [Array.size_append]; exact h)
end Go.Proofs.YtjgonofkklpgaaaDoor

namespace Go.Proofs.YtjgonofkklpgaaaDoor
open Go.RowKit
section
variable {P : Program} {w : World} {op : Oper} {a : Act} {Q : Exit → Act → World → Prop} {ops : Array Oper} {rest : List Oper}
theorem run_build {t : TypeId} {n : Nat} {z : Array Value} {fs : Array Field} {places : Array (Nat × Nat)} (R : IsRow P t n z) (hu : P.underlying t = some (.struct fs))
    (hp : (fs.mapM fun f => do pure (f.offset, ← sizeOf f.type) : Sem (Array (Nat × Nat))).run P w = .ok places w) (ps : Array (Nat × Value)) (cs : Array Value) (hf : Instr.fill (places[·]?) z ps.toList = some cs) :
    (Instr.build t ps).run P w = .ok (.agg cs) w := by
  have hz := run_zeroValue R.zero w
  unfold Instr.build
  simp only [Sem.run_bind, hz, Result.andThen_ok, run_underlying hu, hp, Value.cells, hf]
  rfl
theorem fill_step (place : Nat → Option (Nat × Nat)) (cells : Array Value) (i off size : Nat) (v : Value) (rest : List (Nat × Value)) (hp : place i = some (off, size)) (h1 : v.cells.size = size) (h2 : off + size ≤ cells.size) :
    Instr.fill place cells ((i, v) :: rest) = Instr.fill place (setRow cells off v.cells.toList) rest := by
  rw [Instr.fill]
  simp only [hp]
  rw [if_neg (by simp [h1]; omega), foldl_cells]
theorem wp_bld {t : TypeId} {ps : Array (Nat × Operand)} (hw : Region.wanted op (yielded ops a.tmps) = true) (ho : op.op = .build t ps) {vs : Array (Nat × Value)} (hvs : (ps.map fun (i, x) => (i, a.eval x)) = vs) {v : Value}
    (hv : ∀ w, (Instr.build t vs).run P w = .ok v w) (h : wpList P ops Q rest (a.put op.dst v) w) : wpList P ops Q (op :: rest) a w := by
  refine wp_wanted hw fun K hK => ?_
  subst hvs
  have hk := hK _ _ h
  unfold Oper.wp execOp
  simp only [ho, Sem.run_bind, hv, Result.andThen_ok]
  exact hk
theorem wp_bld3 {t : TypeId} {i j k : Nat} {x y z : Operand} (hw : Region.wanted op (yielded ops a.tmps) = true) (ho : op.op = .build t #[(i, x), (j, y), (k, z)]) {u1 u2 u3 : Value} (h1 : a.eval x = u1) (h2 : a.eval y = u2) (h3 : a.eval z = u3) {v : Value}
    (hv : ∀ w, (Instr.build t #[(i, u1), (j, u2), (k, u3)]).run P w = .ok v w) (h : wpList P ops Q rest (a.put op.dst v) w) : wpList P ops Q (op :: rest) a w :=
  wp_bld hw ho (by simp [h1, h2, h3]) hv h
end
/-- Where the parts of a rough number lie. -/
def roughAt : Array (Nat × Nat) := #[(0, 1), (1, 6), (7, 1), (8, 1)]
theorem rough_0 (neg : Bool) (s : Nat) (e : Int) (mo neg' : Bool) (rest : List (Nat × Value)) : Instr.fill (roughAt[·]?) (rough neg s e mo) ((0, .bool neg') :: rest) = Instr.fill (roughAt[·]?) (rough neg' s e mo) rest := fill_step _ _ 0 0 1 _ _ rfl rfl (show 0 + 1 ≤ 9 by decide)
theorem rough_1 (neg : Bool) (s : Nat) (e : Int) (mo : Bool) (s' : Nat) (rest : List (Nat × Value)) : Instr.fill (roughAt[·]?) (rough neg s e mo) ((1, W s') :: rest) = Instr.fill (roughAt[·]?) (rough neg s' e mo) rest := fill_step _ _ 1 1 6 _ _ rfl rfl (show 1 + 6 ≤ 9 by decide)
theorem rough_2 (neg : Bool) (s : Nat) (e : Int) (mo : Bool) (e' : Int) (rest : List (Nat × Value)) : Instr.fill (roughAt[·]?) (rough neg s e mo) ((2, .int .i64 e') :: rest) = Instr.fill (roughAt[·]?) (rough neg s e' mo) rest := fill_step _ _ 2 7 1 _ _ rfl rfl (show 7 + 1 ≤ 9 by decide)
theorem places_rough (w : World) : ∃ fs, Tryd.prog.underlying 92 = some (.struct fs) ∧ (fs.mapM fun f => do pure (f.offset, ← sizeOf f.type) : Sem (Array (Nat × Nat))).run Tryd.prog w = .ok roughAt w := by
  refine ⟨_, Tryd.underlying92, ?_⟩
  unfold roughAt
  go_simp
theorem run_rough (w : World) (ps : Array (Nat × Value)) (cs : Array Value) (hf : Instr.fill (roughAt[·]?) (rough false 0 0 false) ps.toList = some cs) : (Instr.build 92 ps).run Tryd.prog w = .ok (.agg cs) w := by
  obtain ⟨fs, hu, hp⟩ := places_rough w
  exact run_build rR hu hp ps cs hf
theorem rough_nse (neg : Bool) (s : Nat) (e : Int) (w : World) : (Instr.build 92 #[(0, .bool neg), (1, W s), (2, .int .i64 e)]).run Tryd.prog w = .ok (RV neg s e false) w :=
  run_rough w _ _ (by show Instr.fill _ _ [_, _, _] = _; rw [rough_0, rough_1, rough_2]; rfl)
end Go.Proofs.YtjgonofkklpgaaaDoor

namespace Go.Proofs.YtjgonofkklpgaaaDoor
open Go.RowKit
theorem int_eq_false (c k : Nat) (h : c ≠ k) : (((c : Nat) : Int) == ((k : Nat) : Int)) = false := by rw [beq_eq_false_iff_ne]; omega
theorem int_eq_true (c k : Nat) (h : c = k) : (((c : Nat) : Int) == ((k : Nat) : Int)) = true := by rw [h, beq_self_eq_true]
end Go.Proofs.YtjgonofkklpgaaaDoor

namespace Go.Proofs.YtjgonofkklpgaaaDoor
open Go.RowKit
/-- Three parts. -/
def tri (c1 s1 : Nat) (x1 : Int) (f1 : Nat) (c2 s2 : Nat) (x2 : Int) (f2 : Nat) (c3 s3 : Nat) (x3 : Int) (f3 : Nat) : Array Value := #[.int .u8 c1, .int .u64 (limb s1 0), .int .u64 (limb s1 1), .int .u64 (limb s1 2), .int .u64 (limb s1 3), .int .u64 (limb s1 4), .int .u64 (limb s1 5), .int .i64 x1, .int .u64 (limb f1 0), .int .u64 (limb f1 1), .int .u64 (limb f1 2), .int .u64 (limb f1 3), .int .u64 (limb f1 4), .int .u64 (limb f1 5), .int .u8 c2, .int .u64 (limb s2 0), .int .u64 (limb s2 1), .int .u64 (limb s2 2), .int .u64 (limb s2 3), .int .u64 (limb s2 4), .int .u64 (limb s2 5), .int .i64 x2, .int .u64 (limb f2 0), .int .u64 (limb f2 1), .int .u64 (limb f2 2), .int .u64 (limb f2 3), .int .u64 (limb f2 4), .int .u64 (limb f2 5), .int .u8 c3, .int .u64 (limb s3 0), .int .u64 (limb s3 1), .int .u64 (limb s3 2), .int .u64 (limb s3 3), .int .u64 (limb s3 4), .int .u64 (limb s3 5), .int .i64 x3, .int .u64 (limb f3 0), .int .u64 (limb f3 1), .int .u64 (limb f3 2), .int .u64 (limb f3 3), .int .u64 (limb f3 4), .int .u64 (limb f3 5)]
theorem tri_app (c1 s1 : Nat) (x1 : Int) (f1 : Nat) (c2 s2 : Nat) (x2 : Int) (f2 : Nat) (c3 s3 : Nat) (x3 : Int) (f3 : Nat) : tri c1 s1 x1 f1 c2 s2 x2 f2 c3 s3 x3 f3 = parts c1 s1 x1 f1 ++ parts c2 s2 x2 f2 ++ parts c3 s3 x3 f3 := by unfold tri parts; simp only [List.append_toArray, List.cons_append, List.nil_append]
theorem ext_t0 (c1 s1 : Nat) (x1 : Int) (f1 : Nat) (c2 s2 : Nat) (x2 : Int) (f2 : Nat) (c3 s3 : Nat) (x3 : Int) (f3 : Nat) : (tri c1 s1 x1 f1 c2 s2 x2 f2 c3 s3 x3 f3).extract 0 (0 + (parts c1 s1 x1 f1).size) = parts c1 s1 x1 f1 := by rw [tri_app]; exact app3_0 _ _ _
theorem ext_t1 (c1 s1 : Nat) (x1 : Int) (f1 : Nat) (c2 s2 : Nat) (x2 : Int) (f2 : Nat) (c3 s3 : Nat) (x3 : Int) (f3 : Nat) : (tri c1 s1 x1 f1 c2 s2 x2 f2 c3 s3 x3 f3).extract 14 (14 + (parts c2 s2 x2 f2).size) = parts c2 s2 x2 f2 := by rw [tri_app]; exact app3_1 _ _ _ rfl
theorem ext_t2 (c1 s1 : Nat) (x1 : Int) (f1 : Nat) (c2 s2 : Nat) (x2 : Int) (f2 : Nat) (c3 s3 : Nat) (x3 : Int) (f3 : Nat) : (tri c1 s1 x1 f1 c2 s2 x2 f2 c3 s3 x3 f3).extract 28 (28 + (parts c3 s3 x3 f3).size) = parts c3 s3 x3 f3 := by rw [tri_app]; exact app3_2 _ _ _ rfl
theorem set_pw (a b : Nat) (x : Int) (d c s : Nat) (y : Int) (f : Nat) : setRow (parts a b x d) 0 (parts c s y f).toList = parts c s y f := set_all _ _ rfl
end Go.Proofs.YtjgonofkklpgaaaDoor

namespace Go.Proofs.YtjgonofkklpgaaaDoor
open Go.RowKit
theorem eitherFlags_t (x y : Int) (w : World) : Calls Tryd.prog 68 #[.bool true, .int .u8 x, .int .u8 y] w fun e w' => e = .returned (.int .u8 x) ∧ w = w' := by
  go_enter Tryd.func68, Tryd.ntmps68
  go_wp2
  go_ret
  exact ⟨rfl, rfl⟩
theorem eitherFlags_f (x y : Int) (w : World) : Calls Tryd.prog 68 #[.bool false, .int .u8 x, .int .u8 y] w fun e w' => e = .returned (.int .u8 y) ∧ w = w' := by
  go_enter Tryd.func68, Tryd.ntmps68
  go_wp2
  go_ret
  exact ⟨rfl, rfl⟩
theorem eitherbool_t (x y : Bool) (w : World) : Calls Tryd.prog 71 #[.bool true, .bool x, .bool y] w fun e w' => e = .returned (.bool x) ∧ w = w' := by
  go_enter Tryd.func71, Tryd.ntmps71
  go_wp2
  go_ret
  exact ⟨rfl, rfl⟩
theorem eitherbool_f (x y : Bool) (w : World) : Calls Tryd.prog 71 #[.bool false, .bool x, .bool y] w fun e w' => e = .returned (.bool y) ∧ w = w' := by
  go_enter Tryd.func71, Tryd.ntmps71
  go_wp2
  go_ret
  exact ⟨rfl, rfl⟩
theorem walkWid23 {P : Prop} (h : P := by
  go_wp2_with (first
    | ((with_reducible show wpList _ _ _ (⟨_, .box _ _, _, _, _, _⟩ :: _) _ _); refine H.box rfl rfl (cells_agg _) ?_; (intro g w H; simp only [Act.put, List.setIfInBounds_toArray, List.set_cons_zero, List.set_cons_succ]))
    | ((with_reducible show wpList _ _ _ (⟨_, .alloc 26, _, _, _, _⟩ :: _) _ _); refine H.mk0 rfl rB rfl ?_; (intro g w H; simp only [Act.put, List.setIfInBounds_toArray, List.set_cons_zero, List.set_cons_succ]))
    | ((with_reducible show wpList _ _ _ (⟨_, .alloc 75, _, _, _, _⟩ :: _) _ _); refine H.mk0 rfl rP rfl ?_; (intro g w H; simp only [Act.put, List.setIfInBounds_toArray, List.set_cons_zero, List.set_cons_succ]))
    | ((with_reducible show wpList _ _ _ (⟨_, .load 26 _, _, _, _, _⟩ :: _) _ _); refine H.ld rfl rB rfl rfl (by repeat (first | with_reducible exact List.mem_cons_self | apply List.mem_cons_of_mem)) (by first | with_reducible exact ext_2 _ _) (by rfl) ?_; simp only [Act.put, List.setIfInBounds_toArray, List.set_cons_zero, List.set_cons_succ])
    | ((with_reducible show wpList _ _ _ (⟨_, .load 75 _, _, _, _, _⟩ :: _) _ _); refine H.ld rfl rP rfl rfl (by repeat (first | with_reducible exact List.mem_cons_self | apply List.mem_cons_of_mem)) (by first | with_reducible exact ext_parts _ _ _ _ | with_reducible exact ext_t0 _ _ _ _ _ _ _ _ _ _ _ _ | with_reducible exact ext_t1 _ _ _ _ _ _ _ _ _ _ _ _ | with_reducible exact ext_t2 _ _ _ _ _ _ _ _ _ _ _ _) (by rfl) ?_; simp only [Act.put, List.setIfInBounds_toArray, List.set_cons_zero, List.set_cons_succ])
    | ((with_reducible show wpList _ _ _ (⟨_, .load 47 _, _, _, _, _⟩ :: _) _ _); refine H.ld1 rfl oC rfl rfl (by repeat (first | with_reducible exact List.mem_cons_self | apply List.mem_cons_of_mem)) (by first | with_reducible exact get_parts0 _ _ _ _ | with_reducible exact get_10 _) ?_; simp only [Act.put, List.setIfInBounds_toArray, List.set_cons_zero, List.set_cons_succ])
    | ((with_reducible show wpList _ _ _ (⟨_, .store 26 _ _, _, _, _, _⟩ :: _) _ _); refine H.st rfl rB rfl rfl (cells_agg _) (by repeat (first | with_reducible exact Upd.head _ | apply Upd.tail)) (set_bits _ _ _ _) (by rfl) (by exact one_of rfl) (by first | exact ble_le rfl | (change _ + 1 ≤ 12; omega) | (change _ + 1 ≤ 6; omega)) ?_; (intro w H; simp only [Act.put]))
    | ((with_reducible show wpList _ _ _ (⟨_, .store 75 _ _, _, _, _, _⟩ :: _) _ _); refine H.st rfl rP rfl rfl (cells_agg _) (by repeat (first | with_reducible exact Upd.head _ | apply Upd.tail)) (set_pw _ _ _ _ _ _ _ _) (by rfl) (by exact one_of rfl) (by first | exact ble_le rfl | (change _ + 1 ≤ 12; omega) | (change _ + 1 ≤ 6; omega)) ?_; (intro w H; simp only [Act.put]))
    | ((with_reducible show Code.wp _ (.region 8 _ true) _ _ _); refine H.heldSub rfl (List.Sublist.cons_cons _ (List.Sublist.cons _ (List.Sublist.refl _))) ?_; intro H; refine H.takeRun (by repeat (first | with_reducible exact List.Sublist.refl _ | with_reducible apply List.Sublist.cons_cons | with_reducible apply List.Sublist.cons)) 0 rfl (by kernel_rfl) (by kernel_rfl) (by kernel_rfl) (fun _ _ _ _ h => h) rfl (by intro w; go_simp; (try with_reducible rfl)) ?_; (try simp only [Act.put, List.setIfInBounds_toArray, List.set_cons_zero, List.set_cons_succ]); (try simp only [List.getElem_toArray, List.getElem_cons_zero, List.getElem_cons_succ]); refine H.takeRun (by repeat (first | with_reducible exact List.Sublist.refl _ | with_reducible apply List.Sublist.cons_cons | with_reducible apply List.Sublist.cons)) 2 rfl (by kernel_rfl) (by kernel_rfl) (by kernel_rfl) (fun _ _ _ _ h => h) rfl (by intro w; go_simp; (try with_reducible rfl)) ?_; (try simp only [Act.put, List.setIfInBounds_toArray, List.set_cons_zero, List.set_cons_succ]); (try simp only [List.getElem_toArray, List.getElem_cons_zero, List.getElem_cons_succ]); (first | refine H.tk (by repeat (first | with_reducible exact List.Sublist.refl _ | with_reducible apply List.Sublist.cons_cons | with_reducible apply List.Sublist.cons)) 3 rfl (by kernel_rfl) (by kernel_rfl) (by kernel_rfl) (fun _ _ _ _ h => h) rfl rB rfl rfl (by repeat (first | with_reducible exact List.mem_cons_self | apply List.mem_cons_of_mem)) (by first | with_reducible exact ext_2 _ _) (by rfl) ?_ | refine H.tk1 (by repeat (first | with_reducible exact List.Sublist.refl _ | with_reducible apply List.Sublist.cons_cons | with_reducible apply List.Sublist.cons)) 3 rfl (by kernel_rfl) (by kernel_rfl) (by kernel_rfl) (fun _ _ _ _ h => h) rfl oC rfl rfl (by repeat (first | with_reducible exact List.mem_cons_self | apply List.mem_cons_of_mem)) (by first | with_reducible exact get_parts0 _ _ _ _ | with_reducible exact get_10 _) ?_); (try simp only [Act.put, List.setIfInBounds_toArray, List.set_cons_zero, List.set_cons_succ]); (try simp only [List.getElem_toArray, List.getElem_cons_zero, List.getElem_cons_succ]); refine H.takeRun (by repeat (first | with_reducible exact List.Sublist.refl _ | with_reducible apply List.Sublist.cons_cons | with_reducible apply List.Sublist.cons)) 4 rfl (by kernel_rfl) (by kernel_rfl) (by kernel_rfl) (fun _ _ _ _ h => h) rfl (by intro w; go_simp; (try with_reducible rfl)) ?_; (try simp only [Act.put, List.setIfInBounds_toArray, List.set_cons_zero, List.set_cons_succ]); (try simp only [List.getElem_toArray, List.getElem_cons_zero, List.getElem_cons_succ]); refine held_one (i := 1) (by kernel_rfl) rfl rfl ?_; unfold Oper.wp; go_simp; (first | (go_at_call 28; ((with_reducible refine (cN _).mono ?_); rintro e w ⟨rfl, hb⟩; replace H := H.call hb; clear hb)) | (go_at_call 68; ((with_reducible refine (cE _).mono ?_); rintro e w' ⟨rfl, rfl⟩))); refine H.next (by repeat (first | with_reducible exact List.Sublist.refl _ | with_reducible apply List.Sublist.cons_cons | with_reducible apply List.Sublist.cons)) ?_; (try simp only [Act.put, List.setIfInBounds_toArray, List.set_cons_zero, List.set_cons_succ]); (try simp only [List.getElem_toArray, List.getElem_cons_zero, List.getElem_cons_succ]); refine held_one (i := 5) (by kernel_rfl) rfl rfl ?_; unfold Oper.wp; go_simp; (first | (go_at_call 28; ((with_reducible refine (cN _).mono ?_); rintro e w ⟨rfl, hb⟩; replace H := H.call hb; clear hb)) | (go_at_call 68; ((with_reducible refine (cE _).mono ?_); rintro e w' ⟨rfl, rfl⟩))); refine H.next (by repeat (first | with_reducible exact List.Sublist.refl _ | with_reducible apply List.Sublist.cons_cons | with_reducible apply List.Sublist.cons)) ?_; (try simp only [Act.put, List.setIfInBounds_toArray, List.set_cons_zero, List.set_cons_succ]); (try simp only [List.getElem_toArray, List.getElem_cons_zero, List.getElem_cons_succ]); refine held_one (i := 6) (by kernel_rfl) rfl rfl ?_; (first | refine H.ost rB rfl rfl (cells_agg _) (by repeat (first | with_reducible exact Upd.head _ | apply Upd.tail)) (set_bits _ _ _ _) (by rfl) (by exact one_of rfl) (by first | exact ble_le rfl | (change _ + 1 ≤ 12; omega) | (change _ + 1 ≤ 6; omega)) ?_ | refine H.ost1 oC rfl rfl (cells_int _ _) (by repeat (first | with_reducible exact Upd.head _ | apply Upd.tail)) (by first | with_reducible exact set_10 _ _) (by rfl) (by exact one_of rfl) (by first | exact ble_le rfl | (change _ + 1 ≤ 12; omega) | (change _ + 1 ≤ 6; omega)) ?_); intro w H; refine H.next (by repeat (first | with_reducible exact List.Sublist.refl _ | with_reducible apply List.Sublist.cons_cons | with_reducible apply List.Sublist.cons)) ?_; (try simp only [Act.put]); refine H.takeRun (by repeat (first | with_reducible exact List.Sublist.refl _ | with_reducible apply List.Sublist.cons_cons | with_reducible apply List.Sublist.cons)) 7 rfl (by kernel_rfl) (by kernel_rfl) (by kernel_rfl) (fun _ _ _ _ h => h) rfl (by intro w; go_simp; (try with_reducible rfl)) ?_; (try simp only [Act.put, List.setIfInBounds_toArray, List.set_cons_zero, List.set_cons_succ]); (try simp only [List.getElem_toArray, List.getElem_cons_zero, List.getElem_cons_succ]); refine H.takeRun (by repeat (first | with_reducible exact List.Sublist.refl _ | with_reducible apply List.Sublist.cons_cons | with_reducible apply List.Sublist.cons)) 8 rfl (by kernel_rfl) (by kernel_rfl) (by kernel_rfl) (fun _ _ _ _ h => h) rfl (by intro w; go_simp; (try with_reducible rfl)) ?_; (try simp only [Act.put, List.setIfInBounds_toArray, List.set_cons_zero, List.set_cons_succ]); (try simp only [List.getElem_toArray, List.getElem_cons_zero, List.getElem_cons_succ]); refine wpAnyH_done (by kernel_rfl) ?_ _)
    | ((with_reducible show wpList _ _ _ (⟨_, .load 35 _, _, _, _, _⟩ :: _) _ _); refine H.ld rfl rW rfl rfl (by repeat (first | with_reducible exact List.mem_cons_self | apply List.mem_cons_of_mem)) (by first | with_reducible exact ext_limbs _ | with_reducible exact ext_parts_s _ _ _ _ | with_reducible exact ext_rough_s _ _ _ _ | with_reducible exact ext_parts_f _ _ _ _) (by rfl) ?_; simp only [Act.put, List.setIfInBounds_toArray, List.set_cons_zero, List.set_cons_succ])
    | ((with_reducible show wpList _ _ _ (⟨_, .load 3 _, _, _, _, _⟩ :: _) _ _); refine H.ld1 rfl oI rfl rfl (by repeat (first | with_reducible exact List.mem_cons_self | apply List.mem_cons_of_mem)) (by first | with_reducible exact get_rough7 _ _ _ _ | with_reducible exact get_parts7 _ _ _ _ | with_reducible exact get_10 _) ?_; simp only [Act.put, List.setIfInBounds_toArray, List.set_cons_zero, List.set_cons_succ])
    | ((with_reducible show wpList _ _ _ (⟨_, .build 92 _, _, _, _, _⟩ :: _) _ _); refine wp_bld3 rfl rfl rfl rfl rfl (rough_nse _ _ _ ) ?_; simp only [Act.put, List.setIfInBounds_toArray, List.set_cons_zero, List.set_cons_succ])
    | (go_at_call 56; ((with_reducible refine (cU _ (HT.out.below H.below)).mono ?_); rintro e w ⟨rfl, hb⟩; replace H := H.call hb; clear hb))
    | (go_at_call 46; ((with_reducible refine (cF _).mono ?_); rintro e w' ⟨rfl, rfl⟩))
    | (go_at_call 15; ((with_reducible refine (cM _).mono ?_); rintro e w' ⟨rfl, rfl⟩))
    | (go_at_call 28; ((with_reducible refine (cN _).mono ?_); rintro e w ⟨rfl, hb⟩; replace H := H.call hb; clear hb))
    | (go_at_call 68; ((with_reducible refine (cE _).mono ?_); rintro e w' ⟨rfl, rfl⟩))
    | (go_at_call 44; ((with_reducible refine (cI _).mono ?_); rintro e w ⟨rfl, hb⟩; replace H := H.call hb; clear hb))
    | (go_at_call 69; ((with_reducible refine (cK _ (HT.out.below H.below)).mono ?_); rintro e w ⟨rfl, hb⟩; replace H := H.call hb; clear hb))
    )
  all_goals (first | (refine bodyPost_ret (results_ctt rfl rfl (H.res rB (by repeat (first | with_reducible exact List.mem_cons_self | apply List.mem_cons_of_mem)) (by first | with_reducible exact ext_2 _ _) (by rfl))) rfl ⟨?_, H.below⟩; exact by rw [show BV 0 = .agg #[.int .u64 (limb 0 1), .int .u64 (limb 0 0)] from rfl, limb_zero, limb_zero]; rfl) | (refine bodyPost_ret (results_ctt rfl rfl (H.res rB (by repeat (first | with_reducible exact List.mem_cons_self | apply List.mem_cons_of_mem)) (by first | with_reducible exact ext_2 _ _) (by rfl))) rfl ⟨?_, H.below⟩; exact rfl))) : P := h
set_option maxHeartbeats 1600000 in
set_option maxRecDepth 100000 in
theorem widen_no0 (to fr m a c s f : Nat) (x : Int) (w : World) (hT : Tab w) (cU : ∀ w, Tab w → Calls Tryd.prog 56 #[.int .u8 fr, BV a] w fun e w' => e = .returned (.tuple #[PV 0 0 0 0, .int .i64 2]) ∧ Below w.heap.size w w') :
    Calls Tryd.prog 23 #[.int .u8 to, .int .u8 fr, .int .u8 m, BV a] w fun e w' => e = .returned (.tuple #[BV 0, .int .u8 0, .int .i64 2]) ∧ Below w.heap.size w w' := by
  have H := Own.start w
  have HT := Lib.hid hT
  clear hT
  go_enter Tryd.func23, Tryd.ntmps23
  exact walkWid23
set_option maxHeartbeats 1600000 in
set_option maxRecDepth 100000 in
theorem widen_no1 (to fr m a c s f : Nat) (x : Int) (w : World) (hT : Tab w) (cU : ∀ w, Tab w → Calls Tryd.prog 56 #[.int .u8 fr, BV a] w fun e w' => e = .returned (.tuple #[PV c s x f, .int .i64 0]) ∧ Below w.heap.size w w') (cF : ∀ w, Calls Tryd.prog 46 #[.int .u8 to] w fun e w' => e = .returned (.int .i64 2) ∧ w = w') :
    Calls Tryd.prog 23 #[.int .u8 to, .int .u8 fr, .int .u8 m, BV a] w fun e w' => e = .returned (.tuple #[BV 0, .int .u8 0, .int .i64 2]) ∧ Below w.heap.size w w' := by
  have H := Own.start w
  have HT := Lib.hid hT
  clear hT
  go_enter Tryd.func23, Tryd.ntmps23
  exact walkWid23
set_option maxHeartbeats 1600000 in
set_option maxRecDepth 100000 in
theorem widen_no2 (to fr m a c s f : Nat) (x : Int) (w : World) (hT : Tab w) (cU : ∀ w, Tab w → Calls Tryd.prog 56 #[.int .u8 fr, BV a] w fun e w' => e = .returned (.tuple #[PV c s x f, .int .i64 0]) ∧ Below w.heap.size w w') (cF : ∀ w, Calls Tryd.prog 46 #[.int .u8 to] w fun e w' => e = .returned (.int .i64 0) ∧ w = w') (cM : ∀ w, Calls Tryd.prog 15 #[.int .u8 m] w fun e w' => e = .returned (.int .i64 2) ∧ w = w') :
    Calls Tryd.prog 23 #[.int .u8 to, .int .u8 fr, .int .u8 m, BV a] w fun e w' => e = .returned (.tuple #[BV 0, .int .u8 0, .int .i64 2]) ∧ Below w.heap.size w w' := by
  have H := Own.start w
  have HT := Lib.hid hT
  clear hT
  go_enter Tryd.func23, Tryd.ntmps23
  exact walkWid23
set_option maxHeartbeats 1600000 in
set_option maxRecDepth 100000 in
theorem widen_c8 (to fr m a s f n : Nat) (x : Int) (w : World) (hT : Tab w) (cU : ∀ w, Tab w → Calls Tryd.prog 56 #[.int .u8 fr, BV a] w fun e w' => e = .returned (.tuple #[PV 8 s x f, .int .i64 0]) ∧ Below w.heap.size w w') (cF : ∀ w, Calls Tryd.prog 46 #[.int .u8 to] w fun e w' => e = .returned (.int .i64 0) ∧ w = w') (cM : ∀ w, Calls Tryd.prog 15 #[.int .u8 m] w fun e w' => e = .returned (.int .i64 0) ∧ w = w') (cN : ∀ w, Calls Tryd.prog 28 #[.int .u8 to] w fun e w' => e = .returned (BV n) ∧ Below w.heap.size w w') (cE : ∀ w, Calls Tryd.prog 68 #[.bool true, .int .u8 16, .int .u8 0] w fun e w' => e = .returned (.int .u8 16) ∧ w = w') :
    Calls Tryd.prog 23 #[.int .u8 to, .int .u8 fr, .int .u8 m, BV a] w fun e w' => e = .returned (.tuple #[BV n, .int .u8 16, .int .i64 0]) ∧ Below w.heap.size w w' := by
  have H := Own.start w
  have HT := Lib.hid hT
  clear hT
  go_enter Tryd.func23, Tryd.ntmps23
  exact walkWid23
set_option maxHeartbeats 1600000 in
set_option maxRecDepth 100000 in
theorem widen_c9 (to fr m a s f n : Nat) (x : Int) (w : World) (hT : Tab w) (cU : ∀ w, Tab w → Calls Tryd.prog 56 #[.int .u8 fr, BV a] w fun e w' => e = .returned (.tuple #[PV 9 s x f, .int .i64 0]) ∧ Below w.heap.size w w') (cF : ∀ w, Calls Tryd.prog 46 #[.int .u8 to] w fun e w' => e = .returned (.int .i64 0) ∧ w = w') (cM : ∀ w, Calls Tryd.prog 15 #[.int .u8 m] w fun e w' => e = .returned (.int .i64 0) ∧ w = w') (cN : ∀ w, Calls Tryd.prog 28 #[.int .u8 to] w fun e w' => e = .returned (BV n) ∧ Below w.heap.size w w') (cE : ∀ w, Calls Tryd.prog 68 #[.bool false, .int .u8 16, .int .u8 0] w fun e w' => e = .returned (.int .u8 0) ∧ w = w') :
    Calls Tryd.prog 23 #[.int .u8 to, .int .u8 fr, .int .u8 m, BV a] w fun e w' => e = .returned (.tuple #[BV n, .int .u8 0, .int .i64 0]) ∧ Below w.heap.size w w' := by
  have H := Own.start w
  have HT := Lib.hid hT
  clear hT
  go_enter Tryd.func23, Tryd.ntmps23
  exact walkWid23
set_option maxHeartbeats 1600000 in
set_option maxRecDepth 100000 in
theorem widen_c0 (to fr m a s f n : Nat) (x : Int) (w : World) (hT : Tab w) (cU : ∀ w, Tab w → Calls Tryd.prog 56 #[.int .u8 fr, BV a] w fun e w' => e = .returned (.tuple #[PV 0 s x f, .int .i64 0]) ∧ Below w.heap.size w w') (cF : ∀ w, Calls Tryd.prog 46 #[.int .u8 to] w fun e w' => e = .returned (.int .i64 0) ∧ w = w') (cM : ∀ w, Calls Tryd.prog 15 #[.int .u8 m] w fun e w' => e = .returned (.int .i64 0) ∧ w = w') (cI : ∀ w, Calls Tryd.prog 44 #[.int .u8 to, .bool true] w fun e w' => e = .returned (BV n) ∧ Below w.heap.size w w') :
    Calls Tryd.prog 23 #[.int .u8 to, .int .u8 fr, .int .u8 m, BV a] w fun e w' => e = .returned (.tuple #[BV n, .int .u8 0, .int .i64 0]) ∧ Below w.heap.size w w' := by
  have H := Own.start w
  have HT := Lib.hid hT
  clear hT
  go_enter Tryd.func23, Tryd.ntmps23
  exact walkWid23
set_option maxHeartbeats 1600000 in
set_option maxRecDepth 100000 in
theorem widen_c7 (to fr m a s f n : Nat) (x : Int) (w : World) (hT : Tab w) (cU : ∀ w, Tab w → Calls Tryd.prog 56 #[.int .u8 fr, BV a] w fun e w' => e = .returned (.tuple #[PV 7 s x f, .int .i64 0]) ∧ Below w.heap.size w w') (cF : ∀ w, Calls Tryd.prog 46 #[.int .u8 to] w fun e w' => e = .returned (.int .i64 0) ∧ w = w') (cM : ∀ w, Calls Tryd.prog 15 #[.int .u8 m] w fun e w' => e = .returned (.int .i64 0) ∧ w = w') (cI : ∀ w, Calls Tryd.prog 44 #[.int .u8 to, .bool false] w fun e w' => e = .returned (BV n) ∧ Below w.heap.size w w') :
    Calls Tryd.prog 23 #[.int .u8 to, .int .u8 fr, .int .u8 m, BV a] w fun e w' => e = .returned (.tuple #[BV n, .int .u8 0, .int .i64 0]) ∧ Below w.heap.size w w' := by
  have H := Own.start w
  have HT := Lib.hid hT
  clear hT
  go_enter Tryd.func23, Tryd.ntmps23
  exact walkWid23
set_option maxHeartbeats 1600000 in
set_option maxRecDepth 100000 in
theorem widen_fin_t (to fr m a c s f : Nat) (x : Int) (w : World) (hT : Tab w) (h0 : c ≠ 0) (h7 : c ≠ 7) (h8 : ¬ 8 ≤ c) (hb : decide ((c : Int) < 4) = true) (r : Nat) (fl er : Int) (cU : ∀ w, Tab w → Calls Tryd.prog 56 #[.int .u8 fr, BV a] w fun e w' => e = .returned (.tuple #[PV c s x f, .int .i64 0]) ∧ Below w.heap.size w w') (cF : ∀ w, Calls Tryd.prog 46 #[.int .u8 to] w fun e w' => e = .returned (.int .i64 0) ∧ w = w') (cM : ∀ w, Calls Tryd.prog 15 #[.int .u8 m] w fun e w' => e = .returned (.int .i64 0) ∧ w = w') (cK : ∀ w, Tab w → Calls Tryd.prog 69 #[.int .u8 to, .int .u8 m, RV true s x false] w fun e w' => e = .returned (.tuple #[BV r, .int .u8 fl, .int .i64 er]) ∧ Below w.heap.size w w') :
    Calls Tryd.prog 23 #[.int .u8 to, .int .u8 fr, .int .u8 m, BV a] w fun e w' => e = .returned (.tuple #[BV r, .int .u8 fl, .int .i64 er]) ∧ Below w.heap.size w w' := by
  have H := Own.start w
  have HT := Lib.hid hT
  clear hT
  have e0 : ((c : Int) == 0) = false := int_eq_false c 0 (by omega)
  have e7 : ((c : Int) == 7) = false := int_eq_false c 7 (by omega)
  have e8 : ((c : Int) == 8) = false := int_eq_false c 8 (by omega)
  have e9 : ((c : Int) == 9) = false := int_eq_false c 9 (by omega)
  clear h0 h7 h8
  go_enter Tryd.func23, Tryd.ntmps23
  exact walkWid23
set_option maxHeartbeats 1600000 in
set_option maxRecDepth 100000 in
theorem widen_fin_f (to fr m a c s f : Nat) (x : Int) (w : World) (hT : Tab w) (h0 : c ≠ 0) (h7 : c ≠ 7) (h8 : ¬ 8 ≤ c) (hb : decide ((c : Int) < 4) = false) (r : Nat) (fl er : Int) (cU : ∀ w, Tab w → Calls Tryd.prog 56 #[.int .u8 fr, BV a] w fun e w' => e = .returned (.tuple #[PV c s x f, .int .i64 0]) ∧ Below w.heap.size w w') (cF : ∀ w, Calls Tryd.prog 46 #[.int .u8 to] w fun e w' => e = .returned (.int .i64 0) ∧ w = w') (cM : ∀ w, Calls Tryd.prog 15 #[.int .u8 m] w fun e w' => e = .returned (.int .i64 0) ∧ w = w') (cK : ∀ w, Tab w → Calls Tryd.prog 69 #[.int .u8 to, .int .u8 m, RV false s x false] w fun e w' => e = .returned (.tuple #[BV r, .int .u8 fl, .int .i64 er]) ∧ Below w.heap.size w w') :
    Calls Tryd.prog 23 #[.int .u8 to, .int .u8 fr, .int .u8 m, BV a] w fun e w' => e = .returned (.tuple #[BV r, .int .u8 fl, .int .i64 er]) ∧ Below w.heap.size w w' := by
  have H := Own.start w
  have HT := Lib.hid hT
  clear hT
  have e0 : ((c : Int) == 0) = false := int_eq_false c 0 (by omega)
  have e7 : ((c : Int) == 7) = false := int_eq_false c 7 (by omega)
  have e8 : ((c : Int) == 8) = false := int_eq_false c 8 (by omega)
  have e9 : ((c : Int) == 9) = false := int_eq_false c 9 (by omega)
  clear h0 h7 h8
  go_enter Tryd.func23, Tryd.ntmps23
  exact walkWid23
theorem widenConvert_any (to fr m a : Nat) (w : World) (ht : to < 256) (hm : m < 256) (ha : a < 2 ^ (64 * 2)) (hT : Tab w) :
    Calls Tryd.prog 23 #[.int .u8 to, .int .u8 fr, .int .u8 m, BV a] w fun e w' => e = .returned (.tuple #[BV (widenN to fr m a).1, .int .u8 ((widenN to fr m a).2.1 : Nat), .int .i64 (widenN to fr m a).2.2]) ∧ Below w.heap.size w w' := by
  have cM := fun w => shapeCheckMode_any m w hm
  have cF := fun w => shapeCheck_any to w ht
  cases hfa : fitsB fr a
  · have hN : widenN to fr m a = (0, 0, 2) := by unfold widenN widenOk; rw [hfa]; rfl
    rw [hN]
    exact widen_no0 to fr m a 0 0 0 0 w hT (fun w _ => kindUnpack_not fr a w ha hfa)
  have cU := fun w hT => kindUnpack_yes fr a w hfa hT
  by_cases h4 : to < 4
  case neg =>
    have hN : widenN to fr m a = (0, 0, 2) := by unfold widenN widenOk; rw [hfa, decide_eq_false h4]; rfl
    rw [decide_eq_false h4] at cF
    rw [hN]
    exact widen_no1 to fr m a _ _ _ _ w hT cU cF
  rw [decide_eq_true h4] at cF
  by_cases h5 : m < 5
  case neg =>
    have hN : widenN to fr m a = (0, 0, 2) := by unfold widenN widenOk; rw [hfa, decide_eq_true h4, decide_eq_false h5]; rfl
    rw [decide_eq_false h5] at cM
    rw [hN]
    exact widen_no2 to fr m a _ _ _ _ w hT cU cF cM
  rw [decide_eq_true h5] at cM
  have hN : widenN to fr m a = ((widenR to fr m a).1, (widenR to fr m a).2, 0) := by unfold widenN widenOk; rw [hfa, decide_eq_true h4, decide_eq_true h5]; rfl
  rw [hN]
  have hle := cls_le fr a
  by_cases h8 : 8 ≤ clsN fr a
  · have hR : widenR to fr m a = (nanN to, cond (decide (clsN fr a = 8)) 16 0) := by unfold widenR; rw [if_pos h8]
    rw [hR]
    by_cases h9 : clsN fr a = 8
    · rw [h9] at cU ⊢
      exact widen_c8 to fr m a _ _ _ _ w hT cU cF cM (fun w => shapeNaN_any to w ht) (fun w => eitherFlags_t _ _ w)
    · rw [show clsN fr a = 9 by omega] at cU ⊢
      exact widen_c9 to fr m a _ _ _ _ w hT cU cF cM (fun w => shapeNaN_any to w ht) (fun w => eitherFlags_f _ _ w)
  by_cases h0 : clsN fr a = 0
  · have hR : widenR to fr m a = (infN to true, 0) := by unfold widenR; rw [if_neg h8, if_pos (Or.inl h0), h0]; rfl
    rw [hR]
    rw [h0] at cU
    exact widen_c0 to fr m a _ _ _ _ w hT cU cF cM (fun w => shapeInf_any to true w ht)
  by_cases h7 : clsN fr a = 7
  · have hR : widenR to fr m a = (infN to false, 0) := by unfold widenR; rw [if_neg h8, if_pos (Or.inr h7), h7]; rfl
    rw [hR]
    rw [h7] at cU
    exact widen_c7 to fr m a _ _ _ _ w hT cU cF cM (fun w => shapeInf_any to false w ht)
  obtain ⟨g1, g2⟩ := xpN_bound fr a hfa
  have q1 := sigN_113 fr a hfa
  have t1 : sigN fr a < top6 := lt_pwr top6 113 (64 * 6) _ top6.eq_1 (by decide) q1
  have cK := fun neg w hT => roundPack_any to m (sigN fr a) (xpN fr a) neg false w hT ht hm t1
  have hP : ∀ neg, neg = belowN4 (clsN fr a) → packN to m neg (sigN fr a) (xpN fr a) false = ((widenR to fr m a).1, (widenR to fr m a).2, 0) := by
    intro neg hneg
    subst hneg
    have hok : packOk to m (sigN fr a) (xpN fr a) false = true := by
      unfold packOk
      rw [decide_eq_true h4, decide_eq_true h5, decide_eq_true (show -1048576 ≤ xpN fr a by omega), decide_eq_true (show xpN fr a ≤ 1048576 by omega)]; rfl
    have hR : widenR to fr m a = if sigN fr a = 0 then (zeroN to (belowN4 (clsN fr a)), 0) else packB to m (belowN4 (clsN fr a)) (sigN fr a) (xpN fr a) false := by
      unfold widenR
      rw [if_neg h8, if_neg (show ¬ (clsN fr a = 0 ∨ clsN fr a = 7) by omega)]
    rw [hR]
    unfold packN
    rw [if_pos hok]
    by_cases hs : sigN fr a = 0
    · rw [if_pos hs, if_pos hs]
    · rw [if_neg hs, if_neg hs]
  by_cases hb : clsN fr a < 4
  · have := cK true
    rw [hP true (by unfold belowN4; rw [decide_eq_true hb])] at this
    exact widen_fin_t to fr m a _ _ _ _ w hT h0 h7 h8 (by simp; omega) _ _ _ cU cF cM this
  · have := cK false
    rw [hP false (by unfold belowN4; rw [decide_eq_false hb])] at this
    exact widen_fin_f to fr m a _ _ _ _ w hT h0 h7 h8 (by simp; omega) _ _ _ cU cF cM this
theorem walkWid26 {P : Prop} (h : P := by
  go_wp2_with (first
    | ((with_reducible show wpList _ _ _ (⟨_, .box _ _, _, _, _, _⟩ :: _) _ _); refine H.box rfl rfl (cells_agg _) ?_; (intro g w H; simp only [Act.put, List.setIfInBounds_toArray, List.set_cons_zero, List.set_cons_succ]))
    | ((with_reducible show wpList _ _ _ (⟨_, .alloc 26, _, _, _, _⟩ :: _) _ _); refine H.mk0 rfl rB rfl ?_; (intro g w H; simp only [Act.put, List.setIfInBounds_toArray, List.set_cons_zero, List.set_cons_succ]))
    | ((with_reducible show wpList _ _ _ (⟨_, .load 26 _, _, _, _, _⟩ :: _) _ _); refine H.ld rfl rB rfl rfl (by repeat (first | with_reducible exact List.mem_cons_self | apply List.mem_cons_of_mem)) (by first | with_reducible exact ext_2 _ _) (by rfl) ?_; simp only [Act.put, List.setIfInBounds_toArray, List.set_cons_zero, List.set_cons_succ])
    | ((with_reducible show wpList _ _ _ (⟨_, .store 26 _ _, _, _, _, _⟩ :: _) _ _); refine H.st rfl rB rfl rfl (cells_agg _) (by repeat (first | with_reducible exact Upd.head _ | apply Upd.tail)) (set_bits _ _ _ _) (by rfl) (by exact one_of rfl) (by first | exact ble_le rfl | (change _ + 1 ≤ 12; omega) | (change _ + 1 ≤ 6; omega)) ?_; (intro w H; simp only [Act.put]))
    | (go_at_call 23; ((with_reducible refine (cC _ (HT.out.below H.below)).mono ?_); rintro e w ⟨rfl, hb⟩; replace H := H.call hb; clear hb))
    | (go_at_call 25; ((with_reducible refine (cL _ (HT.out.below H.below)).mono ?_); rintro e w ⟨rfl, hb⟩; replace H := H.call hb; clear hb))
    | (go_at_call 71; ((with_reducible refine (cE _).mono ?_); rintro e w' ⟨rfl, rfl⟩))
    )
  all_goals (go_ret2; exact ⟨rfl, H.below⟩)) : P := h
set_option maxHeartbeats 1600000 in
set_option maxRecDepth 100000 in
theorem widenFits_t (to fr a r c : Nat) (fl er h : Int) (ok b2 : Bool) (w : World) (hT : Tab w) (he : (er == 0) = ok) (hf : (fl == 0) = true) (cC : ∀ w, Tab w → Calls Tryd.prog 23 #[.int .u8 to, .int .u8 fr, .int .u8 1, BV a] w fun e w' => e = .returned (.tuple #[BV r, .int .u8 fl, .int .i64 er]) ∧ Below w.heap.size w w') (cL : ∀ w, Tab w → Calls Tryd.prog 25 #[.int .u8 fr, BV a] w fun e w' => e = .returned (.tuple #[.int .u8 (c : Nat), .int .i64 h]) ∧ Below w.heap.size w w') (cE : ∀ w, Calls Tryd.prog 71 #[.bool ok, .bool (decide ((c : Int) < 8)), .bool false] w fun e w' => e = .returned (.bool b2) ∧ w = w') :
    Calls Tryd.prog 26 #[.int .u8 to, .int .u8 fr, BV a] w fun e w' => e = .returned (.tuple #[.bool b2, .int .i64 er]) ∧ Below w.heap.size w w' := by
  have H := Own.start w
  have HT := Lib.hid hT
  clear hT
  go_enter Tryd.func26, Tryd.ntmps26
  exact walkWid26
set_option maxHeartbeats 1600000 in
set_option maxRecDepth 100000 in
theorem widenFits_f (to fr a r c : Nat) (fl er h : Int) (ok b2 : Bool) (w : World) (hT : Tab w) (he : (er == 0) = ok) (hf : (fl == 0) = false) (cC : ∀ w, Tab w → Calls Tryd.prog 23 #[.int .u8 to, .int .u8 fr, .int .u8 1, BV a] w fun e w' => e = .returned (.tuple #[BV r, .int .u8 fl, .int .i64 er]) ∧ Below w.heap.size w w') (cL : ∀ w, Tab w → Calls Tryd.prog 25 #[.int .u8 fr, BV a] w fun e w' => e = .returned (.tuple #[.int .u8 (c : Nat), .int .i64 h]) ∧ Below w.heap.size w w') (cE : ∀ w, Calls Tryd.prog 71 #[.bool ok, .bool false, .bool false] w fun e w' => e = .returned (.bool b2) ∧ w = w') :
    Calls Tryd.prog 26 #[.int .u8 to, .int .u8 fr, BV a] w fun e w' => e = .returned (.tuple #[.bool b2, .int .i64 er]) ∧ Below w.heap.size w w' := by
  have H := Own.start w
  have HT := Lib.hid hT
  clear hT
  go_enter Tryd.func26, Tryd.ntmps26
  exact walkWid26
/-- What widen.Fits answers. -/
def fitsN (to fr a : Nat) : Bool := widenOk to fr 1 a && (decide ((widenR to fr 1 a).2 = 0) && decide (clsN fr a < 8))
theorem widenFits_any (to fr a : Nat) (w : World) (ht : to < 256) (hf : fr < 256) (ha : a < 2 ^ (64 * 2)) (hT : Tab w) :
    Calls Tryd.prog 26 #[.int .u8 to, .int .u8 fr, BV a] w fun e w' => e = .returned (.tuple #[.bool (fitsN to fr a), .int .i64 (cond (widenOk to fr 1 a) 0 2)]) ∧ Below w.heap.size w w' := by
  have cC := fun w hT => widenConvert_any to fr 1 a w ht (by decide) ha hT
  have cL := fun w hT => kindClass_any fr a w hf ha hT
  have hlt : ∀ c : Nat, decide ((c : Int) < 8) = decide (c < 8) := by intro c; rw [Bool.eq_iff_iff, decide_eq_true_iff, decide_eq_true_iff]; omega
  cases hok : widenOk to fr 1 a
  · have hN : widenN to fr 1 a = (0, 0, 2) := by unfold widenN; rw [hok]; rfl
    rw [hN] at cC
    unfold fitsN
    rw [hok]
    exact widenFits_t to fr a _ _ _ _ _ false _ w hT rfl rfl cC cL (fun w => eitherbool_f _ _ w)
  · have hN : widenN to fr 1 a = ((widenR to fr 1 a).1, (widenR to fr 1 a).2, 0) := by unfold widenN; rw [hok]; rfl
    rw [hN] at cC
    have hfa : fitsB fr a = true := by unfold widenOk at hok; simp only [Bool.and_eq_true] at hok; exact hok.1
    rw [hfa] at cL
    unfold fitsN
    rw [hok]
    by_cases h0 : (widenR to fr 1 a).2 = 0
    · rw [decide_eq_true h0]
      have hb : ((((widenR to fr 1 a).2 : Nat) : Int) == 0) = true := int_eq_true _ 0 h0
      refine widenFits_t to fr a _ _ _ _ _ true _ w hT rfl hb cC cL (fun w => ?_)
      rw [hlt]
      exact eitherbool_t _ _ w
    · rw [decide_eq_false h0]
      have hb : ((((widenR to fr 1 a).2 : Nat) : Int) == 0) = false := int_eq_false _ 0 h0
      exact widenFits_f to fr a _ _ _ _ _ true _ w hT rfl hb cC cL (fun w => eitherbool_t _ _ w)
end Go.Proofs.YtjgonofkklpgaaaDoor

namespace Go.Proofs.YtjgonofkklpgaaaDoor
open Go.RowKit
theorem run_equal_bits (x y : Nat) (w : World) : (Op.equalIn 10000 26 (.agg #[.int .u64 (limb x 1), .int .u64 (limb x 0)]) (.agg #[.int .u64 (limb y 1), .int .u64 (limb y 0)])).run Tryd.prog w = .ok (limb x 1 == limb y 1 && limb x 0 == limb y 0) w := by
  go_simp
  by_cases h1 : limb x 1 = limb y 1 <;> by_cases h0 : limb x 0 = limb y 0 <;> simp [h1, h0]
theorem bits_ne (x y : Nat) (hx : x < 2 ^ (64 * 2)) (hy : y < 2 ^ (64 * 2)) (h : x ≠ y) : (limb x 1 == limb y 1 && limb x 0 == limb y 0) = false := by
  rw [Bool.eq_false_iff]
  intro hb
  simp only [Bool.and_eq_true, beq_iff_eq] at hb
  rw [limb1, limb1, limb0, limb0] at hb
  rw [show 2 ^ (64 * 2) = 340282366920938463463374607431768211456 from rfl] at hx hy
  omega
set_option maxHeartbeats 1600000 in
set_option maxRecDepth 100000 in
theorem widAlive_w (w : World) (hT : Tab w) (cA : ∀ w, Tab w → Calls Tryd.prog 23 #[.int .u8 0, .int .u8 2, .int .u8 0, .agg #[.int .u64 0, .int .u64 15360]] w fun e w' => e = .returned (.tuple #[.agg #[.int .u64 0, .int .u64 1065353216], .int .u8 0, .int .i64 0]) ∧ Below w.heap.size w w') :
    Calls Tryd.prog 24 #[] w fun e w' => e = .returned (.bool true) ∧ Below w.heap.size w w' := by
  have H := Own.start w
  have HT := Lib.hid hT
  clear hT
  go_enter Tryd.func24, Tryd.ntmps24
  go_wp2_with (first
    | ((with_reducible show wpList _ _ _ (⟨_, .box _ _, _, _, _, _⟩ :: _) _ _); refine H.box rfl rfl (cells_agg _) ?_; (intro g w H; simp only [Act.put, List.setIfInBounds_toArray, List.set_cons_zero, List.set_cons_succ]))
    | ((with_reducible show wpList _ _ _ (⟨_, .alloc 26, _, _, _, _⟩ :: _) _ _); refine H.mk0 rfl rB rfl ?_; (intro g w H; simp only [Act.put, List.setIfInBounds_toArray, List.set_cons_zero, List.set_cons_succ]))
    | ((with_reducible show wpList _ _ _ (⟨_, .load 26 _, _, _, _, _⟩ :: _) _ _); refine H.ld rfl rB rfl rfl (by repeat (first | with_reducible exact List.mem_cons_self | apply List.mem_cons_of_mem)) (by first | with_reducible exact ext_2 _ _) (by rfl) ?_; simp only [Act.put, List.setIfInBounds_toArray, List.set_cons_zero, List.set_cons_succ])
    | ((with_reducible show wpList _ _ _ (⟨_, .store 26 _ _, _, _, _, _⟩ :: _) _ _); refine H.st rfl rB rfl rfl (cells_agg _) (by repeat (first | with_reducible exact Upd.head _ | apply Upd.tail)) (set_bits _ _ _ _) (by rfl) (by exact one_of rfl) (by first | exact ble_le rfl | (change _ + 1 ≤ 12; omega) | (change _ + 1 ≤ 6; omega)) ?_; (intro w H; simp only [Act.put]))
    | (go_at_call 23; ((with_reducible refine (cA _ (HT.out.below H.below)).mono ?_); rintro e w ⟨rfl, hb⟩; replace H := H.call hb; clear hb))
    )
  all_goals
    go_ret
    exact ⟨rfl, H.below⟩
theorem widAlive_any (w : World) (hT : Tab w) : Calls Tryd.prog 24 #[] w fun e w' => e = .returned (.bool true) ∧ Below w.heap.size w w' := by
  refine widAlive_w w hT fun w hT => ?_
  have := widenConvert_any 0 2 0 15360 w (by decide) (by decide) (by decide) hT
  rw [show widenN 0 2 0 15360 = (1065353216, 0, 0) by decide +kernel] at this
  exact this
end Go.Proofs.YtjgonofkklpgaaaDoor

namespace Go.Proofs.YtjgonofkklpgaaaDoor
open Go.RowKit
theorem walkLwb5 {P : Prop} (h : P := by
  go_wp2_with (first
    | ((with_reducible show wpList _ _ _ (⟨_, .box _ _, _, _, _, _⟩ :: _) _ _); refine H.box rfl rfl (cells_agg _) ?_; (intro g w H; simp only [Act.put, List.setIfInBounds_toArray, List.set_cons_zero, List.set_cons_succ]))
    | ((with_reducible show wpList _ _ _ (⟨_, .alloc 26, _, _, _, _⟩ :: _) _ _); refine H.mk0 rfl rB rfl ?_; (intro g w H; simp only [Act.put, List.setIfInBounds_toArray, List.set_cons_zero, List.set_cons_succ]))
    | ((with_reducible show wpList _ _ _ (⟨_, .load 26 _, _, _, _, _⟩ :: _) _ _); refine H.ld rfl rB rfl rfl (by repeat (first | with_reducible exact List.mem_cons_self | apply List.mem_cons_of_mem)) (by first | with_reducible exact ext_2 _ _) (by rfl) ?_; simp only [Act.put, List.setIfInBounds_toArray, List.set_cons_zero, List.set_cons_succ])
    | ((with_reducible show wpList _ _ _ (⟨_, .store 26 _ _, _, _, _, _⟩ :: _) _ _); refine H.st rfl rB rfl rfl (cells_agg _) (by repeat (first | with_reducible exact Upd.head _ | apply Upd.tail)) (set_bits _ _ _ _) (by rfl) (by exact one_of rfl) (by first | exact ble_le rfl | (change _ + 1 ≤ 12; omega) | (change _ + 1 ≤ 6; omega)) ?_; (intro w H; simp only [Act.put]))
    | (go_at_call 23; ((with_reducible refine (cA _ (HT.out.below H.below)).mono ?_); rintro e w ⟨rfl, hb⟩; replace H := H.call hb; clear hb))
    | (go_at_call 24; ((with_reducible refine (widAlive_any _ (HT.out.below H.below)).mono ?_); rintro e w ⟨rfl, hb⟩; replace H := H.call hb; clear hb))
    | (go_at_call 15; ((with_reducible refine (cM _).mono ?_); rintro e w' ⟨rfl, rfl⟩))
    | (go_at_call 25; ((with_reducible refine (cC _ (HT.out.below H.below)).mono ?_); rintro e w ⟨rfl, hb⟩; replace H := H.call hb; clear hb))
    | (go_at_call 26; ((with_reducible refine (cF _ (HT.out.below H.below)).mono ?_); rintro e w ⟨rfl, hb⟩; replace H := H.call hb; clear hb))
    | (go_at_call 23; ((with_reducible refine (cZ _ (HT.out.below H.below)).mono ?_); rintro e w ⟨rfl, hb⟩; replace H := H.call hb; clear hb))
    | (go_at_call 27; ((with_reducible refine (cW1 _).mono ?_); rintro e w ⟨rfl, hb⟩; replace H := H.call hb; clear hb))
    | (go_at_call 27; ((with_reducible refine (cW2 _).mono ?_); rintro e w ⟨rfl, hb⟩; replace H := H.call hb; clear hb))
    )
  all_goals (go_ret; exact ⟨rfl, H.below⟩)) : P := h
set_option maxHeartbeats 6400000 in
set_option maxRecDepth 100000 in
theorem widBack_bad (to fr m n a x z : Nat) (fl zl : Int) (w : World) (hT : Tab w) (cA : ∀ w, Tab w → Calls Tryd.prog 23 #[.int .u8 to, .int .u8 fr, .int .u8 m, BV a] w fun e w' => e = .returned (.tuple #[BV x, .int .u8 fl, .int .i64 2]) ∧ Below w.heap.size w w') :
    Calls Tryd.prog 5 #[.int .u8 to, .int .u8 fr, .int .u8 m, .int .u8 n, BV a] w fun e w' => e = .returned (.bool true) ∧ Below w.heap.size w w' := by
  have H := Own.start w
  have HT := Lib.hid hT
  clear hT
  go_enter Tryd.func5, Tryd.ntmps5
  exact walkLwb5
set_option maxHeartbeats 6400000 in
set_option maxRecDepth 100000 in
theorem widBack_mode (to fr m n a x z : Nat) (fl zl : Int) (w : World) (hT : Tab w) (cA : ∀ w, Tab w → Calls Tryd.prog 23 #[.int .u8 to, .int .u8 fr, .int .u8 m, BV a] w fun e w' => e = .returned (.tuple #[BV x, .int .u8 fl, .int .i64 0]) ∧ Below w.heap.size w w') (cM : ∀ w, Calls Tryd.prog 15 #[.int .u8 n] w fun e w' => e = .returned (.int .i64 2) ∧ w = w') :
    Calls Tryd.prog 5 #[.int .u8 to, .int .u8 fr, .int .u8 m, .int .u8 n, BV a] w fun e w' => e = .returned (.bool true) ∧ Below w.heap.size w w' := by
  have H := Own.start w
  have HT := Lib.hid hT
  clear hT
  go_enter Tryd.func5, Tryd.ntmps5
  exact walkLwb5
set_option maxHeartbeats 6400000 in
set_option maxRecDepth 100000 in
theorem widBack_small_lot (to fr m n a x z : Nat) (fl zl : Int) (w : World) (hT : Tab w) (c w1 w2 : Nat) (h8 : decide ((c : Int) < 8) = true) (h9 : decide (8 ≤ (c : Int)) = false) (hz : (zl == 0) = true) (hw : w1 < w2) (cA : ∀ w, Tab w → Calls Tryd.prog 23 #[.int .u8 to, .int .u8 fr, .int .u8 m, BV a] w fun e w' => e = .returned (.tuple #[BV x, .int .u8 fl, .int .i64 0]) ∧ Below w.heap.size w w') (cM : ∀ w, Calls Tryd.prog 15 #[.int .u8 n] w fun e w' => e = .returned (.int .i64 0) ∧ w = w') (cC : ∀ w, Tab w → Calls Tryd.prog 25 #[.int .u8 fr, BV a] w fun e w' => e = .returned (.tuple #[.int .u8 (c : Nat), .int .i64 0]) ∧ Below w.heap.size w w') (cF : ∀ w, Tab w → Calls Tryd.prog 26 #[.int .u8 to, .int .u8 fr, BV a] w fun e w' => e = .returned (.tuple #[.bool true, .int .i64 0]) ∧ Below w.heap.size w w') (cZ : ∀ w, Tab w → Calls Tryd.prog 23 #[.int .u8 to, .int .u8 fr, .int .u8 1, BV a] w fun e w' => e = .returned (.tuple #[BV z, .int .u8 zl, .int .i64 0]) ∧ Below w.heap.size w w') (cW1 : ∀ w, Calls Tryd.prog 27 #[.int .u8 to] w fun e w' => e = .returned (.int .i64 (w1 : Nat)) ∧ Below w.heap.size w w') (cW2 : ∀ w, Calls Tryd.prog 27 #[.int .u8 fr] w fun e w' => e = .returned (.int .i64 (w2 : Nat)) ∧ Below w.heap.size w w')  :
    Calls Tryd.prog 5 #[.int .u8 to, .int .u8 fr, .int .u8 m, .int .u8 n, BV a] w fun e w' => e = .returned (.bool true) ∧ Below w.heap.size w w' := by
  have H := Own.start w
  have HT := Lib.hid hT
  clear hT
  go_enter Tryd.func5, Tryd.ntmps5
  exact walkLwb5
set_option maxHeartbeats 6400000 in
set_option maxRecDepth 100000 in
theorem widBack_small_lof (to fr m n a x z : Nat) (fl zl : Int) (w : World) (hT : Tab w) (c w1 w2 : Nat) (h8 : decide ((c : Int) < 8) = true) (h9 : decide (8 ≤ (c : Int)) = false) (hz : (zl == 0) = false) (hw : w1 < w2) (cA : ∀ w, Tab w → Calls Tryd.prog 23 #[.int .u8 to, .int .u8 fr, .int .u8 m, BV a] w fun e w' => e = .returned (.tuple #[BV x, .int .u8 fl, .int .i64 0]) ∧ Below w.heap.size w w') (cM : ∀ w, Calls Tryd.prog 15 #[.int .u8 n] w fun e w' => e = .returned (.int .i64 0) ∧ w = w') (cC : ∀ w, Tab w → Calls Tryd.prog 25 #[.int .u8 fr, BV a] w fun e w' => e = .returned (.tuple #[.int .u8 (c : Nat), .int .i64 0]) ∧ Below w.heap.size w w') (cF : ∀ w, Tab w → Calls Tryd.prog 26 #[.int .u8 to, .int .u8 fr, BV a] w fun e w' => e = .returned (.tuple #[.bool false, .int .i64 0]) ∧ Below w.heap.size w w') (cZ : ∀ w, Tab w → Calls Tryd.prog 23 #[.int .u8 to, .int .u8 fr, .int .u8 1, BV a] w fun e w' => e = .returned (.tuple #[BV z, .int .u8 zl, .int .i64 0]) ∧ Below w.heap.size w w') (cW1 : ∀ w, Calls Tryd.prog 27 #[.int .u8 to] w fun e w' => e = .returned (.int .i64 (w1 : Nat)) ∧ Below w.heap.size w w') (cW2 : ∀ w, Calls Tryd.prog 27 #[.int .u8 fr] w fun e w' => e = .returned (.int .i64 (w2 : Nat)) ∧ Below w.heap.size w w')  :
    Calls Tryd.prog 5 #[.int .u8 to, .int .u8 fr, .int .u8 m, .int .u8 n, BV a] w fun e w' => e = .returned (.bool true) ∧ Below w.heap.size w w' := by
  have H := Own.start w
  have HT := Lib.hid hT
  clear hT
  go_enter Tryd.func5, Tryd.ntmps5
  exact walkLwb5
set_option maxHeartbeats 6400000 in
set_option maxRecDepth 100000 in
theorem widBack_small_hi (to fr m n a x z : Nat) (fl zl : Int) (w : World) (hT : Tab w) (c w1 w2 : Nat) (h8 : decide ((c : Int) < 8) = false) (h9 : decide (8 ≤ (c : Int)) = true) (hw : w1 < w2) (cA : ∀ w, Tab w → Calls Tryd.prog 23 #[.int .u8 to, .int .u8 fr, .int .u8 m, BV a] w fun e w' => e = .returned (.tuple #[BV x, .int .u8 fl, .int .i64 0]) ∧ Below w.heap.size w w') (cM : ∀ w, Calls Tryd.prog 15 #[.int .u8 n] w fun e w' => e = .returned (.int .i64 0) ∧ w = w') (cC : ∀ w, Tab w → Calls Tryd.prog 25 #[.int .u8 fr, BV a] w fun e w' => e = .returned (.tuple #[.int .u8 (c : Nat), .int .i64 0]) ∧ Below w.heap.size w w') (cF : ∀ w, Tab w → Calls Tryd.prog 26 #[.int .u8 to, .int .u8 fr, BV a] w fun e w' => e = .returned (.tuple #[.bool false, .int .i64 0]) ∧ Below w.heap.size w w') (cZ : ∀ w, Tab w → Calls Tryd.prog 23 #[.int .u8 to, .int .u8 fr, .int .u8 1, BV a] w fun e w' => e = .returned (.tuple #[BV z, .int .u8 zl, .int .i64 0]) ∧ Below w.heap.size w w') (cW1 : ∀ w, Calls Tryd.prog 27 #[.int .u8 to] w fun e w' => e = .returned (.int .i64 (w1 : Nat)) ∧ Below w.heap.size w w') (cW2 : ∀ w, Calls Tryd.prog 27 #[.int .u8 fr] w fun e w' => e = .returned (.int .i64 (w2 : Nat)) ∧ Below w.heap.size w w')  :
    Calls Tryd.prog 5 #[.int .u8 to, .int .u8 fr, .int .u8 m, .int .u8 n, BV a] w fun e w' => e = .returned (.bool true) ∧ Below w.heap.size w w' := by
  have H := Own.start w
  have HT := Lib.hid hT
  clear hT
  go_enter Tryd.func5, Tryd.ntmps5
  exact walkLwb5
end Go.Proofs.YtjgonofkklpgaaaDoor

namespace Go.Proofs.YtjgonofkklpgaaaDoor
open Go.RowKit
theorem walkLwc5 {P : Prop} (h : P := by
  go_wp2_with (first
    | ((with_reducible show wpList _ _ _ (⟨_, .box _ _, _, _, _, _⟩ :: _) _ _); refine H.box rfl rfl (cells_agg _) ?_; (intro g w H; simp only [Act.put, List.setIfInBounds_toArray, List.set_cons_zero, List.set_cons_succ]))
    | ((with_reducible show wpList _ _ _ (⟨_, .alloc 26, _, _, _, _⟩ :: _) _ _); refine H.mk0 rfl rB rfl ?_; (intro g w H; simp only [Act.put, List.setIfInBounds_toArray, List.set_cons_zero, List.set_cons_succ]))
    | ((with_reducible show wpList _ _ _ (⟨_, .load 26 _, _, _, _, _⟩ :: _) _ _); refine H.ld rfl rB rfl rfl (by repeat (first | with_reducible exact List.mem_cons_self | apply List.mem_cons_of_mem)) (by first | with_reducible exact ext_2 _ _) (by rfl) ?_; simp only [Act.put, List.setIfInBounds_toArray, List.set_cons_zero, List.set_cons_succ])
    | ((with_reducible show wpList _ _ _ (⟨_, .store 26 _ _, _, _, _, _⟩ :: _) _ _); refine H.st rfl rB rfl rfl (cells_agg _) (by repeat (first | with_reducible exact Upd.head _ | apply Upd.tail)) (set_bits _ _ _ _) (by rfl) (by exact one_of rfl) (by first | exact ble_le rfl | (change _ + 1 ≤ 12; omega) | (change _ + 1 ≤ 6; omega)) ?_; (intro w H; simp only [Act.put]))
    | ((with_reducible show Code.wp _ (.region 12 _ true) _ _ _); refine H.heldSub rfl (List.Sublist.refl _) ?_; intro H; refine H.takeRun (by repeat (first | with_reducible exact List.Sublist.refl _ | with_reducible apply List.Sublist.cons_cons | with_reducible apply List.Sublist.cons)) 0 rfl (by kernel_rfl) (by kernel_rfl) (by kernel_rfl) (fun _ _ _ _ h => h) rfl (by intro w; go_simp; (try with_reducible rfl)) ?_; (try simp only [Act.put, List.setIfInBounds_toArray, List.set_cons_zero, List.set_cons_succ]); (try simp only [List.getElem_toArray, List.getElem_cons_zero, List.getElem_cons_succ]); refine H.takeRun (by repeat (first | with_reducible exact List.Sublist.refl _ | with_reducible apply List.Sublist.cons_cons | with_reducible apply List.Sublist.cons)) 1 rfl (by kernel_rfl) (by kernel_rfl) (by kernel_rfl) (fun _ _ _ _ h => h) rfl (by intro w; go_simp; (try with_reducible rfl)) ?_; (try simp only [Act.put, List.setIfInBounds_toArray, List.set_cons_zero, List.set_cons_succ]); (try simp only [List.getElem_toArray, List.getElem_cons_zero, List.getElem_cons_succ]); refine H.takeRun (by repeat (first | with_reducible exact List.Sublist.refl _ | with_reducible apply List.Sublist.cons_cons | with_reducible apply List.Sublist.cons)) 2 rfl (by kernel_rfl) (by kernel_rfl) (by kernel_rfl) (fun _ _ _ _ h => h) rfl (by intro w; go_simp; (try with_reducible rfl)) ?_; (try simp only [Act.put, List.setIfInBounds_toArray, List.set_cons_zero, List.set_cons_succ]); (try simp only [List.getElem_toArray, List.getElem_cons_zero, List.getElem_cons_succ]); (first | refine H.tk (by repeat (first | with_reducible exact List.Sublist.refl _ | with_reducible apply List.Sublist.cons_cons | with_reducible apply List.Sublist.cons)) 3 rfl (by kernel_rfl) (by kernel_rfl) (by kernel_rfl) (fun _ _ _ _ h => h) rfl rB rfl rfl (by repeat (first | with_reducible exact List.mem_cons_self | apply List.mem_cons_of_mem)) (by first | with_reducible exact ext_2 _ _) (by rfl) ?_ | refine H.takeOff (by repeat (first | with_reducible exact List.Sublist.refl _ | with_reducible apply List.Sublist.cons_cons | with_reducible apply List.Sublist.cons)) 3 rfl (by kernel_rfl) (by kernel_rfl) (by kernel_rfl) (fun _ _ _ _ h => h) rfl ?_); (try simp only [Act.put, List.setIfInBounds_toArray, List.set_cons_zero, List.set_cons_succ]); (try simp only [List.getElem_toArray, List.getElem_cons_zero, List.getElem_cons_succ]); (first | refine H.takeRun (by repeat (first | with_reducible exact List.Sublist.refl _ | with_reducible apply List.Sublist.cons_cons | with_reducible apply List.Sublist.cons)) 4 rfl (by kernel_rfl) (by kernel_rfl) (by kernel_rfl) (fun _ _ _ _ h => h) rfl (by intro w; go_simp; (try with_reducible rfl)) ?_ | refine H.takeOff (by repeat (first | with_reducible exact List.Sublist.refl _ | with_reducible apply List.Sublist.cons_cons | with_reducible apply List.Sublist.cons)) 4 rfl (by kernel_rfl) (by kernel_rfl) (by kernel_rfl) (fun _ _ _ _ h => h) rfl ?_); (try simp only [Act.put, List.setIfInBounds_toArray, List.set_cons_zero, List.set_cons_succ]); (try simp only [List.getElem_toArray, List.getElem_cons_zero, List.getElem_cons_succ]); refine held_one (i := 5) (by kernel_rfl) rfl rfl ?_; unfold Oper.wp; go_simp; (first | (go_at_call 28; ((with_reducible refine (cN1 _).mono ?_); rintro e w ⟨rfl, hb⟩; replace H := H.call hb; clear hb)) | (go_at_call 24; ((with_reducible refine (widAlive_any _ (HT.out.below H.below)).mono ?_); rintro e w ⟨rfl, hb⟩; replace H := H.call hb; clear hb))); refine H.next (by repeat (first | with_reducible exact List.Sublist.refl _ | with_reducible apply List.Sublist.cons_cons | with_reducible apply List.Sublist.cons)) ?_; (try simp only [Act.put, List.setIfInBounds_toArray, List.set_cons_zero, List.set_cons_succ]); (try simp only [List.getElem_toArray, List.getElem_cons_zero, List.getElem_cons_succ]); (first | refine H.takeRun (by repeat (first | with_reducible exact List.Sublist.refl _ | with_reducible apply List.Sublist.cons_cons | with_reducible apply List.Sublist.cons)) 6 rfl (by kernel_rfl) (by kernel_rfl) (by kernel_rfl) (fun _ _ _ _ h => h) rfl (by intro w; go_simp; (try with_reducible rfl)) ?_ | refine H.takeOff (by repeat (first | with_reducible exact List.Sublist.refl _ | with_reducible apply List.Sublist.cons_cons | with_reducible apply List.Sublist.cons)) 6 rfl (by kernel_rfl) (by kernel_rfl) (by kernel_rfl) (fun _ _ _ _ h => h) rfl ?_); (try simp only [Act.put, List.setIfInBounds_toArray, List.set_cons_zero, List.set_cons_succ]); (try simp only [List.getElem_toArray, List.getElem_cons_zero, List.getElem_cons_succ]); refine H.takeRun (by repeat (first | with_reducible exact List.Sublist.refl _ | with_reducible apply List.Sublist.cons_cons | with_reducible apply List.Sublist.cons)) 7 rfl (by kernel_rfl) (by kernel_rfl) (by kernel_rfl) (fun _ _ _ _ h => h) rfl (by intro w; go_simp; (try with_reducible rfl)) ?_; (try simp only [Act.put, List.setIfInBounds_toArray, List.set_cons_zero, List.set_cons_succ]); (try simp only [List.getElem_toArray, List.getElem_cons_zero, List.getElem_cons_succ]); refine H.takeRun (by repeat (first | with_reducible exact List.Sublist.refl _ | with_reducible apply List.Sublist.cons_cons | with_reducible apply List.Sublist.cons)) 8 rfl (by kernel_rfl) (by kernel_rfl) (by kernel_rfl) (fun _ _ _ _ h => h) rfl (by intro w; go_simp; (try with_reducible rfl)) ?_; (try simp only [Act.put, List.setIfInBounds_toArray, List.set_cons_zero, List.set_cons_succ]); (try simp only [List.getElem_toArray, List.getElem_cons_zero, List.getElem_cons_succ]); refine held_one (i := 9) (by kernel_rfl) rfl rfl ?_; unfold Oper.wp; go_simp; (first | (go_at_call 28; ((with_reducible refine (cN1 _).mono ?_); rintro e w ⟨rfl, hb⟩; replace H := H.call hb; clear hb)) | (go_at_call 24; ((with_reducible refine (widAlive_any _ (HT.out.below H.below)).mono ?_); rintro e w ⟨rfl, hb⟩; replace H := H.call hb; clear hb))); refine H.next (by repeat (first | with_reducible exact List.Sublist.refl _ | with_reducible apply List.Sublist.cons_cons | with_reducible apply List.Sublist.cons)) ?_; (try simp only [Act.put, List.setIfInBounds_toArray, List.set_cons_zero, List.set_cons_succ]); (try simp only [List.getElem_toArray, List.getElem_cons_zero, List.getElem_cons_succ]); refine H.takeRun (by repeat (first | with_reducible exact List.Sublist.refl _ | with_reducible apply List.Sublist.cons_cons | with_reducible apply List.Sublist.cons)) 10 rfl (by kernel_rfl) (by kernel_rfl) (by kernel_rfl) (fun _ _ _ _ h => h) rfl (by intro w; go_simp; (try with_reducible rfl)) ?_; (try simp only [Act.put, List.setIfInBounds_toArray, List.set_cons_zero, List.set_cons_succ]); (try simp only [List.getElem_toArray, List.getElem_cons_zero, List.getElem_cons_succ]); refine H.takeRun (by repeat (first | with_reducible exact List.Sublist.refl _ | with_reducible apply List.Sublist.cons_cons | with_reducible apply List.Sublist.cons)) 11 rfl (by kernel_rfl) (by kernel_rfl) (by kernel_rfl) (fun _ _ _ _ h => h) rfl (by intro w; go_simp; (try with_reducible rfl)) ?_; (try simp only [Act.put, List.setIfInBounds_toArray, List.set_cons_zero, List.set_cons_succ]); (try simp only [List.getElem_toArray, List.getElem_cons_zero, List.getElem_cons_succ]); refine wpAnyH_done (by kernel_rfl) ?_ _)
    | ((with_reducible show Code.wp _ (.region 16 _ true) _ _ _); refine H.heldSub rfl (List.Sublist.refl _) ?_; intro H; refine H.tk (by repeat (first | with_reducible exact List.Sublist.refl _ | with_reducible apply List.Sublist.cons_cons | with_reducible apply List.Sublist.cons)) 0 rfl (by kernel_rfl) (by kernel_rfl) (by kernel_rfl) (fun _ _ _ _ h => h) rfl rB rfl rfl (by repeat (first | with_reducible exact List.mem_cons_self | apply List.mem_cons_of_mem)) (by first | with_reducible exact ext_2 _ _) (by rfl) ?_; (try simp only [Act.put, List.setIfInBounds_toArray, List.set_cons_zero, List.set_cons_succ]); (try simp only [List.getElem_toArray, List.getElem_cons_zero, List.getElem_cons_succ]); refine H.tk (by repeat (first | with_reducible exact List.Sublist.refl _ | with_reducible apply List.Sublist.cons_cons | with_reducible apply List.Sublist.cons)) 1 rfl (by kernel_rfl) (by kernel_rfl) (by kernel_rfl) (fun _ _ _ _ h => h) rfl rB rfl rfl (by repeat (first | with_reducible exact List.mem_cons_self | apply List.mem_cons_of_mem)) (by first | with_reducible exact ext_2 _ _) (by rfl) ?_; (try simp only [Act.put, List.setIfInBounds_toArray, List.set_cons_zero, List.set_cons_succ]); (try simp only [List.getElem_toArray, List.getElem_cons_zero, List.getElem_cons_succ]); refine H.takeRun (by repeat (first | with_reducible exact List.Sublist.refl _ | with_reducible apply List.Sublist.cons_cons | with_reducible apply List.Sublist.cons)) 2 rfl (by kernel_rfl) (by kernel_rfl) (by kernel_rfl) (fun _ _ _ _ h => h) rfl (by intro w; go_simp; (try with_reducible rfl)) ?_; (try simp only [Act.put, List.setIfInBounds_toArray, List.set_cons_zero, List.set_cons_succ]); (try simp only [List.getElem_toArray, List.getElem_cons_zero, List.getElem_cons_succ]); refine H.takeRun (by repeat (first | with_reducible exact List.Sublist.refl _ | with_reducible apply List.Sublist.cons_cons | with_reducible apply List.Sublist.cons)) 3 rfl (by kernel_rfl) (by kernel_rfl) (by kernel_rfl) (fun _ _ _ _ h => h) rfl (by intro w; go_simp; (try with_reducible rfl)) ?_; (try simp only [Act.put, List.setIfInBounds_toArray, List.set_cons_zero, List.set_cons_succ]); (try simp only [List.getElem_toArray, List.getElem_cons_zero, List.getElem_cons_succ]); (first | refine H.takeRun (by repeat (first | with_reducible exact List.Sublist.refl _ | with_reducible apply List.Sublist.cons_cons | with_reducible apply List.Sublist.cons)) 4 rfl (by kernel_rfl) (by kernel_rfl) (by kernel_rfl) (fun _ _ _ _ h => h) rfl (by intro w; go_simp; (try with_reducible rfl)) ?_ | refine H.takeOff (by repeat (first | with_reducible exact List.Sublist.refl _ | with_reducible apply List.Sublist.cons_cons | with_reducible apply List.Sublist.cons)) 4 rfl (by kernel_rfl) (by kernel_rfl) (by kernel_rfl) (fun _ _ _ _ h => h) rfl ?_); (try simp only [Act.put, List.setIfInBounds_toArray, List.set_cons_zero, List.set_cons_succ]); (try simp only [List.getElem_toArray, List.getElem_cons_zero, List.getElem_cons_succ]); (first | refine H.takeRun (by repeat (first | with_reducible exact List.Sublist.refl _ | with_reducible apply List.Sublist.cons_cons | with_reducible apply List.Sublist.cons)) 5 rfl (by kernel_rfl) (by kernel_rfl) (by kernel_rfl) (fun _ _ _ _ h => h) rfl (by intro w; go_simp; (try with_reducible rfl)) ?_ | refine H.takeOff (by repeat (first | with_reducible exact List.Sublist.refl _ | with_reducible apply List.Sublist.cons_cons | with_reducible apply List.Sublist.cons)) 5 rfl (by kernel_rfl) (by kernel_rfl) (by kernel_rfl) (fun _ _ _ _ h => h) rfl ?_); (try simp only [Act.put, List.setIfInBounds_toArray, List.set_cons_zero, List.set_cons_succ]); (try simp only [List.getElem_toArray, List.getElem_cons_zero, List.getElem_cons_succ]); (first | refine H.takeRun (by repeat (first | with_reducible exact List.Sublist.refl _ | with_reducible apply List.Sublist.cons_cons | with_reducible apply List.Sublist.cons)) 6 rfl (by kernel_rfl) (by kernel_rfl) (by kernel_rfl) (fun _ _ _ _ h => h) rfl (by intro w; go_simp; (try with_reducible rfl)) ?_ | refine H.takeOff (by repeat (first | with_reducible exact List.Sublist.refl _ | with_reducible apply List.Sublist.cons_cons | with_reducible apply List.Sublist.cons)) 6 rfl (by kernel_rfl) (by kernel_rfl) (by kernel_rfl) (fun _ _ _ _ h => h) rfl ?_); (try simp only [Act.put, List.setIfInBounds_toArray, List.set_cons_zero, List.set_cons_succ]); (try simp only [List.getElem_toArray, List.getElem_cons_zero, List.getElem_cons_succ]); refine H.takeOff (by repeat (first | with_reducible exact List.Sublist.refl _ | with_reducible apply List.Sublist.cons_cons | with_reducible apply List.Sublist.cons)) 7 rfl (by kernel_rfl) (by kernel_rfl) (by kernel_rfl) (fun _ _ _ _ h => h) rfl ?_; (try simp only [Act.put, List.setIfInBounds_toArray, List.set_cons_zero, List.set_cons_succ]); (try simp only [List.getElem_toArray, List.getElem_cons_zero, List.getElem_cons_succ]); (first | refine H.takeRun (by repeat (first | with_reducible exact List.Sublist.refl _ | with_reducible apply List.Sublist.cons_cons | with_reducible apply List.Sublist.cons)) 8 rfl (by kernel_rfl) (by kernel_rfl) (by kernel_rfl) (fun _ _ _ _ h => h) rfl (by intro w; go_simp; (try with_reducible rfl)) ?_ | refine H.takeOff (by repeat (first | with_reducible exact List.Sublist.refl _ | with_reducible apply List.Sublist.cons_cons | with_reducible apply List.Sublist.cons)) 8 rfl (by kernel_rfl) (by kernel_rfl) (by kernel_rfl) (fun _ _ _ _ h => h) rfl ?_); (try simp only [Act.put, List.setIfInBounds_toArray, List.set_cons_zero, List.set_cons_succ]); (try simp only [List.getElem_toArray, List.getElem_cons_zero, List.getElem_cons_succ]); refine H.takeOff (by repeat (first | with_reducible exact List.Sublist.refl _ | with_reducible apply List.Sublist.cons_cons | with_reducible apply List.Sublist.cons)) 9 rfl (by kernel_rfl) (by kernel_rfl) (by kernel_rfl) (fun _ _ _ _ h => h) rfl ?_; (try simp only [Act.put, List.setIfInBounds_toArray, List.set_cons_zero, List.set_cons_succ]); (try simp only [List.getElem_toArray, List.getElem_cons_zero, List.getElem_cons_succ]); (first | refine H.takeRun (by repeat (first | with_reducible exact List.Sublist.refl _ | with_reducible apply List.Sublist.cons_cons | with_reducible apply List.Sublist.cons)) 10 rfl (by kernel_rfl) (by kernel_rfl) (by kernel_rfl) (fun _ _ _ _ h => h) rfl (by intro w; go_simp; (try with_reducible rfl)) ?_ | refine H.takeOff (by repeat (first | with_reducible exact List.Sublist.refl _ | with_reducible apply List.Sublist.cons_cons | with_reducible apply List.Sublist.cons)) 10 rfl (by kernel_rfl) (by kernel_rfl) (by kernel_rfl) (fun _ _ _ _ h => h) rfl ?_); (try simp only [Act.put, List.setIfInBounds_toArray, List.set_cons_zero, List.set_cons_succ]); (try simp only [List.getElem_toArray, List.getElem_cons_zero, List.getElem_cons_succ]); (first | refine H.takeRun (by repeat (first | with_reducible exact List.Sublist.refl _ | with_reducible apply List.Sublist.cons_cons | with_reducible apply List.Sublist.cons)) 11 rfl (by kernel_rfl) (by kernel_rfl) (by kernel_rfl) (fun _ _ _ _ h => h) rfl (by intro w; go_simp; (try with_reducible rfl)) ?_ | refine H.takeOff (by repeat (first | with_reducible exact List.Sublist.refl _ | with_reducible apply List.Sublist.cons_cons | with_reducible apply List.Sublist.cons)) 11 rfl (by kernel_rfl) (by kernel_rfl) (by kernel_rfl) (fun _ _ _ _ h => h) rfl ?_); (try simp only [Act.put, List.setIfInBounds_toArray, List.set_cons_zero, List.set_cons_succ]); (try simp only [List.getElem_toArray, List.getElem_cons_zero, List.getElem_cons_succ]); refine H.takeRun (by repeat (first | with_reducible exact List.Sublist.refl _ | with_reducible apply List.Sublist.cons_cons | with_reducible apply List.Sublist.cons)) 12 rfl (by kernel_rfl) (by kernel_rfl) (by kernel_rfl) (fun _ _ _ _ h => h) rfl (by intro w; go_simp; (try with_reducible rfl)) ?_; (try simp only [Act.put, List.setIfInBounds_toArray, List.set_cons_zero, List.set_cons_succ]); (try simp only [List.getElem_toArray, List.getElem_cons_zero, List.getElem_cons_succ]); refine H.takeRun (by repeat (first | with_reducible exact List.Sublist.refl _ | with_reducible apply List.Sublist.cons_cons | with_reducible apply List.Sublist.cons)) 13 rfl (by kernel_rfl) (by kernel_rfl) (by kernel_rfl) (fun _ _ _ _ h => h) rfl (by intro w; go_simp; (try with_reducible rfl)) ?_; (try simp only [Act.put, List.setIfInBounds_toArray, List.set_cons_zero, List.set_cons_succ]); (try simp only [List.getElem_toArray, List.getElem_cons_zero, List.getElem_cons_succ]); refine held_one (i := 14) (by kernel_rfl) rfl rfl ?_; unfold Oper.wp; go_simp; (go_at_call 24; ((with_reducible refine (widAlive_any _ (HT.out.below H.below)).mono ?_); rintro e w ⟨rfl, hb⟩; replace H := H.call hb; clear hb)); refine H.next (by repeat (first | with_reducible exact List.Sublist.refl _ | with_reducible apply List.Sublist.cons_cons | with_reducible apply List.Sublist.cons)) ?_; (try simp only [Act.put, List.setIfInBounds_toArray, List.set_cons_zero, List.set_cons_succ]); (try simp only [List.getElem_toArray, List.getElem_cons_zero, List.getElem_cons_succ]); refine H.takeRun (by repeat (first | with_reducible exact List.Sublist.refl _ | with_reducible apply List.Sublist.cons_cons | with_reducible apply List.Sublist.cons)) 15 rfl (by kernel_rfl) (by kernel_rfl) (by kernel_rfl) (fun _ _ _ _ h => h) rfl (by intro w; go_simp; (try with_reducible rfl)) ?_; (try simp only [Act.put, List.setIfInBounds_toArray, List.set_cons_zero, List.set_cons_succ]); (try simp only [List.getElem_toArray, List.getElem_cons_zero, List.getElem_cons_succ]); refine H.takeRun (by repeat (first | with_reducible exact List.Sublist.refl _ | with_reducible apply List.Sublist.cons_cons | with_reducible apply List.Sublist.cons)) 16 rfl (by kernel_rfl) (by kernel_rfl) (by kernel_rfl) (fun _ _ _ _ h => h) rfl (by intro w; go_simp; (try with_reducible rfl)) ?_; (try simp only [Act.put, List.setIfInBounds_toArray, List.set_cons_zero, List.set_cons_succ]); (try simp only [List.getElem_toArray, List.getElem_cons_zero, List.getElem_cons_succ]); refine wpAnyH_done (by kernel_rfl) ?_ _)
    | (go_at_call 23; ((with_reducible refine (cA _ (HT.out.below H.below)).mono ?_); rintro e w ⟨rfl, hb⟩; replace H := H.call hb; clear hb))
    | (go_at_call 15; ((with_reducible refine (cM _).mono ?_); rintro e w' ⟨rfl, rfl⟩))
    | (go_at_call 24; ((with_reducible refine (widAlive_any _ (HT.out.below H.below)).mono ?_); rintro e w ⟨rfl, hb⟩; replace H := H.call hb; clear hb))
    | (go_at_call 25; ((with_reducible refine (cC _ (HT.out.below H.below)).mono ?_); rintro e w ⟨rfl, hb⟩; replace H := H.call hb; clear hb))
    | (go_at_call 26; ((with_reducible refine (cF _ (HT.out.below H.below)).mono ?_); rintro e w ⟨rfl, hb⟩; replace H := H.call hb; clear hb))
    | (go_at_call 23; ((with_reducible refine (cZ _ (HT.out.below H.below)).mono ?_); rintro e w ⟨rfl, hb⟩; replace H := H.call hb; clear hb))
    | (go_at_call 27; ((with_reducible refine (cW1 _).mono ?_); rintro e w ⟨rfl, hb⟩; replace H := H.call hb; clear hb))
    | (go_at_call 27; ((with_reducible refine (cW2 _).mono ?_); rintro e w ⟨rfl, hb⟩; replace H := H.call hb; clear hb))
    | (go_at_call 28; ((with_reducible refine (cN1 _).mono ?_); rintro e w ⟨rfl, hb⟩; replace H := H.call hb; clear hb))
    | (go_at_call 23; ((with_reducible refine (cY _ (HT.out.below H.below)).mono ?_); rintro e w ⟨rfl, hb⟩; replace H := H.call hb; clear hb))
    )
  all_goals (go_ret; exact ⟨rfl, H.below⟩)) : P := h
set_option maxHeartbeats 6400000 in
set_option maxRecDepth 100000 in
theorem widBack_sig (to fr m n a x z w1 w2 : Nat) (fl zl : Int) (w : World) (hT : Tab w) (hw : decide ((w1 : Int) < (w2 : Int)) = false) (cA : ∀ w, Tab w → Calls Tryd.prog 23 #[.int .u8 to, .int .u8 fr, .int .u8 m, BV a] w fun e w' => e = .returned (.tuple #[BV x, .int .u8 16, .int .i64 0]) ∧ Below w.heap.size w w') (cM : ∀ w, Calls Tryd.prog 15 #[.int .u8 n] w fun e w' => e = .returned (.int .i64 0) ∧ w = w') (cC : ∀ w, Tab w → Calls Tryd.prog 25 #[.int .u8 fr, BV a] w fun e w' => e = .returned (.tuple #[.int .u8 8, .int .i64 0]) ∧ Below w.heap.size w w') (cF : ∀ w, Tab w → Calls Tryd.prog 26 #[.int .u8 to, .int .u8 fr, BV a] w fun e w' => e = .returned (.tuple #[.bool false, .int .i64 0]) ∧ Below w.heap.size w w') (cZ : ∀ w, Tab w → Calls Tryd.prog 23 #[.int .u8 to, .int .u8 fr, .int .u8 1, BV a] w fun e w' => e = .returned (.tuple #[BV z, .int .u8 zl, .int .i64 0]) ∧ Below w.heap.size w w') (cW1 : ∀ w, Calls Tryd.prog 27 #[.int .u8 to] w fun e w' => e = .returned (.int .i64 (w1 : Nat)) ∧ Below w.heap.size w w') (cW2 : ∀ w, Calls Tryd.prog 27 #[.int .u8 fr] w fun e w' => e = .returned (.int .i64 (w2 : Nat)) ∧ Below w.heap.size w w') (cN1 : ∀ w, Calls Tryd.prog 28 #[.int .u8 to] w fun e w' => e = .returned (BV x) ∧ Below w.heap.size w w') :
    Calls Tryd.prog 5 #[.int .u8 to, .int .u8 fr, .int .u8 m, .int .u8 n, BV a] w fun e w' => e = .returned (.bool true) ∧ Below w.heap.size w w' := by
  have H := Own.start w
  have HT := Lib.hid hT
  clear hT
  go_enter Tryd.func5, Tryd.ntmps5
  exact walkLwc5
set_option maxHeartbeats 6400000 in
set_option maxRecDepth 100000 in
theorem widBack_home_lot (to fr m n a x z : Nat) (fl zl : Int) (w : World) (hT : Tab w) (c w1 w2 : Nat) (h8 : decide ((c : Int) < 8) = true) (h9 : decide (8 ≤ (c : Int)) = false) (h88 : ((c : Int) == 8) = false) (hz : (zl == 0) = true) (hw : decide ((w1 : Int) < (w2 : Int)) = false) (cA : ∀ w, Tab w → Calls Tryd.prog 23 #[.int .u8 to, .int .u8 fr, .int .u8 m, BV a] w fun e w' => e = .returned (.tuple #[BV x, .int .u8 0, .int .i64 0]) ∧ Below w.heap.size w w') (cM : ∀ w, Calls Tryd.prog 15 #[.int .u8 n] w fun e w' => e = .returned (.int .i64 0) ∧ w = w') (cC : ∀ w, Tab w → Calls Tryd.prog 25 #[.int .u8 fr, BV a] w fun e w' => e = .returned (.tuple #[.int .u8 (c : Nat), .int .i64 0]) ∧ Below w.heap.size w w') (cF : ∀ w, Tab w → Calls Tryd.prog 26 #[.int .u8 to, .int .u8 fr, BV a] w fun e w' => e = .returned (.tuple #[.bool true, .int .i64 0]) ∧ Below w.heap.size w w') (cZ : ∀ w, Tab w → Calls Tryd.prog 23 #[.int .u8 to, .int .u8 fr, .int .u8 1, BV a] w fun e w' => e = .returned (.tuple #[BV z, .int .u8 zl, .int .i64 0]) ∧ Below w.heap.size w w') (cW1 : ∀ w, Calls Tryd.prog 27 #[.int .u8 to] w fun e w' => e = .returned (.int .i64 (w1 : Nat)) ∧ Below w.heap.size w w') (cW2 : ∀ w, Calls Tryd.prog 27 #[.int .u8 fr] w fun e w' => e = .returned (.int .i64 (w2 : Nat)) ∧ Below w.heap.size w w') (cY : ∀ w, Tab w → Calls Tryd.prog 23 #[.int .u8 fr, .int .u8 to, .int .u8 n, BV x] w fun e w' => e = .returned (.tuple #[BV a, .int .u8 0, .int .i64 0]) ∧ Below w.heap.size w w') :
    Calls Tryd.prog 5 #[.int .u8 to, .int .u8 fr, .int .u8 m, .int .u8 n, BV a] w fun e w' => e = .returned (.bool true) ∧ Below w.heap.size w w' := by
  have H := Own.start w
  have HT := Lib.hid hT
  clear hT
  go_enter Tryd.func5, Tryd.ntmps5
  exact walkLwc5
end Go.Proofs.YtjgonofkklpgaaaDoor

namespace Go.Proofs.YtjgonofkklpgaaaDoor
open Go.RowKit
theorem walkLwd5 {P : Prop} (h : P := by
  go_wp2_with (first
    | ((with_reducible show wpList _ _ _ (⟨_, .box _ _, _, _, _, _⟩ :: _) _ _); refine H.box rfl rfl (cells_agg _) ?_; (intro g w H; simp only [Act.put, List.setIfInBounds_toArray, List.set_cons_zero, List.set_cons_succ]))
    | ((with_reducible show wpList _ _ _ (⟨_, .alloc 26, _, _, _, _⟩ :: _) _ _); refine H.mk0 rfl rB rfl ?_; (intro g w H; simp only [Act.put, List.setIfInBounds_toArray, List.set_cons_zero, List.set_cons_succ]))
    | ((with_reducible show wpList _ _ _ (⟨_, .load 26 _, _, _, _, _⟩ :: _) _ _); refine H.ld rfl rB rfl rfl (by repeat (first | with_reducible exact List.mem_cons_self | apply List.mem_cons_of_mem)) (by first | with_reducible exact ext_2 _ _) (by rfl) ?_; simp only [Act.put, List.setIfInBounds_toArray, List.set_cons_zero, List.set_cons_succ])
    | ((with_reducible show wpList _ _ _ (⟨_, .store 26 _ _, _, _, _, _⟩ :: _) _ _); refine H.st rfl rB rfl rfl (cells_agg _) (by repeat (first | with_reducible exact Upd.head _ | apply Upd.tail)) (set_bits _ _ _ _) (by rfl) (by exact one_of rfl) (by first | exact ble_le rfl | (change _ + 1 ≤ 12; omega) | (change _ + 1 ≤ 6; omega)) ?_; (intro w H; simp only [Act.put]))
    | ((with_reducible show Code.wp _ (.region 16 _ true) _ _ _); refine H.heldSub rfl (List.Sublist.refl _) ?_; intro H; refine H.tk (by repeat (first | with_reducible exact List.Sublist.refl _ | with_reducible apply List.Sublist.cons_cons | with_reducible apply List.Sublist.cons)) 0 rfl (by kernel_rfl) (by kernel_rfl) (by kernel_rfl) (fun _ _ _ _ h => h) rfl rB rfl rfl (by repeat (first | with_reducible exact List.mem_cons_self | apply List.mem_cons_of_mem)) (by first | with_reducible exact ext_2 _ _) (by rfl) ?_; (try simp only [Act.put, List.setIfInBounds_toArray, List.set_cons_zero, List.set_cons_succ]); (try simp only [List.getElem_toArray, List.getElem_cons_zero, List.getElem_cons_succ]); refine H.tk (by repeat (first | with_reducible exact List.Sublist.refl _ | with_reducible apply List.Sublist.cons_cons | with_reducible apply List.Sublist.cons)) 1 rfl (by kernel_rfl) (by kernel_rfl) (by kernel_rfl) (fun _ _ _ _ h => h) rfl rB rfl rfl (by repeat (first | with_reducible exact List.mem_cons_self | apply List.mem_cons_of_mem)) (by first | with_reducible exact ext_2 _ _) (by rfl) ?_; (try simp only [Act.put, List.setIfInBounds_toArray, List.set_cons_zero, List.set_cons_succ]); (try simp only [List.getElem_toArray, List.getElem_cons_zero, List.getElem_cons_succ]); refine H.takeRun (by repeat (first | with_reducible exact List.Sublist.refl _ | with_reducible apply List.Sublist.cons_cons | with_reducible apply List.Sublist.cons)) 2 rfl (by kernel_rfl) (by kernel_rfl) (by kernel_rfl) (fun _ _ _ _ h => h) rfl (by intro w; go_simp; (try with_reducible rfl)) ?_; (try simp only [Act.put, List.setIfInBounds_toArray, List.set_cons_zero, List.set_cons_succ]); (try simp only [List.getElem_toArray, List.getElem_cons_zero, List.getElem_cons_succ]); refine H.takeRun (by repeat (first | with_reducible exact List.Sublist.refl _ | with_reducible apply List.Sublist.cons_cons | with_reducible apply List.Sublist.cons)) 3 rfl (by kernel_rfl) (by kernel_rfl) (by kernel_rfl) (fun _ _ _ _ h => h) rfl (by intro w; go_simp; (try with_reducible rfl)) ?_; (try simp only [Act.put, List.setIfInBounds_toArray, List.set_cons_zero, List.set_cons_succ]); (try simp only [List.getElem_toArray, List.getElem_cons_zero, List.getElem_cons_succ]); (first | refine H.takeRun (by repeat (first | with_reducible exact List.Sublist.refl _ | with_reducible apply List.Sublist.cons_cons | with_reducible apply List.Sublist.cons)) 4 rfl (by kernel_rfl) (by kernel_rfl) (by kernel_rfl) (fun _ _ _ _ h => h) rfl (by intro w; go_simp; (try with_reducible rfl)) ?_ | refine H.takeOff (by repeat (first | with_reducible exact List.Sublist.refl _ | with_reducible apply List.Sublist.cons_cons | with_reducible apply List.Sublist.cons)) 4 rfl (by kernel_rfl) (by kernel_rfl) (by kernel_rfl) (fun _ _ _ _ h => h) rfl ?_); (try simp only [Act.put, List.setIfInBounds_toArray, List.set_cons_zero, List.set_cons_succ]); (try simp only [List.getElem_toArray, List.getElem_cons_zero, List.getElem_cons_succ]); (first | refine H.takeRun (by repeat (first | with_reducible exact List.Sublist.refl _ | with_reducible apply List.Sublist.cons_cons | with_reducible apply List.Sublist.cons)) 5 rfl (by kernel_rfl) (by kernel_rfl) (by kernel_rfl) (fun _ _ _ _ h => h) rfl (by intro w; go_simp; (try with_reducible rfl)) ?_ | refine H.takeOff (by repeat (first | with_reducible exact List.Sublist.refl _ | with_reducible apply List.Sublist.cons_cons | with_reducible apply List.Sublist.cons)) 5 rfl (by kernel_rfl) (by kernel_rfl) (by kernel_rfl) (fun _ _ _ _ h => h) rfl ?_); (try simp only [Act.put, List.setIfInBounds_toArray, List.set_cons_zero, List.set_cons_succ]); (try simp only [List.getElem_toArray, List.getElem_cons_zero, List.getElem_cons_succ]); (first | refine H.takeRun (by repeat (first | with_reducible exact List.Sublist.refl _ | with_reducible apply List.Sublist.cons_cons | with_reducible apply List.Sublist.cons)) 6 rfl (by kernel_rfl) (by kernel_rfl) (by kernel_rfl) (fun _ _ _ _ h => h) rfl (by intro w; go_simp; (try with_reducible rfl)) ?_ | refine H.takeOff (by repeat (first | with_reducible exact List.Sublist.refl _ | with_reducible apply List.Sublist.cons_cons | with_reducible apply List.Sublist.cons)) 6 rfl (by kernel_rfl) (by kernel_rfl) (by kernel_rfl) (fun _ _ _ _ h => h) rfl ?_); (try simp only [Act.put, List.setIfInBounds_toArray, List.set_cons_zero, List.set_cons_succ]); (try simp only [List.getElem_toArray, List.getElem_cons_zero, List.getElem_cons_succ]); refine H.takeOff (by repeat (first | with_reducible exact List.Sublist.refl _ | with_reducible apply List.Sublist.cons_cons | with_reducible apply List.Sublist.cons)) 7 rfl (by kernel_rfl) (by kernel_rfl) (by kernel_rfl) (fun _ _ _ _ h => h) rfl ?_; (try simp only [Act.put, List.setIfInBounds_toArray, List.set_cons_zero, List.set_cons_succ]); (try simp only [List.getElem_toArray, List.getElem_cons_zero, List.getElem_cons_succ]); (first | refine H.takeRun (by repeat (first | with_reducible exact List.Sublist.refl _ | with_reducible apply List.Sublist.cons_cons | with_reducible apply List.Sublist.cons)) 8 rfl (by kernel_rfl) (by kernel_rfl) (by kernel_rfl) (fun _ _ _ _ h => h) rfl (by intro w; go_simp; (try with_reducible rfl)) ?_ | refine H.takeOff (by repeat (first | with_reducible exact List.Sublist.refl _ | with_reducible apply List.Sublist.cons_cons | with_reducible apply List.Sublist.cons)) 8 rfl (by kernel_rfl) (by kernel_rfl) (by kernel_rfl) (fun _ _ _ _ h => h) rfl ?_); (try simp only [Act.put, List.setIfInBounds_toArray, List.set_cons_zero, List.set_cons_succ]); (try simp only [List.getElem_toArray, List.getElem_cons_zero, List.getElem_cons_succ]); refine H.takeOff (by repeat (first | with_reducible exact List.Sublist.refl _ | with_reducible apply List.Sublist.cons_cons | with_reducible apply List.Sublist.cons)) 9 rfl (by kernel_rfl) (by kernel_rfl) (by kernel_rfl) (fun _ _ _ _ h => h) rfl ?_; (try simp only [Act.put, List.setIfInBounds_toArray, List.set_cons_zero, List.set_cons_succ]); (try simp only [List.getElem_toArray, List.getElem_cons_zero, List.getElem_cons_succ]); (first | refine H.takeRun (by repeat (first | with_reducible exact List.Sublist.refl _ | with_reducible apply List.Sublist.cons_cons | with_reducible apply List.Sublist.cons)) 10 rfl (by kernel_rfl) (by kernel_rfl) (by kernel_rfl) (fun _ _ _ _ h => h) rfl (by intro w; go_simp; (try with_reducible rfl)) ?_ | refine H.takeOff (by repeat (first | with_reducible exact List.Sublist.refl _ | with_reducible apply List.Sublist.cons_cons | with_reducible apply List.Sublist.cons)) 10 rfl (by kernel_rfl) (by kernel_rfl) (by kernel_rfl) (fun _ _ _ _ h => h) rfl ?_); (try simp only [Act.put, List.setIfInBounds_toArray, List.set_cons_zero, List.set_cons_succ]); (try simp only [List.getElem_toArray, List.getElem_cons_zero, List.getElem_cons_succ]); (first | refine H.takeRun (by repeat (first | with_reducible exact List.Sublist.refl _ | with_reducible apply List.Sublist.cons_cons | with_reducible apply List.Sublist.cons)) 11 rfl (by kernel_rfl) (by kernel_rfl) (by kernel_rfl) (fun _ _ _ _ h => h) rfl (by intro w; go_simp; (try with_reducible rfl)) ?_ | refine H.takeOff (by repeat (first | with_reducible exact List.Sublist.refl _ | with_reducible apply List.Sublist.cons_cons | with_reducible apply List.Sublist.cons)) 11 rfl (by kernel_rfl) (by kernel_rfl) (by kernel_rfl) (fun _ _ _ _ h => h) rfl ?_); (try simp only [Act.put, List.setIfInBounds_toArray, List.set_cons_zero, List.set_cons_succ]); (try simp only [List.getElem_toArray, List.getElem_cons_zero, List.getElem_cons_succ]); refine H.takeRun (by repeat (first | with_reducible exact List.Sublist.refl _ | with_reducible apply List.Sublist.cons_cons | with_reducible apply List.Sublist.cons)) 12 rfl (by kernel_rfl) (by kernel_rfl) (by kernel_rfl) (fun _ _ _ _ h => h) rfl (by intro w; go_simp; (try with_reducible rfl)) ?_; (try simp only [Act.put, List.setIfInBounds_toArray, List.set_cons_zero, List.set_cons_succ]); (try simp only [List.getElem_toArray, List.getElem_cons_zero, List.getElem_cons_succ]); refine H.takeRun (by repeat (first | with_reducible exact List.Sublist.refl _ | with_reducible apply List.Sublist.cons_cons | with_reducible apply List.Sublist.cons)) 13 rfl (by kernel_rfl) (by kernel_rfl) (by kernel_rfl) (fun _ _ _ _ h => h) rfl (by intro w; go_simp; (try with_reducible rfl)) ?_; (try simp only [Act.put, List.setIfInBounds_toArray, List.set_cons_zero, List.set_cons_succ]); (try simp only [List.getElem_toArray, List.getElem_cons_zero, List.getElem_cons_succ]); refine held_one (i := 14) (by kernel_rfl) rfl rfl ?_; unfold Oper.wp; go_simp; (go_at_call 24; ((with_reducible refine (widAlive_any _ (HT.out.below H.below)).mono ?_); rintro e w ⟨rfl, hb⟩; replace H := H.call hb; clear hb)); refine H.next (by repeat (first | with_reducible exact List.Sublist.refl _ | with_reducible apply List.Sublist.cons_cons | with_reducible apply List.Sublist.cons)) ?_; (try simp only [Act.put, List.setIfInBounds_toArray, List.set_cons_zero, List.set_cons_succ]); (try simp only [List.getElem_toArray, List.getElem_cons_zero, List.getElem_cons_succ]); refine H.takeRun (by repeat (first | with_reducible exact List.Sublist.refl _ | with_reducible apply List.Sublist.cons_cons | with_reducible apply List.Sublist.cons)) 15 rfl (by kernel_rfl) (by kernel_rfl) (by kernel_rfl) (fun _ _ _ _ h => h) rfl (by intro w; go_simp; (try with_reducible rfl)) ?_; (try simp only [Act.put, List.setIfInBounds_toArray, List.set_cons_zero, List.set_cons_succ]); (try simp only [List.getElem_toArray, List.getElem_cons_zero, List.getElem_cons_succ]); refine H.takeRun (by repeat (first | with_reducible exact List.Sublist.refl _ | with_reducible apply List.Sublist.cons_cons | with_reducible apply List.Sublist.cons)) 16 rfl (by kernel_rfl) (by kernel_rfl) (by kernel_rfl) (fun _ _ _ _ h => h) rfl (by intro w; go_simp; (try with_reducible rfl)) ?_; (try simp only [Act.put, List.setIfInBounds_toArray, List.set_cons_zero, List.set_cons_succ]); (try simp only [List.getElem_toArray, List.getElem_cons_zero, List.getElem_cons_succ]); refine wpAnyH_done (by kernel_rfl) ?_ _)
    | (go_at_call 23; ((with_reducible refine (cA _ (HT.out.below H.below)).mono ?_); rintro e w ⟨rfl, hb⟩; replace H := H.call hb; clear hb))
    | (go_at_call 15; ((with_reducible refine (cM _).mono ?_); rintro e w' ⟨rfl, rfl⟩))
    | (go_at_call 24; ((with_reducible refine (widAlive_any _ (HT.out.below H.below)).mono ?_); rintro e w ⟨rfl, hb⟩; replace H := H.call hb; clear hb))
    | (go_at_call 25; ((with_reducible refine (cC _ (HT.out.below H.below)).mono ?_); rintro e w ⟨rfl, hb⟩; replace H := H.call hb; clear hb))
    | (go_at_call 26; ((with_reducible refine (cF _ (HT.out.below H.below)).mono ?_); rintro e w ⟨rfl, hb⟩; replace H := H.call hb; clear hb))
    | (go_at_call 23; ((with_reducible refine (cZ _ (HT.out.below H.below)).mono ?_); rintro e w ⟨rfl, hb⟩; replace H := H.call hb; clear hb))
    | (go_at_call 27; ((with_reducible refine (cW1 _).mono ?_); rintro e w ⟨rfl, hb⟩; replace H := H.call hb; clear hb))
    | (go_at_call 27; ((with_reducible refine (cW2 _).mono ?_); rintro e w ⟨rfl, hb⟩; replace H := H.call hb; clear hb))
    | (go_at_call 23; ((with_reducible refine (cY _ (HT.out.below H.below)).mono ?_); rintro e w ⟨rfl, hb⟩; replace H := H.call hb; clear hb))
    )
  all_goals (go_ret; exact ⟨rfl, H.below⟩)) : P := h
set_option maxHeartbeats 6400000 in
set_option maxRecDepth 100000 in
theorem widBack_home_lof (to fr m n a x z : Nat) (fl zl : Int) (w : World) (hT : Tab w) (c w1 w2 : Nat) (h8 : decide ((c : Int) < 8) = true) (h9 : decide (8 ≤ (c : Int)) = false) (h88 : ((c : Int) == 8) = false) (hz : (zl == 0) = false) (hw : decide ((w1 : Int) < (w2 : Int)) = false) (cA : ∀ w, Tab w → Calls Tryd.prog 23 #[.int .u8 to, .int .u8 fr, .int .u8 m, BV a] w fun e w' => e = .returned (.tuple #[BV x, .int .u8 0, .int .i64 0]) ∧ Below w.heap.size w w') (cM : ∀ w, Calls Tryd.prog 15 #[.int .u8 n] w fun e w' => e = .returned (.int .i64 0) ∧ w = w') (cC : ∀ w, Tab w → Calls Tryd.prog 25 #[.int .u8 fr, BV a] w fun e w' => e = .returned (.tuple #[.int .u8 (c : Nat), .int .i64 0]) ∧ Below w.heap.size w w') (cF : ∀ w, Tab w → Calls Tryd.prog 26 #[.int .u8 to, .int .u8 fr, BV a] w fun e w' => e = .returned (.tuple #[.bool false, .int .i64 0]) ∧ Below w.heap.size w w') (cZ : ∀ w, Tab w → Calls Tryd.prog 23 #[.int .u8 to, .int .u8 fr, .int .u8 1, BV a] w fun e w' => e = .returned (.tuple #[BV z, .int .u8 zl, .int .i64 0]) ∧ Below w.heap.size w w') (cW1 : ∀ w, Calls Tryd.prog 27 #[.int .u8 to] w fun e w' => e = .returned (.int .i64 (w1 : Nat)) ∧ Below w.heap.size w w') (cW2 : ∀ w, Calls Tryd.prog 27 #[.int .u8 fr] w fun e w' => e = .returned (.int .i64 (w2 : Nat)) ∧ Below w.heap.size w w') (cY : ∀ w, Tab w → Calls Tryd.prog 23 #[.int .u8 fr, .int .u8 to, .int .u8 n, BV x] w fun e w' => e = .returned (.tuple #[BV a, .int .u8 0, .int .i64 0]) ∧ Below w.heap.size w w') :
    Calls Tryd.prog 5 #[.int .u8 to, .int .u8 fr, .int .u8 m, .int .u8 n, BV a] w fun e w' => e = .returned (.bool true) ∧ Below w.heap.size w w' := by
  have H := Own.start w
  have HT := Lib.hid hT
  clear hT
  go_enter Tryd.func5, Tryd.ntmps5
  exact walkLwd5
set_option maxHeartbeats 6400000 in
set_option maxRecDepth 100000 in
theorem widBack_home_hi (to fr m n a x z : Nat) (fl zl : Int) (w : World) (hT : Tab w) (w1 w2 : Nat) (hw : decide ((w1 : Int) < (w2 : Int)) = false) (cA : ∀ w, Tab w → Calls Tryd.prog 23 #[.int .u8 to, .int .u8 fr, .int .u8 m, BV a] w fun e w' => e = .returned (.tuple #[BV x, .int .u8 0, .int .i64 0]) ∧ Below w.heap.size w w') (cM : ∀ w, Calls Tryd.prog 15 #[.int .u8 n] w fun e w' => e = .returned (.int .i64 0) ∧ w = w') (cC : ∀ w, Tab w → Calls Tryd.prog 25 #[.int .u8 fr, BV a] w fun e w' => e = .returned (.tuple #[.int .u8 9, .int .i64 0]) ∧ Below w.heap.size w w') (cF : ∀ w, Tab w → Calls Tryd.prog 26 #[.int .u8 to, .int .u8 fr, BV a] w fun e w' => e = .returned (.tuple #[.bool false, .int .i64 0]) ∧ Below w.heap.size w w') (cZ : ∀ w, Tab w → Calls Tryd.prog 23 #[.int .u8 to, .int .u8 fr, .int .u8 1, BV a] w fun e w' => e = .returned (.tuple #[BV z, .int .u8 zl, .int .i64 0]) ∧ Below w.heap.size w w') (cW1 : ∀ w, Calls Tryd.prog 27 #[.int .u8 to] w fun e w' => e = .returned (.int .i64 (w1 : Nat)) ∧ Below w.heap.size w w') (cW2 : ∀ w, Calls Tryd.prog 27 #[.int .u8 fr] w fun e w' => e = .returned (.int .i64 (w2 : Nat)) ∧ Below w.heap.size w w') (cY : ∀ w, Tab w → Calls Tryd.prog 23 #[.int .u8 fr, .int .u8 to, .int .u8 n, BV x] w fun e w' => e = .returned (.tuple #[BV a, .int .u8 0, .int .i64 0]) ∧ Below w.heap.size w w') :
    Calls Tryd.prog 5 #[.int .u8 to, .int .u8 fr, .int .u8 m, .int .u8 n, BV a] w fun e w' => e = .returned (.bool true) ∧ Below w.heap.size w w' := by
  have H := Own.start w
  have HT := Lib.hid hT
  clear hT
  go_enter Tryd.func5, Tryd.ntmps5
  exact walkLwd5
end Go.Proofs.YtjgonofkklpgaaaDoor

namespace Go.Proofs.YtjgonofkklpgaaaDoor
open Go.RowKit
set_option maxHeartbeats 6400000 in
set_option maxRecDepth 100000 in
theorem widBack_quiet (to fr m n a x z w1 w2 y : Nat) (fl zl : Int) (w : World) (hT : Tab w) (hne : (limb y 1 == limb a 1 && limb y 0 == limb a 0) = false) (hw : decide ((w1 : Int) < (w2 : Int)) = false) (cA : ∀ w, Tab w → Calls Tryd.prog 23 #[.int .u8 to, .int .u8 fr, .int .u8 m, BV a] w fun e w' => e = .returned (.tuple #[BV x, .int .u8 0, .int .i64 0]) ∧ Below w.heap.size w w') (cM : ∀ w, Calls Tryd.prog 15 #[.int .u8 n] w fun e w' => e = .returned (.int .i64 0) ∧ w = w') (cC : ∀ w, Tab w → Calls Tryd.prog 25 #[.int .u8 fr, BV a] w fun e w' => e = .returned (.tuple #[.int .u8 9, .int .i64 0]) ∧ Below w.heap.size w w') (cF : ∀ w, Tab w → Calls Tryd.prog 26 #[.int .u8 to, .int .u8 fr, BV a] w fun e w' => e = .returned (.tuple #[.bool false, .int .i64 0]) ∧ Below w.heap.size w w') (cZ : ∀ w, Tab w → Calls Tryd.prog 23 #[.int .u8 to, .int .u8 fr, .int .u8 1, BV a] w fun e w' => e = .returned (.tuple #[BV z, .int .u8 zl, .int .i64 0]) ∧ Below w.heap.size w w') (cW1 : ∀ w, Calls Tryd.prog 27 #[.int .u8 to] w fun e w' => e = .returned (.int .i64 (w1 : Nat)) ∧ Below w.heap.size w w') (cW2 : ∀ w, Calls Tryd.prog 27 #[.int .u8 fr] w fun e w' => e = .returned (.int .i64 (w2 : Nat)) ∧ Below w.heap.size w w') (cY : ∀ w, Tab w → Calls Tryd.prog 23 #[.int .u8 fr, .int .u8 to, .int .u8 n, BV x] w fun e w' => e = .returned (.tuple #[BV y, .int .u8 0, .int .i64 0]) ∧ Below w.heap.size w w') (cN2 : ∀ w, Calls Tryd.prog 28 #[.int .u8 fr] w fun e w' => e = .returned (BV y) ∧ Below w.heap.size w w') :
    Calls Tryd.prog 5 #[.int .u8 to, .int .u8 fr, .int .u8 m, .int .u8 n, BV a] w fun e w' => e = .returned (.bool true) ∧ Below w.heap.size w w' := by
  have H := Own.start w
  have HT := Lib.hid hT
  clear hT
  have eq1 : ∀ w, (Op.equalIn 10000 26 (.agg #[.int .u64 (limb y 1), .int .u64 (limb y 0)]) (.agg #[.int .u64 (limb a 1), .int .u64 (limb a 0)])).run Tryd.prog w = .ok false w := fun w => (run_equal_bits y a w).trans (by rw [hne])
  go_enter Tryd.func5, Tryd.ntmps5
  go_wp2_with (first
    | ((with_reducible show wpList _ _ _ (⟨_, .box _ _, _, _, _, _⟩ :: _) _ _); refine H.box rfl rfl (cells_agg _) ?_; (intro g w H; simp only [Act.put, List.setIfInBounds_toArray, List.set_cons_zero, List.set_cons_succ]))
    | ((with_reducible show wpList _ _ _ (⟨_, .alloc 26, _, _, _, _⟩ :: _) _ _); refine H.mk0 rfl rB rfl ?_; (intro g w H; simp only [Act.put, List.setIfInBounds_toArray, List.set_cons_zero, List.set_cons_succ]))
    | ((with_reducible show wpList _ _ _ (⟨_, .load 26 _, _, _, _, _⟩ :: _) _ _); refine H.ld rfl rB rfl rfl (by repeat (first | with_reducible exact List.mem_cons_self | apply List.mem_cons_of_mem)) (by first | with_reducible exact ext_2 _ _) (by rfl) ?_; simp only [Act.put, List.setIfInBounds_toArray, List.set_cons_zero, List.set_cons_succ])
    | ((with_reducible show wpList _ _ _ (⟨_, .store 26 _ _, _, _, _, _⟩ :: _) _ _); refine H.st rfl rB rfl rfl (cells_agg _) (by repeat (first | with_reducible exact Upd.head _ | apply Upd.tail)) (set_bits _ _ _ _) (by rfl) (by exact one_of rfl) (by first | exact ble_le rfl | (change _ + 1 ≤ 12; omega) | (change _ + 1 ≤ 6; omega)) ?_; (intro w H; simp only [Act.put]))
    | ((with_reducible show Code.wp _ (.region 16 _ true) _ _ _); refine H.heldSub rfl (List.Sublist.refl _) ?_; intro H; refine H.tk (by repeat (first | with_reducible exact List.Sublist.refl _ | with_reducible apply List.Sublist.cons_cons | with_reducible apply List.Sublist.cons)) 0 rfl (by kernel_rfl) (by kernel_rfl) (by kernel_rfl) (fun _ _ _ _ h => h) rfl rB rfl rfl (by repeat (first | with_reducible exact List.mem_cons_self | apply List.mem_cons_of_mem)) (by first | with_reducible exact ext_2 _ _) (by rfl) ?_; (try simp only [Act.put, List.setIfInBounds_toArray, List.set_cons_zero, List.set_cons_succ]); (try simp only [List.getElem_toArray, List.getElem_cons_zero, List.getElem_cons_succ]); refine H.tk (by repeat (first | with_reducible exact List.Sublist.refl _ | with_reducible apply List.Sublist.cons_cons | with_reducible apply List.Sublist.cons)) 1 rfl (by kernel_rfl) (by kernel_rfl) (by kernel_rfl) (fun _ _ _ _ h => h) rfl rB rfl rfl (by repeat (first | with_reducible exact List.mem_cons_self | apply List.mem_cons_of_mem)) (by first | with_reducible exact ext_2 _ _) (by rfl) ?_; (try simp only [Act.put, List.setIfInBounds_toArray, List.set_cons_zero, List.set_cons_succ]); (try simp only [List.getElem_toArray, List.getElem_cons_zero, List.getElem_cons_succ]); refine H.takeRun (by repeat (first | with_reducible exact List.Sublist.refl _ | with_reducible apply List.Sublist.cons_cons | with_reducible apply List.Sublist.cons)) 2 rfl (by kernel_rfl) (by kernel_rfl) (by kernel_rfl) (fun _ _ _ _ h => h) rfl (by intro w; go_simp; (try with_reducible rfl)) ?_; (try simp only [Act.put, List.setIfInBounds_toArray, List.set_cons_zero, List.set_cons_succ]); (try simp only [List.getElem_toArray, List.getElem_cons_zero, List.getElem_cons_succ]); refine H.takeRun (by repeat (first | with_reducible exact List.Sublist.refl _ | with_reducible apply List.Sublist.cons_cons | with_reducible apply List.Sublist.cons)) 3 rfl (by kernel_rfl) (by kernel_rfl) (by kernel_rfl) (fun _ _ _ _ h => h) rfl (by intro w; go_simp; (try with_reducible rfl)) ?_; (try simp only [Act.put, List.setIfInBounds_toArray, List.set_cons_zero, List.set_cons_succ]); (try simp only [List.getElem_toArray, List.getElem_cons_zero, List.getElem_cons_succ]); (first | refine H.takeRun (by repeat (first | with_reducible exact List.Sublist.refl _ | with_reducible apply List.Sublist.cons_cons | with_reducible apply List.Sublist.cons)) 4 rfl (by kernel_rfl) (by kernel_rfl) (by kernel_rfl) (fun _ _ _ _ h => h) rfl (by intro w; go_simp; (try with_reducible rfl)) ?_ | refine H.takeOff (by repeat (first | with_reducible exact List.Sublist.refl _ | with_reducible apply List.Sublist.cons_cons | with_reducible apply List.Sublist.cons)) 4 rfl (by kernel_rfl) (by kernel_rfl) (by kernel_rfl) (fun _ _ _ _ h => h) rfl ?_); (try simp only [Act.put, List.setIfInBounds_toArray, List.set_cons_zero, List.set_cons_succ]); (try simp only [List.getElem_toArray, List.getElem_cons_zero, List.getElem_cons_succ]); (first | refine H.takeRun (by repeat (first | with_reducible exact List.Sublist.refl _ | with_reducible apply List.Sublist.cons_cons | with_reducible apply List.Sublist.cons)) 5 rfl (by kernel_rfl) (by kernel_rfl) (by kernel_rfl) (fun _ _ _ _ h => h) rfl (by intro w; go_simp; (try with_reducible rfl)) ?_ | refine H.takeOff (by repeat (first | with_reducible exact List.Sublist.refl _ | with_reducible apply List.Sublist.cons_cons | with_reducible apply List.Sublist.cons)) 5 rfl (by kernel_rfl) (by kernel_rfl) (by kernel_rfl) (fun _ _ _ _ h => h) rfl ?_); (try simp only [Act.put, List.setIfInBounds_toArray, List.set_cons_zero, List.set_cons_succ]); (try simp only [List.getElem_toArray, List.getElem_cons_zero, List.getElem_cons_succ]); (first | refine H.takeRun (by repeat (first | with_reducible exact List.Sublist.refl _ | with_reducible apply List.Sublist.cons_cons | with_reducible apply List.Sublist.cons)) 6 rfl (by kernel_rfl) (by kernel_rfl) (by kernel_rfl) (fun _ _ _ _ h => h) rfl (by intro w; go_simp; (try with_reducible rfl)) ?_ | refine H.takeOff (by repeat (first | with_reducible exact List.Sublist.refl _ | with_reducible apply List.Sublist.cons_cons | with_reducible apply List.Sublist.cons)) 6 rfl (by kernel_rfl) (by kernel_rfl) (by kernel_rfl) (fun _ _ _ _ h => h) rfl ?_); (try simp only [Act.put, List.setIfInBounds_toArray, List.set_cons_zero, List.set_cons_succ]); (try simp only [List.getElem_toArray, List.getElem_cons_zero, List.getElem_cons_succ]); (first | refine H.tk (by repeat (first | with_reducible exact List.Sublist.refl _ | with_reducible apply List.Sublist.cons_cons | with_reducible apply List.Sublist.cons)) 7 rfl (by kernel_rfl) (by kernel_rfl) (by kernel_rfl) (fun _ _ _ _ h => h) rfl rB rfl rfl (by repeat (first | with_reducible exact List.mem_cons_self | apply List.mem_cons_of_mem)) (by first | with_reducible exact ext_2 _ _) (by rfl) ?_ | refine H.takeOff (by repeat (first | with_reducible exact List.Sublist.refl _ | with_reducible apply List.Sublist.cons_cons | with_reducible apply List.Sublist.cons)) 7 rfl (by kernel_rfl) (by kernel_rfl) (by kernel_rfl) (fun _ _ _ _ h => h) rfl ?_); (try simp only [Act.put, List.setIfInBounds_toArray, List.set_cons_zero, List.set_cons_succ]); (try simp only [List.getElem_toArray, List.getElem_cons_zero, List.getElem_cons_succ]); (first | refine H.takeRun (by repeat (first | with_reducible exact List.Sublist.refl _ | with_reducible apply List.Sublist.cons_cons | with_reducible apply List.Sublist.cons)) 8 rfl (by kernel_rfl) (by kernel_rfl) (by kernel_rfl) (fun _ _ _ _ h => h) rfl (by intro w; go_simp; (try with_reducible rfl)) ?_ | refine H.takeOff (by repeat (first | with_reducible exact List.Sublist.refl _ | with_reducible apply List.Sublist.cons_cons | with_reducible apply List.Sublist.cons)) 8 rfl (by kernel_rfl) (by kernel_rfl) (by kernel_rfl) (fun _ _ _ _ h => h) rfl ?_); (try simp only [Act.put, List.setIfInBounds_toArray, List.set_cons_zero, List.set_cons_succ]); (try simp only [List.getElem_toArray, List.getElem_cons_zero, List.getElem_cons_succ]); refine held_one (i := 9) (by kernel_rfl) rfl rfl ?_; unfold Oper.wp; go_simp; (first | (go_at_call 28; ((with_reducible refine (cN2 _).mono ?_); rintro e w ⟨rfl, hb⟩; replace H := H.call hb; clear hb)) | (go_at_call 24; ((with_reducible refine (widAlive_any _ (HT.out.below H.below)).mono ?_); rintro e w ⟨rfl, hb⟩; replace H := H.call hb; clear hb))); refine H.next (by repeat (first | with_reducible exact List.Sublist.refl _ | with_reducible apply List.Sublist.cons_cons | with_reducible apply List.Sublist.cons)) ?_; (try simp only [Act.put, List.setIfInBounds_toArray, List.set_cons_zero, List.set_cons_succ]); (try simp only [List.getElem_toArray, List.getElem_cons_zero, List.getElem_cons_succ]); (first | refine H.takeRun (by repeat (first | with_reducible exact List.Sublist.refl _ | with_reducible apply List.Sublist.cons_cons | with_reducible apply List.Sublist.cons)) 10 rfl (by kernel_rfl) (by kernel_rfl) (by kernel_rfl) (fun _ _ _ _ h => h) rfl (by intro w; go_simp; (try with_reducible rfl)) ?_ | refine H.takeOff (by repeat (first | with_reducible exact List.Sublist.refl _ | with_reducible apply List.Sublist.cons_cons | with_reducible apply List.Sublist.cons)) 10 rfl (by kernel_rfl) (by kernel_rfl) (by kernel_rfl) (fun _ _ _ _ h => h) rfl ?_); (try simp only [Act.put, List.setIfInBounds_toArray, List.set_cons_zero, List.set_cons_succ]); (try simp only [List.getElem_toArray, List.getElem_cons_zero, List.getElem_cons_succ]); (first | refine H.takeRun (by repeat (first | with_reducible exact List.Sublist.refl _ | with_reducible apply List.Sublist.cons_cons | with_reducible apply List.Sublist.cons)) 11 rfl (by kernel_rfl) (by kernel_rfl) (by kernel_rfl) (fun _ _ _ _ h => h) rfl (by intro w; go_simp; (try with_reducible rfl)) ?_ | refine H.takeOff (by repeat (first | with_reducible exact List.Sublist.refl _ | with_reducible apply List.Sublist.cons_cons | with_reducible apply List.Sublist.cons)) 11 rfl (by kernel_rfl) (by kernel_rfl) (by kernel_rfl) (fun _ _ _ _ h => h) rfl ?_); (try simp only [Act.put, List.setIfInBounds_toArray, List.set_cons_zero, List.set_cons_succ]); (try simp only [List.getElem_toArray, List.getElem_cons_zero, List.getElem_cons_succ]); refine H.takeRun (by repeat (first | with_reducible exact List.Sublist.refl _ | with_reducible apply List.Sublist.cons_cons | with_reducible apply List.Sublist.cons)) 12 rfl (by kernel_rfl) (by kernel_rfl) (by kernel_rfl) (fun _ _ _ _ h => h) rfl (by intro w; go_simp; (try with_reducible rfl)) ?_; (try simp only [Act.put, List.setIfInBounds_toArray, List.set_cons_zero, List.set_cons_succ]); (try simp only [List.getElem_toArray, List.getElem_cons_zero, List.getElem_cons_succ]); refine H.takeRun (by repeat (first | with_reducible exact List.Sublist.refl _ | with_reducible apply List.Sublist.cons_cons | with_reducible apply List.Sublist.cons)) 13 rfl (by kernel_rfl) (by kernel_rfl) (by kernel_rfl) (fun _ _ _ _ h => h) rfl (by intro w; go_simp; (try with_reducible rfl)) ?_; (try simp only [Act.put, List.setIfInBounds_toArray, List.set_cons_zero, List.set_cons_succ]); (try simp only [List.getElem_toArray, List.getElem_cons_zero, List.getElem_cons_succ]); refine held_one (i := 14) (by kernel_rfl) rfl rfl ?_; unfold Oper.wp; go_simp; (first | (go_at_call 28; ((with_reducible refine (cN2 _).mono ?_); rintro e w ⟨rfl, hb⟩; replace H := H.call hb; clear hb)) | (go_at_call 24; ((with_reducible refine (widAlive_any _ (HT.out.below H.below)).mono ?_); rintro e w ⟨rfl, hb⟩; replace H := H.call hb; clear hb))); refine H.next (by repeat (first | with_reducible exact List.Sublist.refl _ | with_reducible apply List.Sublist.cons_cons | with_reducible apply List.Sublist.cons)) ?_; (try simp only [Act.put, List.setIfInBounds_toArray, List.set_cons_zero, List.set_cons_succ]); (try simp only [List.getElem_toArray, List.getElem_cons_zero, List.getElem_cons_succ]); refine H.takeRun (by repeat (first | with_reducible exact List.Sublist.refl _ | with_reducible apply List.Sublist.cons_cons | with_reducible apply List.Sublist.cons)) 15 rfl (by kernel_rfl) (by kernel_rfl) (by kernel_rfl) (fun _ _ _ _ h => h) rfl (by intro w; go_simp; (try with_reducible rfl)) ?_; (try simp only [Act.put, List.setIfInBounds_toArray, List.set_cons_zero, List.set_cons_succ]); (try simp only [List.getElem_toArray, List.getElem_cons_zero, List.getElem_cons_succ]); refine H.takeRun (by repeat (first | with_reducible exact List.Sublist.refl _ | with_reducible apply List.Sublist.cons_cons | with_reducible apply List.Sublist.cons)) 16 rfl (by kernel_rfl) (by kernel_rfl) (by kernel_rfl) (fun _ _ _ _ h => h) rfl (by intro w; go_simp; (try with_reducible rfl)) ?_; (try simp only [Act.put, List.setIfInBounds_toArray, List.set_cons_zero, List.set_cons_succ]); (try simp only [List.getElem_toArray, List.getElem_cons_zero, List.getElem_cons_succ]); refine wpAnyH_done (by kernel_rfl) ?_ _)
    | (go_at_call 23; ((with_reducible refine (cA _ (HT.out.below H.below)).mono ?_); rintro e w ⟨rfl, hb⟩; replace H := H.call hb; clear hb))
    | (go_at_call 15; ((with_reducible refine (cM _).mono ?_); rintro e w' ⟨rfl, rfl⟩))
    | (go_at_call 24; ((with_reducible refine (widAlive_any _ (HT.out.below H.below)).mono ?_); rintro e w ⟨rfl, hb⟩; replace H := H.call hb; clear hb))
    | (go_at_call 25; ((with_reducible refine (cC _ (HT.out.below H.below)).mono ?_); rintro e w ⟨rfl, hb⟩; replace H := H.call hb; clear hb))
    | (go_at_call 26; ((with_reducible refine (cF _ (HT.out.below H.below)).mono ?_); rintro e w ⟨rfl, hb⟩; replace H := H.call hb; clear hb))
    | (go_at_call 23; ((with_reducible refine (cZ _ (HT.out.below H.below)).mono ?_); rintro e w ⟨rfl, hb⟩; replace H := H.call hb; clear hb))
    | (go_at_call 27; ((with_reducible refine (cW1 _).mono ?_); rintro e w ⟨rfl, hb⟩; replace H := H.call hb; clear hb))
    | (go_at_call 27; ((with_reducible refine (cW2 _).mono ?_); rintro e w ⟨rfl, hb⟩; replace H := H.call hb; clear hb))
    | (go_at_call 23; ((with_reducible refine (cY _ (HT.out.below H.below)).mono ?_); rintro e w ⟨rfl, hb⟩; replace H := H.call hb; clear hb))
    | (go_at_call 28; ((with_reducible refine (cN2 _).mono ?_); rintro e w ⟨rfl, hb⟩; replace H := H.call hb; clear hb))
    )
  all_goals
    go_ret
    exact ⟨rfl, H.below⟩
end Go.Proofs.YtjgonofkklpgaaaDoor
