/- Part 4 of what is proved: Unp, Typ, Shq, Shr, Rup, Shs, Mem3, Mem4, Mem5, Typ2, Hlp. -/
import Derived.Outline
import Derived.Test.YtdcgcjmajacgiaaDoorSq2
import Derived.Test.YtdcgcjmajacgiaaDoorSq3
set_option linter.unusedSimpArgs false
set_option linter.unusedVariables false
set_option linter.unnecessarySimpa false
namespace Go.Proofs.YtdcgcjmajacgiaaDoor
open Go.RowKit
/-- The cells of the parts of a number. -/
def parts (c : Nat) (s : Nat) (x : Int) (f : Nat) : Array Value := #[.int .u8 c, .int .u64 (limb s 0), .int .u64 (limb s 1), .int .u64 (limb s 2), .int .u64 (limb s 3), .int .u64 (limb s 4), .int .u64 (limb s 5), .int .i64 x, .int .u64 (limb f 0), .int .u64 (limb f 1), .int .u64 (limb f 2), .int .u64 (limb f 3), .int .u64 (limb f 4), .int .u64 (limb f 5)]
abbrev PV (c s : Nat) (x : Int) (f : Nat) : Value := .agg (parts c s x f)
theorem limb_zero (i : Nat) : limb 0 i = 0 := by unfold limb limbN; rw [Nat.zero_div]; rfl
theorem parts_zero (c : Nat) : parts c 0 0 0 = #[.int .u8 c, .int .u64 0, .int .u64 0, .int .u64 0, .int .u64 0, .int .u64 0, .int .u64 0, .int .i64 0, .int .u64 0, .int .u64 0, .int .u64 0, .int .u64 0, .int .u64 0, .int .u64 0] := by
  unfold parts; simp only [limb_zero]
theorem Blk.p14 {T : TypeId} {w : World} {g c s : Nat} {x : Int} {f : Nat} (h : Blk T w g (parts c s x f)) :
    w.cell? ⟨g, 0, none⟩ = some (.int .u8 c) ∧ w.cell? ⟨g, 1, none⟩ = some (.int .u64 (limb s 0)) ∧ w.cell? ⟨g, 2, none⟩ = some (.int .u64 (limb s 1)) ∧ w.cell? ⟨g, 3, none⟩ = some (.int .u64 (limb s 2)) ∧ w.cell? ⟨g, 4, none⟩ = some (.int .u64 (limb s 3)) ∧ w.cell? ⟨g, 5, none⟩ = some (.int .u64 (limb s 4)) ∧ w.cell? ⟨g, 6, none⟩ = some (.int .u64 (limb s 5)) ∧ w.cell? ⟨g, 7, none⟩ = some (.int .i64 x) ∧ w.cell? ⟨g, 8, none⟩ = some (.int .u64 (limb f 0)) ∧ w.cell? ⟨g, 9, none⟩ = some (.int .u64 (limb f 1)) ∧ w.cell? ⟨g, 10, none⟩ = some (.int .u64 (limb f 2)) ∧ w.cell? ⟨g, 11, none⟩ = some (.int .u64 (limb f 3)) ∧ w.cell? ⟨g, 12, none⟩ = some (.int .u64 (limb f 4)) ∧ w.cell? ⟨g, 13, none⟩ = some (.int .u64 (limb f 5)) :=
  ⟨h.cell 0 rfl, h.cell 1 rfl, h.cell 2 rfl, h.cell 3 rfl, h.cell 4 rfl, h.cell 5 rfl, h.cell 6 rfl, h.cell 7 rfl, h.cell 8 rfl, h.cell 9 rfl, h.cell 10 rfl, h.cell 11 rfl, h.cell 12 rfl, h.cell 13 rfl⟩
theorem Blk.free14 {T : TypeId} {w : World} {g : Nat} {cs : Array Value} (h : Blk T w g cs) :
    w.frozen? ⟨g, 0, none⟩ = false ∧ w.frozen? ⟨g, 1, none⟩ = false ∧ w.frozen? ⟨g, 2, none⟩ = false ∧ w.frozen? ⟨g, 3, none⟩ = false ∧ w.frozen? ⟨g, 4, none⟩ = false ∧ w.frozen? ⟨g, 5, none⟩ = false ∧ w.frozen? ⟨g, 6, none⟩ = false ∧ w.frozen? ⟨g, 7, none⟩ = false ∧ w.frozen? ⟨g, 8, none⟩ = false ∧ w.frozen? ⟨g, 9, none⟩ = false ∧ w.frozen? ⟨g, 10, none⟩ = false ∧ w.frozen? ⟨g, 11, none⟩ = false ∧ w.frozen? ⟨g, 12, none⟩ = false ∧ w.frozen? ⟨g, 13, none⟩ = false :=
  ⟨h.free 0, h.free 1, h.free 2, h.free 3, h.free 4, h.free 5, h.free 6, h.free 7, h.free 8, h.free 9, h.free 10, h.free 11, h.free 12, h.free 13⟩
def put14 (w : World) (g c s : Nat) (x : Int) (f : Nat) : World := ((((((((((((((w.setCell ⟨g, 0, none⟩ (.int .u8 c)).setCell ⟨g, 1, none⟩ (.int .u64 (limb s 0))).setCell ⟨g, 2, none⟩ (.int .u64 (limb s 1))).setCell ⟨g, 3, none⟩ (.int .u64 (limb s 2))).setCell ⟨g, 4, none⟩ (.int .u64 (limb s 3))).setCell ⟨g, 5, none⟩ (.int .u64 (limb s 4))).setCell ⟨g, 6, none⟩ (.int .u64 (limb s 5))).setCell ⟨g, 7, none⟩ (.int .i64 x)).setCell ⟨g, 8, none⟩ (.int .u64 (limb f 0))).setCell ⟨g, 9, none⟩ (.int .u64 (limb f 1))).setCell ⟨g, 10, none⟩ (.int .u64 (limb f 2))).setCell ⟨g, 11, none⟩ (.int .u64 (limb f 3))).setCell ⟨g, 12, none⟩ (.int .u64 (limb f 4))).setCell ⟨g, 13, none⟩ (.int .u64 (limb f 5)))
theorem Blk.cast {T : TypeId} {w : World} {g : Nat} {cs cs' : Array Value} (h : Blk T w g cs) (e : cs = cs') : Blk T w g cs' := e ▸ h
theorem Blk.put14 {T : TypeId} {w : World} {g : Nat} {c0 s0 : Nat} {x0 : Int} {f0 : Nat} (h : Blk T w g (parts c0 s0 x0 f0)) (c s : Nat) (x : Int) (f : Nat) : Blk T (put14 w g c s x f) g (parts c s x f) := by
  unfold Go.Proofs.YtdcgcjmajacgiaaDoor.put14
  exact Blk.cast ((((((((((((((h.set 0 _ rfl).set 1 _ rfl).set 2 _ rfl).set 3 _ rfl).set 4 _ rfl).set 5 _ rfl).set 6 _ rfl).set 7 _ rfl).set 8 _ rfl).set 9 _ rfl).set 10 _ rfl).set 11 _ rfl).set 12 _ rfl).set 13 _ rfl) (by simp [parts])
theorem below_put14 {B : Nat} {w0 w : World} {g : Nat} (hb : Below B w0 w) (hg : B ≤ g) (c s : Nat) (x : Int) (f : Nat) : Below B w0 (put14 w g c s x f) := by
  unfold put14
  exact ((((((((((((((hb.setCell hg _).setCell hg _).setCell hg _).setCell hg _).setCell hg _).setCell hg _).setCell hg _).setCell hg _).setCell hg _).setCell hg _).setCell hg _).setCell hg _).setCell hg _).setCell hg _)
set_option maxHeartbeats 3200000 in
set_option maxRecDepth 100000 in
theorem kindUnpack_no (f b : Nat) (w : World)
    (cT : ∀ w, Calls Tryd.prog 22 #[.int .u8 f, BV b] w fun e' w' => e' = .returned (.bool false) ∧ Below w.heap.size w w') :
    Calls Tryd.prog 91 #[.int .u8 f, BV b] w fun e' w' => e' = .returned (.tuple #[PV 0 0 0 0, .int .i64 2]) ∧ Below w.heap.size w w' := by
  go_enter Tryd.func91, Tryd.ntmps91
  go_wp2_with fail
  refine (cT _).mono ?_
  rintro e' w1 ⟨rfl, hb1⟩
  have b4 : Blk 72 w1 (w.heap.size + 1) (parts 0 0 0 0) := by
    rw [parts_zero]
    have := (Blk.new (T := 72) (w.alloc (.cells #[.int .u64 (limb b 1), .int .u64 (limb b 0)] 27 (0, 0))) #[.int .u8 0, .int .u64 0, .int .u64 0, .int .u64 0, .int .u64 0, .int .u64 0, .int .u64 0, .int .i64 0, .int .u64 0, .int .u64 0, .int .u64 0, .int .u64 0, .int .u64 0, .int .u64 0]).below hb1 (by simp)
    simpa using this
  obtain ⟨d0, d1, d2, d3, d4, d5, d6, d7, d8, d9, d10, d11, d12, d13⟩ := b4.p14
  obtain ⟨n0, n1, n2, n3, n4, n5, n6, n7, n8, n9, n10, n11, n12, n13⟩ := b4.free14
  go_wp2_with fail
  have hb := below_put14 (((((Below.refl w.heap.size w).alloc (Nat.le_refl _) (.cells #[.int .u64 (limb b 1), .int .u64 (limb b 0)] 27 (0, 0))).alloc (by simp) (.cells #[.int .u8 0, .int .u64 0, .int .u64 0, .int .u64 0, .int .u64 0, .int .u64 0, .int .u64 0, .int .i64 0, .int .u64 0, .int .u64 0, .int .u64 0, .int .u64 0, .int .u64 0, .int .u64 0] 72 (0, 0))).trans (hb1.mono (by simp <;> omega)))) (by omega : w.heap.size ≤ w.heap.size + 1) 0 0 0 0
  unfold put14 at hb
  simp only [limb_zero] at hb
  exact bodyPost_ret (v := .tuple #[PV 0 0 0 0, .int .i64 2]) (by simp [results, Tryd.results91, go_sem, parts, limb_zero, d0, d1, d2, d3, d4, d5, d6, d7, d8, d9, d10, d11, d12, d13]) rfl ⟨rfl, hb⟩
end Go.Proofs.YtdcgcjmajacgiaaDoor

namespace Go.Proofs.YtdcgcjmajacgiaaDoor
open Go.RowKit
/-- The cells of a rough number. -/
def rough (neg : Bool) (s : Nat) (e : Int) (mo : Bool) : Array Value := #[.bool neg, .int .u64 (limb s 0), .int .u64 (limb s 1), .int .u64 (limb s 2), .int .u64 (limb s 3), .int .u64 (limb s 4), .int .u64 (limb s 5), .int .i64 e, .bool mo]
abbrev RV (neg : Bool) (s : Nat) (e : Int) (mo : Bool) : Value := .agg (rough neg s e mo)
theorem tW_s : (Tryd.prog.info? 54).map (·.size) = some 6 := by kernel_rfl
theorem tB_s : (Tryd.prog.info? 27).map (·.size) = some 2 := by kernel_rfl
theorem tP_s : (Tryd.prog.info? 72).map (·.size) = some 14 := by kernel_rfl
theorem tR_s : (Tryd.prog.info? 57).map (·.size) = some 9 := by kernel_rfl
theorem t3_s : (Tryd.prog.info? 73).map (·.size) = some 42 := by kernel_rfl
theorem tu_s : (Tryd.prog.info? 25).map (·.size) = some 1 := by kernel_rfl
theorem ti_s : (Tryd.prog.info? 3).map (·.size) = some 1 := by kernel_rfl
theorem tb_s : (Tryd.prog.info? 4).map (·.size) = some 1 := by kernel_rfl
theorem tc_s : (Tryd.prog.info? 62).map (·.size) = some 1 := by kernel_rfl
theorem tW_z : (Tryd.prog.info? 54).bind (·.zero) = some (W 0) := by rw [show W 0 = .agg (limbs 0) from rfl, limbs_zero]; kernel_rfl
theorem tB_z : (Tryd.prog.info? 27).bind (·.zero) = some (.agg #[.int .u64 0, .int .u64 0]) := by kernel_rfl
theorem tP_z : (Tryd.prog.info? 72).bind (·.zero) = some (PV 0 0 0 0) := by rw [show PV 0 0 0 0 = .agg (parts 0 0 0 0) from rfl, parts_zero]; kernel_rfl
theorem rough_zero : rough false 0 0 false = #[.bool false, .int .u64 0, .int .u64 0, .int .u64 0, .int .u64 0, .int .u64 0, .int .u64 0, .int .i64 0, .bool false] := by
  unfold rough; simp only [limb_zero]
theorem tR_z : (Tryd.prog.info? 57).bind (·.zero) = some (RV false 0 0 false) := by rw [show RV false 0 0 false = .agg (rough false 0 0 false) from rfl, rough_zero]; kernel_rfl
theorem tu_z : (Tryd.prog.info? 25).bind (·.zero) = some (.int .u64 0) := by kernel_rfl
theorem ext_limbs (a : Nat) : (limbs a).extract 0 (0 + (limbs a).size) = limbs a := rfl
theorem ext_parts (c s : Nat) (x : Int) (f : Nat) : (parts c s x f).extract 0 (0 + (parts c s x f).size) = parts c s x f := rfl
theorem ext_parts_s (c s : Nat) (x : Int) (f : Nat) : (parts c s x f).extract 1 (1 + (limbs s).size) = limbs s := rfl
theorem ext_parts_f (c s : Nat) (x : Int) (f : Nat) : (parts c s x f).extract 8 (8 + (limbs f).size) = limbs f := rfl
theorem ext_rough (neg : Bool) (s : Nat) (e : Int) (mo : Bool) : (rough neg s e mo).extract 0 (0 + (rough neg s e mo).size) = rough neg s e mo := rfl
theorem ext_rough_s (neg : Bool) (s : Nat) (e : Int) (mo : Bool) : (rough neg s e mo).extract 1 (1 + (limbs s).size) = limbs s := rfl
theorem get_rough0 (neg : Bool) (s : Nat) (e : Int) (mo : Bool) : (rough neg s e mo)[0]? = some (.bool neg) := rfl
theorem get_rough7 (neg : Bool) (s : Nat) (e : Int) (mo : Bool) : (rough neg s e mo)[7]? = some (.int .i64 e) := rfl
theorem get_rough8 (neg : Bool) (s : Nat) (e : Int) (mo : Bool) : (rough neg s e mo)[8]? = some (.bool mo) := rfl
theorem get_parts0 (c s : Nat) (x : Int) (f : Nat) : (parts c s x f)[0]? = some (.int .u8 c) := rfl
theorem get_parts7 (c s : Nat) (x : Int) (f : Nat) : (parts c s x f)[7]? = some (.int .i64 x) := rfl
theorem one_of {vs : Array Value} (h : vs.toList.all (·.oneCell') = true) : vs.all (·.oneCell') = true := by rw [← Array.all_toList]; exact h
theorem setRow_get (vs : List Value) : ∀ (cs : Array Value) (o j : Nat), o + vs.length ≤ cs.size → (setRow cs o vs)[j]? = if j < o then cs[j]? else if j < o + vs.length then vs[j - o]? else cs[j]? := by
  induction vs with
  | nil => intro cs o j _; rw [setRow]; by_cases h : j < o <;> simp [h]
  | cons v r ih =>
    intro cs o j h
    rw [List.length_cons] at h
    rw [setRow, ih _ _ _ (by rw [Array.size_setIfInBounds]; omega), Array.getElem?_setIfInBounds, List.length_cons]
    by_cases h1 : j < o
    · rw [if_pos (by omega), if_neg (by omega), if_pos h1]
    · by_cases h2 : j = o
      · subst h2
        rw [if_pos (by omega), if_pos rfl, if_pos (by omega), if_neg (by omega), if_pos (by omega), Nat.sub_self]; rfl
      · rw [if_neg (by omega), if_neg h1]
        by_cases h3 : j < o + (r.length + 1)
        · rw [if_pos (by omega), if_pos h3, show j - o = (j - (o + 1)) + 1 by omega]; rfl
        · rw [if_neg (by omega), if_neg (by omega), if_neg h3]
theorem set_all (cs vs : Array Value) (h : cs.size = vs.size) : setRow cs 0 vs.toList = vs := by
  apply Array.ext_getElem?
  intro j
  rw [setRow_get _ _ _ _ (by simp [h]), if_neg (by omega)]
  by_cases hj : j < 0 + vs.toList.length
  · rw [if_pos hj]; simp
  · rw [if_neg hj, Array.getElem?_eq_none (by simp at hj; omega), Array.getElem?_eq_none (by simp at hj; omega)]
theorem set_zero6 (cs : Array Value) (h : cs.size = 6) : setRow cs 0 (#[.int .u64 0, .int .u64 0, .int .u64 0, .int .u64 0, .int .u64 0, .int .u64 0] : Array Value).toList = limbs 0 := by rw [limbs_zero]; exact set_all _ _ h
theorem set_parts_s (c s : Nat) (x : Int) (f s' : Nat) : setRow (parts c s x f) 1 (limbs s').toList = parts c s' x f := rfl
theorem set_parts_f (c s : Nat) (x : Int) (f f' : Nat) : setRow (parts c s x f) 8 (limbs f').toList = parts c s x f' := rfl
theorem set_parts_x (c s : Nat) (x : Int) (f : Nat) (x' : Int) : setRow (parts c s x f) 7 (#[.int .i64 x'] : Array Value).toList = parts c s x' f := rfl
theorem set_rough_s (neg : Bool) (s : Nat) (e : Int) (mo : Bool) (s' : Nat) : setRow (rough neg s e mo) 1 (limbs s').toList = rough neg s' e mo := rfl
theorem set_rough_n (neg : Bool) (s : Nat) (e : Int) (mo neg' : Bool) : setRow (rough neg s e mo) 0 (#[.bool neg'] : Array Value).toList = rough neg' s e mo := rfl
end Go.Proofs.YtdcgcjmajacgiaaDoor

namespace Go.Proofs.YtdcgcjmajacgiaaDoor
open Go.RowKit
theorem limb0 (b : Nat) : limb b 0 = ((b % 18446744073709551616 : Nat) : Int) := by unfold limb limbN; rw [Nat.mul_zero, Nat.pow_zero, Nat.div_one]
theorem limb1 (b : Nat) : limb b 1 = ((b / 18446744073709551616 % 18446744073709551616 : Nat) : Int) := rfl
theorem pair_bits {a b : Int} {n : Nat} (h1 : a = limb n 1) (h0 : b = limb n 0) : Ending.returned (.agg #[.int .u64 a, .int .u64 b]) = .returned (BV n) := by rw [h1, h0]
theorem wrap_shl (x n : Nat) : IntKind.u64.wrap ((x : Int) * 2 ^ n) = ((x * 2 ^ n % 18446744073709551616 : Nat) : Int) := by
  rw [IntKind.wrap_u64, show (2 : Int) ^ n = ((2 ^ n : Nat) : Int) by simp]; omega
theorem at_hi (x d : Nat) : Ending.returned (.agg #[.int .u64 (IntKind.u64.wrap ((x : Int) * 2 ^ d)), .int .u64 0]) = .returned (BV (x * 2 ^ (d + 64))) := by
  have e : x * 2 ^ (d + 64) = x * 2 ^ d * 18446744073709551616 := by rw [Nat.pow_add, Nat.mul_assoc]
  refine pair_bits ?_ ?_
  · rw [limb1, e, wrap_shl, Nat.mul_div_cancel _ (by decide)]
  · rw [limb0, e, Nat.mul_mod_left]; rfl
theorem at_zero (x : Nat) (hx : x < 18446744073709551616) : Ending.returned (.agg #[.int .u64 0, .int .u64 (IntKind.u64.wrap (x : Int))]) = .returned (BV (x * 2 ^ 0)) := by
  rw [Nat.pow_zero, Nat.mul_one]
  exact pair_bits (by rw [limb1, Nat.div_eq_of_lt hx]; rfl) (by rw [limb0, Nat.mod_eq_of_lt hx, IntKind.wrap_u64]; omega)
theorem at_lo (x n d : Nat) (hx : x < 18446744073709551616) (hd : n + d = 64) : Ending.returned (.agg #[.int .u64 ((x : Int) / 2 ^ d), .int .u64 (IntKind.u64.wrap ((x : Int) * 2 ^ n))]) = .returned (BV (x * 2 ^ n)) := by
  have e : 18446744073709551616 = 2 ^ n * 2 ^ d := by rw [← Nat.pow_add, hd]
  refine pair_bits ?_ ?_
  · rw [limb1]
    have h1 : x * 2 ^ n / 18446744073709551616 = x / 2 ^ d := by rw [e, Nat.mul_comm (2 ^ n), Nat.mul_div_mul_right _ _ (Nat.two_pow_pos n)]
    have h2 : x / 2 ^ d < 18446744073709551616 := Nat.lt_of_le_of_lt (Nat.div_le_self _ _) hx
    rw [h1, Nat.mod_eq_of_lt h2, show (2 : Int) ^ d = ((2 ^ d : Nat) : Int) by simp]; rfl
  · rw [limb0, wrap_shl]
set_option maxHeartbeats 1600000 in
set_option maxRecDepth 100000 in
theorem shapeAt_hi (x d : Nat) (n : Nat) (w : World) (hn : n = d + 64) (hd : d < 64) :
    Calls Tryd.prog 64 #[.int .u64 x, .int .i64 n] w fun e w' => e = .returned (BV (x * 2 ^ n)) ∧ Below w.heap.size w w' := by
  have H := Own.start w
  subst hn
  have h1 : (64 : Int) ≤ (d : Int) + 64 := by omega
  have du : IntKind.u64.wrap (d : Int) = (d : Int) := by rw [IntKind.wrap_u64]; omega
  have dt : min (d : Int).toNat 64 = d := by omega
  rw [show ((d + 64 : Nat) : Int) = (d : Int) + 64 by omega]
  go_enter Tryd.func64, Tryd.ntmps64
  go_wp2_with (first
    | ((with_reducible show wpList _ _ _ (⟨_, .box _ _, _, _, _, _⟩ :: _) _ _); refine H.box rfl rfl (cells_agg _) ?_; (intro g w H; simp only [Act.put, List.setIfInBounds_toArray, List.set_cons_zero, List.set_cons_succ, List.set_nil]))
    | ((with_reducible show wpList _ _ _ (⟨_, .alloc 27, _, _, _, _⟩ :: _) _ _); refine H.new rfl (T := 27) rfl tB_z (cells_agg _) ?_; (intro g w H; simp only [Act.put, List.setIfInBounds_toArray, List.set_cons_zero, List.set_cons_succ, List.set_nil]))
    | ((with_reducible show wpList _ _ _ (⟨_, .alloc 25, _, _, _, _⟩ :: _) _ _); refine H.new rfl (T := 25) rfl tu_z (cells_int _ _) ?_; (intro g w H; simp only [Act.put, List.setIfInBounds_toArray, List.set_cons_zero, List.set_cons_succ, List.set_nil]))
    | ((with_reducible show wpList _ _ _ (⟨_, .load 27 _, _, _, _, _⟩ :: _) _ _); (first | refine H.load rfl (ty := 27) rfl rfl 0 rfl Tryd.underlying27 rfl (by with_reducible exact ext_2 _ _) (by exact tB_s) ?_ | refine H.load rfl (ty := 27) rfl rfl 1 rfl Tryd.underlying27 rfl (by with_reducible exact ext_2 _ _) (by exact tB_s) ?_); simp only [Act.put, List.setIfInBounds_toArray, List.set_cons_zero, List.set_cons_succ, List.set_nil])
    | ((with_reducible show wpList _ _ _ (⟨_, .load 25 _, _, _, _, _⟩ :: _) _ _); (first | refine H.load1 rfl (ty := 25) rfl rfl 0 rfl Tryd.underlying25 rfl (by with_reducible exact get_20 _ _) ?_ | refine H.load1 rfl (ty := 25) rfl rfl 0 rfl Tryd.underlying25 rfl (by with_reducible exact get_21 _ _) ?_ | refine H.load1 rfl (ty := 25) rfl rfl 0 rfl Tryd.underlying25 rfl (by with_reducible exact limbs_o0 _) ?_ | refine H.load1 rfl (ty := 25) rfl rfl 0 rfl Tryd.underlying25 rfl (by with_reducible exact limbs_o1 _) ?_ | refine H.load1 rfl (ty := 25) rfl rfl 0 rfl Tryd.underlying25 rfl (by with_reducible exact limbs_o2 _) ?_ | refine H.load1 rfl (ty := 25) rfl rfl 0 rfl Tryd.underlying25 rfl (by with_reducible exact limbs_o3 _) ?_ | refine H.load1 rfl (ty := 25) rfl rfl 0 rfl Tryd.underlying25 rfl (by with_reducible exact limbs_o4 _) ?_ | refine H.load1 rfl (ty := 25) rfl rfl 0 rfl Tryd.underlying25 rfl (by with_reducible exact limbs_o5 _) ?_ | refine H.load1 rfl (ty := 25) rfl rfl 0 rfl Tryd.underlying25 rfl (by with_reducible exact get_10 _) ?_ | refine H.load1 rfl (ty := 25) rfl rfl 1 rfl Tryd.underlying25 rfl (by with_reducible exact get_20 _ _) ?_ | refine H.load1 rfl (ty := 25) rfl rfl 1 rfl Tryd.underlying25 rfl (by with_reducible exact get_21 _ _) ?_ | refine H.load1 rfl (ty := 25) rfl rfl 1 rfl Tryd.underlying25 rfl (by with_reducible exact limbs_o0 _) ?_ | refine H.load1 rfl (ty := 25) rfl rfl 1 rfl Tryd.underlying25 rfl (by with_reducible exact limbs_o1 _) ?_ | refine H.load1 rfl (ty := 25) rfl rfl 1 rfl Tryd.underlying25 rfl (by with_reducible exact limbs_o2 _) ?_ | refine H.load1 rfl (ty := 25) rfl rfl 1 rfl Tryd.underlying25 rfl (by with_reducible exact limbs_o3 _) ?_ | refine H.load1 rfl (ty := 25) rfl rfl 1 rfl Tryd.underlying25 rfl (by with_reducible exact limbs_o4 _) ?_ | refine H.load1 rfl (ty := 25) rfl rfl 1 rfl Tryd.underlying25 rfl (by with_reducible exact limbs_o5 _) ?_ | refine H.load1 rfl (ty := 25) rfl rfl 1 rfl Tryd.underlying25 rfl (by with_reducible exact get_10 _) ?_); simp only [Act.put, List.setIfInBounds_toArray, List.set_cons_zero, List.set_cons_succ, List.set_nil])
    | ((with_reducible show wpList _ _ _ (⟨_, .store 27 _ _, _, _, _, _⟩ :: _) _ _); (first | refine H.store rfl (ty := 27) rfl rfl (cells_agg _) 0 rfl (by with_reducible exact set_all _ _ rfl) (by exact tB_s) (one_of rfl) (ble_le rfl) ?_ | refine H.store rfl (ty := 27) rfl rfl (cells_agg _) 1 rfl (by with_reducible exact set_all _ _ rfl) (by exact tB_s) (one_of rfl) (ble_le rfl) ?_); (intro w H; simp only [List.set_cons_zero, List.set_cons_succ] at H; simp only [Act.put, List.setIfInBounds_toArray, List.set_cons_zero, List.set_cons_succ, List.set_nil]))
    | ((with_reducible show wpList _ _ _ (⟨_, .store 25 _ _, _, _, _, _⟩ :: _) _ _); (first | refine H.store rfl (ty := 25) rfl rfl (cells_int _ _) 0 rfl (by with_reducible exact set_20 _ _ _) (by exact tu_s) (one_of rfl) (ble_le rfl) ?_ | refine H.store rfl (ty := 25) rfl rfl (cells_int _ _) 0 rfl (by with_reducible exact set_21 _ _ _) (by exact tu_s) (one_of rfl) (ble_le rfl) ?_ | refine H.store rfl (ty := 25) rfl rfl (cells_int _ _) 0 rfl (by with_reducible exact set_10 _ _) (by exact tu_s) (one_of rfl) (ble_le rfl) ?_ | refine H.store rfl (ty := 25) rfl rfl (cells_int _ _) 1 rfl (by with_reducible exact set_20 _ _ _) (by exact tu_s) (one_of rfl) (ble_le rfl) ?_ | refine H.store rfl (ty := 25) rfl rfl (cells_int _ _) 1 rfl (by with_reducible exact set_21 _ _ _) (by exact tu_s) (one_of rfl) (ble_le rfl) ?_ | refine H.store rfl (ty := 25) rfl rfl (cells_int _ _) 1 rfl (by with_reducible exact set_10 _ _) (by exact tu_s) (one_of rfl) (ble_le rfl) ?_); (intro w H; simp only [List.set_cons_zero, List.set_cons_succ] at H; simp only [Act.put, List.setIfInBounds_toArray, List.set_cons_zero, List.set_cons_succ, List.set_nil]))
    )
  (first | refine bodyPost_ret (results_c rfl rfl (H.result 0 rfl Tryd.underlying27 rfl (by exact tB_s) (ext_2 _ _))) rfl ⟨?_, H.below⟩ | refine bodyPost_ret (results_c rfl rfl (H.result 1 rfl Tryd.underlying27 rfl (by exact tB_s) (ext_2 _ _))) rfl ⟨?_, H.below⟩)
  exact at_hi x d
set_option maxHeartbeats 1600000 in
set_option maxRecDepth 100000 in
theorem shapeAt_zero (x n : Nat) (w : World) (hn : n = 0) (hx : x < 18446744073709551616) :
    Calls Tryd.prog 64 #[.int .u64 x, .int .i64 n] w fun e w' => e = .returned (BV (x * 2 ^ n)) ∧ Below w.heap.size w w' := by
  have H := Own.start w
  subst hn
  have HX := Lib.hid hx
  clear hx
  go_enter Tryd.func64, Tryd.ntmps64
  go_wp2_with (first
    | ((with_reducible show wpList _ _ _ (⟨_, .box _ _, _, _, _, _⟩ :: _) _ _); refine H.box rfl rfl (cells_agg _) ?_; (intro g w H; simp only [Act.put, List.setIfInBounds_toArray, List.set_cons_zero, List.set_cons_succ, List.set_nil]))
    | ((with_reducible show wpList _ _ _ (⟨_, .alloc 27, _, _, _, _⟩ :: _) _ _); refine H.new rfl (T := 27) rfl tB_z (cells_agg _) ?_; (intro g w H; simp only [Act.put, List.setIfInBounds_toArray, List.set_cons_zero, List.set_cons_succ, List.set_nil]))
    | ((with_reducible show wpList _ _ _ (⟨_, .alloc 25, _, _, _, _⟩ :: _) _ _); refine H.new rfl (T := 25) rfl tu_z (cells_int _ _) ?_; (intro g w H; simp only [Act.put, List.setIfInBounds_toArray, List.set_cons_zero, List.set_cons_succ, List.set_nil]))
    | ((with_reducible show wpList _ _ _ (⟨_, .load 27 _, _, _, _, _⟩ :: _) _ _); (first | refine H.load rfl (ty := 27) rfl rfl 0 rfl Tryd.underlying27 rfl (by with_reducible exact ext_2 _ _) (by exact tB_s) ?_ | refine H.load rfl (ty := 27) rfl rfl 1 rfl Tryd.underlying27 rfl (by with_reducible exact ext_2 _ _) (by exact tB_s) ?_); simp only [Act.put, List.setIfInBounds_toArray, List.set_cons_zero, List.set_cons_succ, List.set_nil])
    | ((with_reducible show wpList _ _ _ (⟨_, .load 25 _, _, _, _, _⟩ :: _) _ _); (first | refine H.load1 rfl (ty := 25) rfl rfl 0 rfl Tryd.underlying25 rfl (by with_reducible exact get_20 _ _) ?_ | refine H.load1 rfl (ty := 25) rfl rfl 0 rfl Tryd.underlying25 rfl (by with_reducible exact get_21 _ _) ?_ | refine H.load1 rfl (ty := 25) rfl rfl 0 rfl Tryd.underlying25 rfl (by with_reducible exact limbs_o0 _) ?_ | refine H.load1 rfl (ty := 25) rfl rfl 0 rfl Tryd.underlying25 rfl (by with_reducible exact limbs_o1 _) ?_ | refine H.load1 rfl (ty := 25) rfl rfl 0 rfl Tryd.underlying25 rfl (by with_reducible exact limbs_o2 _) ?_ | refine H.load1 rfl (ty := 25) rfl rfl 0 rfl Tryd.underlying25 rfl (by with_reducible exact limbs_o3 _) ?_ | refine H.load1 rfl (ty := 25) rfl rfl 0 rfl Tryd.underlying25 rfl (by with_reducible exact limbs_o4 _) ?_ | refine H.load1 rfl (ty := 25) rfl rfl 0 rfl Tryd.underlying25 rfl (by with_reducible exact limbs_o5 _) ?_ | refine H.load1 rfl (ty := 25) rfl rfl 0 rfl Tryd.underlying25 rfl (by with_reducible exact get_10 _) ?_ | refine H.load1 rfl (ty := 25) rfl rfl 1 rfl Tryd.underlying25 rfl (by with_reducible exact get_20 _ _) ?_ | refine H.load1 rfl (ty := 25) rfl rfl 1 rfl Tryd.underlying25 rfl (by with_reducible exact get_21 _ _) ?_ | refine H.load1 rfl (ty := 25) rfl rfl 1 rfl Tryd.underlying25 rfl (by with_reducible exact limbs_o0 _) ?_ | refine H.load1 rfl (ty := 25) rfl rfl 1 rfl Tryd.underlying25 rfl (by with_reducible exact limbs_o1 _) ?_ | refine H.load1 rfl (ty := 25) rfl rfl 1 rfl Tryd.underlying25 rfl (by with_reducible exact limbs_o2 _) ?_ | refine H.load1 rfl (ty := 25) rfl rfl 1 rfl Tryd.underlying25 rfl (by with_reducible exact limbs_o3 _) ?_ | refine H.load1 rfl (ty := 25) rfl rfl 1 rfl Tryd.underlying25 rfl (by with_reducible exact limbs_o4 _) ?_ | refine H.load1 rfl (ty := 25) rfl rfl 1 rfl Tryd.underlying25 rfl (by with_reducible exact limbs_o5 _) ?_ | refine H.load1 rfl (ty := 25) rfl rfl 1 rfl Tryd.underlying25 rfl (by with_reducible exact get_10 _) ?_); simp only [Act.put, List.setIfInBounds_toArray, List.set_cons_zero, List.set_cons_succ, List.set_nil])
    | ((with_reducible show wpList _ _ _ (⟨_, .store 27 _ _, _, _, _, _⟩ :: _) _ _); (first | refine H.store rfl (ty := 27) rfl rfl (cells_agg _) 0 rfl (by with_reducible exact set_all _ _ rfl) (by exact tB_s) (one_of rfl) (ble_le rfl) ?_ | refine H.store rfl (ty := 27) rfl rfl (cells_agg _) 1 rfl (by with_reducible exact set_all _ _ rfl) (by exact tB_s) (one_of rfl) (ble_le rfl) ?_); (intro w H; simp only [List.set_cons_zero, List.set_cons_succ] at H; simp only [Act.put, List.setIfInBounds_toArray, List.set_cons_zero, List.set_cons_succ, List.set_nil]))
    | ((with_reducible show wpList _ _ _ (⟨_, .store 25 _ _, _, _, _, _⟩ :: _) _ _); (first | refine H.store rfl (ty := 25) rfl rfl (cells_int _ _) 0 rfl (by with_reducible exact set_20 _ _ _) (by exact tu_s) (one_of rfl) (ble_le rfl) ?_ | refine H.store rfl (ty := 25) rfl rfl (cells_int _ _) 0 rfl (by with_reducible exact set_21 _ _ _) (by exact tu_s) (one_of rfl) (ble_le rfl) ?_ | refine H.store rfl (ty := 25) rfl rfl (cells_int _ _) 0 rfl (by with_reducible exact set_10 _ _) (by exact tu_s) (one_of rfl) (ble_le rfl) ?_ | refine H.store rfl (ty := 25) rfl rfl (cells_int _ _) 1 rfl (by with_reducible exact set_20 _ _ _) (by exact tu_s) (one_of rfl) (ble_le rfl) ?_ | refine H.store rfl (ty := 25) rfl rfl (cells_int _ _) 1 rfl (by with_reducible exact set_21 _ _ _) (by exact tu_s) (one_of rfl) (ble_le rfl) ?_ | refine H.store rfl (ty := 25) rfl rfl (cells_int _ _) 1 rfl (by with_reducible exact set_10 _ _) (by exact tu_s) (one_of rfl) (ble_le rfl) ?_); (intro w H; simp only [List.set_cons_zero, List.set_cons_succ] at H; simp only [Act.put, List.setIfInBounds_toArray, List.set_cons_zero, List.set_cons_succ, List.set_nil]))
    )
  (first | refine bodyPost_ret (results_c rfl rfl (H.result 0 rfl Tryd.underlying27 rfl (by exact tB_s) (ext_2 _ _))) rfl ⟨?_, H.below⟩ | refine bodyPost_ret (results_c rfl rfl (H.result 1 rfl Tryd.underlying27 rfl (by exact tB_s) (ext_2 _ _))) rfl ⟨?_, H.below⟩)
  exact at_zero x HX.out
set_option maxHeartbeats 1600000 in
set_option maxRecDepth 100000 in
theorem shapeAt_lo (x n d : Nat) (w : World) (hn : 0 < n) (h64 : n < 64) (hd : n + d = 64) (hx : x < 18446744073709551616) :
    Calls Tryd.prog 64 #[.int .u64 x, .int .i64 n] w fun e w' => e = .returned (BV (x * 2 ^ n)) ∧ Below w.heap.size w w' := by
  have H := Own.start w
  have h0 : (0 : Int) < (n : Int) := by omega
  have h1 : ¬ (64 : Int) ≤ (n : Int) := by omega
  have h2 : (n : Int) < 64 := by omega
  have du : IntKind.u64.wrap (n : Int) = (n : Int) := by rw [IntKind.wrap_u64]; omega
  have dt : min (n : Int).toNat 64 = n := by omega
  have dv : IntKind.i64.wrap (64 - (n : Int)) = (d : Int) := by rw [show (64 : Int) - n = d by omega]; exact IntWalk.i64_in _ (by omega)
  have dw : (64 : Int) - (n : Int) = (d : Int) := by omega
  have eu : IntKind.u64.wrap (d : Int) = (d : Int) := by rw [IntKind.wrap_u64]; omega
  have et : min (d : Int).toNat 64 = d := by omega
  have HX := Lib.hid hx
  have HD := Lib.hid hd
  clear hx hd hn h64
  go_enter Tryd.func64, Tryd.ntmps64
  go_wp2_with (first
    | ((with_reducible show wpList _ _ _ (⟨_, .box _ _, _, _, _, _⟩ :: _) _ _); refine H.box rfl rfl (cells_agg _) ?_; (intro g w H; simp only [Act.put, List.setIfInBounds_toArray, List.set_cons_zero, List.set_cons_succ, List.set_nil]))
    | ((with_reducible show wpList _ _ _ (⟨_, .alloc 27, _, _, _, _⟩ :: _) _ _); refine H.new rfl (T := 27) rfl tB_z (cells_agg _) ?_; (intro g w H; simp only [Act.put, List.setIfInBounds_toArray, List.set_cons_zero, List.set_cons_succ, List.set_nil]))
    | ((with_reducible show wpList _ _ _ (⟨_, .alloc 25, _, _, _, _⟩ :: _) _ _); refine H.new rfl (T := 25) rfl tu_z (cells_int _ _) ?_; (intro g w H; simp only [Act.put, List.setIfInBounds_toArray, List.set_cons_zero, List.set_cons_succ, List.set_nil]))
    | ((with_reducible show wpList _ _ _ (⟨_, .load 27 _, _, _, _, _⟩ :: _) _ _); (first | refine H.load rfl (ty := 27) rfl rfl 0 rfl Tryd.underlying27 rfl (by with_reducible exact ext_2 _ _) (by exact tB_s) ?_ | refine H.load rfl (ty := 27) rfl rfl 1 rfl Tryd.underlying27 rfl (by with_reducible exact ext_2 _ _) (by exact tB_s) ?_); simp only [Act.put, List.setIfInBounds_toArray, List.set_cons_zero, List.set_cons_succ, List.set_nil])
    | ((with_reducible show wpList _ _ _ (⟨_, .load 25 _, _, _, _, _⟩ :: _) _ _); (first | refine H.load1 rfl (ty := 25) rfl rfl 0 rfl Tryd.underlying25 rfl (by with_reducible exact get_20 _ _) ?_ | refine H.load1 rfl (ty := 25) rfl rfl 0 rfl Tryd.underlying25 rfl (by with_reducible exact get_21 _ _) ?_ | refine H.load1 rfl (ty := 25) rfl rfl 0 rfl Tryd.underlying25 rfl (by with_reducible exact limbs_o0 _) ?_ | refine H.load1 rfl (ty := 25) rfl rfl 0 rfl Tryd.underlying25 rfl (by with_reducible exact limbs_o1 _) ?_ | refine H.load1 rfl (ty := 25) rfl rfl 0 rfl Tryd.underlying25 rfl (by with_reducible exact limbs_o2 _) ?_ | refine H.load1 rfl (ty := 25) rfl rfl 0 rfl Tryd.underlying25 rfl (by with_reducible exact limbs_o3 _) ?_ | refine H.load1 rfl (ty := 25) rfl rfl 0 rfl Tryd.underlying25 rfl (by with_reducible exact limbs_o4 _) ?_ | refine H.load1 rfl (ty := 25) rfl rfl 0 rfl Tryd.underlying25 rfl (by with_reducible exact limbs_o5 _) ?_ | refine H.load1 rfl (ty := 25) rfl rfl 0 rfl Tryd.underlying25 rfl (by with_reducible exact get_10 _) ?_ | refine H.load1 rfl (ty := 25) rfl rfl 1 rfl Tryd.underlying25 rfl (by with_reducible exact get_20 _ _) ?_ | refine H.load1 rfl (ty := 25) rfl rfl 1 rfl Tryd.underlying25 rfl (by with_reducible exact get_21 _ _) ?_ | refine H.load1 rfl (ty := 25) rfl rfl 1 rfl Tryd.underlying25 rfl (by with_reducible exact limbs_o0 _) ?_ | refine H.load1 rfl (ty := 25) rfl rfl 1 rfl Tryd.underlying25 rfl (by with_reducible exact limbs_o1 _) ?_ | refine H.load1 rfl (ty := 25) rfl rfl 1 rfl Tryd.underlying25 rfl (by with_reducible exact limbs_o2 _) ?_ | refine H.load1 rfl (ty := 25) rfl rfl 1 rfl Tryd.underlying25 rfl (by with_reducible exact limbs_o3 _) ?_ | refine H.load1 rfl (ty := 25) rfl rfl 1 rfl Tryd.underlying25 rfl (by with_reducible exact limbs_o4 _) ?_ | refine H.load1 rfl (ty := 25) rfl rfl 1 rfl Tryd.underlying25 rfl (by with_reducible exact limbs_o5 _) ?_ | refine H.load1 rfl (ty := 25) rfl rfl 1 rfl Tryd.underlying25 rfl (by with_reducible exact get_10 _) ?_); simp only [Act.put, List.setIfInBounds_toArray, List.set_cons_zero, List.set_cons_succ, List.set_nil])
    | ((with_reducible show wpList _ _ _ (⟨_, .store 27 _ _, _, _, _, _⟩ :: _) _ _); (first | refine H.store rfl (ty := 27) rfl rfl (cells_agg _) 0 rfl (by with_reducible exact set_all _ _ rfl) (by exact tB_s) (one_of rfl) (ble_le rfl) ?_ | refine H.store rfl (ty := 27) rfl rfl (cells_agg _) 1 rfl (by with_reducible exact set_all _ _ rfl) (by exact tB_s) (one_of rfl) (ble_le rfl) ?_); (intro w H; simp only [List.set_cons_zero, List.set_cons_succ] at H; simp only [Act.put, List.setIfInBounds_toArray, List.set_cons_zero, List.set_cons_succ, List.set_nil]))
    | ((with_reducible show wpList _ _ _ (⟨_, .store 25 _ _, _, _, _, _⟩ :: _) _ _); (first | refine H.store rfl (ty := 25) rfl rfl (cells_int _ _) 0 rfl (by with_reducible exact set_20 _ _ _) (by exact tu_s) (one_of rfl) (ble_le rfl) ?_ | refine H.store rfl (ty := 25) rfl rfl (cells_int _ _) 0 rfl (by with_reducible exact set_21 _ _ _) (by exact tu_s) (one_of rfl) (ble_le rfl) ?_ | refine H.store rfl (ty := 25) rfl rfl (cells_int _ _) 0 rfl (by with_reducible exact set_10 _ _) (by exact tu_s) (one_of rfl) (ble_le rfl) ?_ | refine H.store rfl (ty := 25) rfl rfl (cells_int _ _) 1 rfl (by with_reducible exact set_20 _ _ _) (by exact tu_s) (one_of rfl) (ble_le rfl) ?_ | refine H.store rfl (ty := 25) rfl rfl (cells_int _ _) 1 rfl (by with_reducible exact set_21 _ _ _) (by exact tu_s) (one_of rfl) (ble_le rfl) ?_ | refine H.store rfl (ty := 25) rfl rfl (cells_int _ _) 1 rfl (by with_reducible exact set_10 _ _) (by exact tu_s) (one_of rfl) (ble_le rfl) ?_); (intro w H; simp only [List.set_cons_zero, List.set_cons_succ] at H; simp only [Act.put, List.setIfInBounds_toArray, List.set_cons_zero, List.set_cons_succ, List.set_nil]))
    )
  (first | refine bodyPost_ret (results_c rfl rfl (H.result 0 rfl Tryd.underlying27 rfl (by exact tB_s) (ext_2 _ _))) rfl ⟨?_, H.below⟩ | refine bodyPost_ret (results_c rfl rfl (H.result 1 rfl Tryd.underlying27 rfl (by exact tB_s) (ext_2 _ _))) rfl ⟨?_, H.below⟩)
  exact at_lo x n d HX.out HD.out
theorem shapeAt_any (x n : Nat) (w : World) (hn : n < 128) (hx : x < 18446744073709551616) :
    Calls Tryd.prog 64 #[.int .u64 x, .int .i64 n] w fun e w' => e = .returned (BV (x * 2 ^ n)) ∧ Below w.heap.size w w' := by
  rcases Nat.lt_or_ge n 64 with h | h
  · rcases Nat.eq_zero_or_pos n with h0 | h0
    · exact shapeAt_zero x n w h0 hx
    · exact shapeAt_lo x n (64 - n) w h0 h (by omega) hx
  · exact shapeAt_hi x (n - 64) n w (by omega) (by omega)
end Go.Proofs.YtdcgcjmajacgiaaDoor

namespace Go.Proofs.YtdcgcjmajacgiaaDoor
open Go.RowKit
theorem pair_zero : Ending.returned (.agg #[.int .u64 0, .int .u64 0]) = .returned (BV 0) := rfl
theorem form_small (f : Nat) (hf : f < 4) : (2 * eF f + 1) * 2 ^ (pF f - 1) < 2 ^ (wF f - 1) ∧ (4 * eF f + 3) * 2 ^ (pF f - 2) < 2 ^ (wF f - 1) ∧ 0 < (2 * eF f + 1) * 2 ^ (pF f - 1) ∧ wF f - 1 < 128 := by
  have : f = 0 ∨ f = 1 ∨ f = 2 ∨ f = 3 := by omega
  rcases this with rfl | rfl | rfl | rfl <;> decide
theorem shapeAt_one (n : Nat) (w : World) (hn : n < 128) :
    Calls Tryd.prog 64 #[.int .u64 1, .int .i64 n] w fun e w' => e = .returned (BV (1 * 2 ^ n)) ∧ Below w.heap.size w w' := shapeAt_any 1 n w hn (by decide)
set_option maxHeartbeats 1600000 in
set_option maxRecDepth 100000 in
theorem shapeWith_big (f b : Nat) (neg : Bool) (w : World) (hf : f < 256) (h4 : ¬ f < 4) :
    Calls Tryd.prog 53 #[.int .u8 f, BV b, .bool neg] w fun e w' => e = .returned (BV 0) ∧ Below w.heap.size w w' := by
  have H := Own.start w
  go_enter Tryd.func53, Tryd.ntmps53
  go_wp2_with (first
    | ((with_reducible show wpList _ _ _ (⟨_, .box _ _, _, _, _, _⟩ :: _) _ _); refine H.box rfl rfl (cells_agg _) ?_; (intro g w H; simp only [Act.put, List.setIfInBounds_toArray, List.set_cons_zero, List.set_cons_succ, List.set_nil]))
    | ((with_reducible show wpList _ _ _ (⟨_, .alloc 27, _, _, _, _⟩ :: _) _ _); refine H.new rfl (T := 27) rfl tB_z (cells_agg _) ?_; (intro g w H; simp only [Act.put, List.setIfInBounds_toArray, List.set_cons_zero, List.set_cons_succ, List.set_nil]))
    | ((with_reducible show wpList _ _ _ (⟨_, .alloc 25, _, _, _, _⟩ :: _) _ _); refine H.new rfl (T := 25) rfl tu_z (cells_int _ _) ?_; (intro g w H; simp only [Act.put, List.setIfInBounds_toArray, List.set_cons_zero, List.set_cons_succ, List.set_nil]))
    | ((with_reducible show wpList _ _ _ (⟨_, .load 27 _, _, _, _, _⟩ :: _) _ _); (first | refine H.load rfl (ty := 27) rfl rfl 0 rfl Tryd.underlying27 rfl (by with_reducible exact ext_2 _ _) (by exact tB_s) ?_ | refine H.load rfl (ty := 27) rfl rfl 1 rfl Tryd.underlying27 rfl (by with_reducible exact ext_2 _ _) (by exact tB_s) ?_); simp only [Act.put, List.setIfInBounds_toArray, List.set_cons_zero, List.set_cons_succ, List.set_nil])
    | ((with_reducible show wpList _ _ _ (⟨_, .load 25 _, _, _, _, _⟩ :: _) _ _); (first | refine H.load1 rfl (ty := 25) rfl rfl 0 rfl Tryd.underlying25 rfl (by with_reducible exact get_20 _ _) ?_ | refine H.load1 rfl (ty := 25) rfl rfl 0 rfl Tryd.underlying25 rfl (by with_reducible exact get_21 _ _) ?_ | refine H.load1 rfl (ty := 25) rfl rfl 0 rfl Tryd.underlying25 rfl (by with_reducible exact limbs_o0 _) ?_ | refine H.load1 rfl (ty := 25) rfl rfl 0 rfl Tryd.underlying25 rfl (by with_reducible exact limbs_o1 _) ?_ | refine H.load1 rfl (ty := 25) rfl rfl 0 rfl Tryd.underlying25 rfl (by with_reducible exact limbs_o2 _) ?_ | refine H.load1 rfl (ty := 25) rfl rfl 0 rfl Tryd.underlying25 rfl (by with_reducible exact limbs_o3 _) ?_ | refine H.load1 rfl (ty := 25) rfl rfl 0 rfl Tryd.underlying25 rfl (by with_reducible exact limbs_o4 _) ?_ | refine H.load1 rfl (ty := 25) rfl rfl 0 rfl Tryd.underlying25 rfl (by with_reducible exact limbs_o5 _) ?_ | refine H.load1 rfl (ty := 25) rfl rfl 0 rfl Tryd.underlying25 rfl (by with_reducible exact get_10 _) ?_ | refine H.load1 rfl (ty := 25) rfl rfl 1 rfl Tryd.underlying25 rfl (by with_reducible exact get_20 _ _) ?_ | refine H.load1 rfl (ty := 25) rfl rfl 1 rfl Tryd.underlying25 rfl (by with_reducible exact get_21 _ _) ?_ | refine H.load1 rfl (ty := 25) rfl rfl 1 rfl Tryd.underlying25 rfl (by with_reducible exact limbs_o0 _) ?_ | refine H.load1 rfl (ty := 25) rfl rfl 1 rfl Tryd.underlying25 rfl (by with_reducible exact limbs_o1 _) ?_ | refine H.load1 rfl (ty := 25) rfl rfl 1 rfl Tryd.underlying25 rfl (by with_reducible exact limbs_o2 _) ?_ | refine H.load1 rfl (ty := 25) rfl rfl 1 rfl Tryd.underlying25 rfl (by with_reducible exact limbs_o3 _) ?_ | refine H.load1 rfl (ty := 25) rfl rfl 1 rfl Tryd.underlying25 rfl (by with_reducible exact limbs_o4 _) ?_ | refine H.load1 rfl (ty := 25) rfl rfl 1 rfl Tryd.underlying25 rfl (by with_reducible exact limbs_o5 _) ?_ | refine H.load1 rfl (ty := 25) rfl rfl 1 rfl Tryd.underlying25 rfl (by with_reducible exact get_10 _) ?_); simp only [Act.put, List.setIfInBounds_toArray, List.set_cons_zero, List.set_cons_succ, List.set_nil])
    | ((with_reducible show wpList _ _ _ (⟨_, .store 27 _ _, _, _, _, _⟩ :: _) _ _); (first | refine H.store rfl (ty := 27) rfl rfl (cells_agg _) 0 rfl (by with_reducible exact set_all _ _ rfl) (by exact tB_s) (one_of rfl) (ble_le rfl) ?_ | refine H.store rfl (ty := 27) rfl rfl (cells_agg _) 1 rfl (by with_reducible exact set_all _ _ rfl) (by exact tB_s) (one_of rfl) (ble_le rfl) ?_); (intro w H; simp only [List.set_cons_zero, List.set_cons_succ] at H; simp only [Act.put, List.setIfInBounds_toArray, List.set_cons_zero, List.set_cons_succ, List.set_nil]))
    | ((with_reducible show wpList _ _ _ (⟨_, .store 25 _ _, _, _, _, _⟩ :: _) _ _); (first | refine H.store rfl (ty := 25) rfl rfl (cells_int _ _) 0 rfl (by with_reducible exact set_20 _ _ _) (by exact tu_s) (one_of rfl) (ble_le rfl) ?_ | refine H.store rfl (ty := 25) rfl rfl (cells_int _ _) 0 rfl (by with_reducible exact set_21 _ _ _) (by exact tu_s) (one_of rfl) (ble_le rfl) ?_ | refine H.store rfl (ty := 25) rfl rfl (cells_int _ _) 0 rfl (by with_reducible exact set_10 _ _) (by exact tu_s) (one_of rfl) (ble_le rfl) ?_ | refine H.store rfl (ty := 25) rfl rfl (cells_int _ _) 1 rfl (by with_reducible exact set_20 _ _ _) (by exact tu_s) (one_of rfl) (ble_le rfl) ?_ | refine H.store rfl (ty := 25) rfl rfl (cells_int _ _) 1 rfl (by with_reducible exact set_21 _ _ _) (by exact tu_s) (one_of rfl) (ble_le rfl) ?_ | refine H.store rfl (ty := 25) rfl rfl (cells_int _ _) 1 rfl (by with_reducible exact set_10 _ _) (by exact tu_s) (one_of rfl) (ble_le rfl) ?_); (intro w H; simp only [List.set_cons_zero, List.set_cons_succ] at H; simp only [Act.put, List.setIfInBounds_toArray, List.set_cons_zero, List.set_cons_succ, List.set_nil]))
    | (go_at_call 21; ((with_reducible refine (shapeCheck_any f _ hf).mono ?_); rw [decide_eq_false h4]; rintro e w' ⟨rfl, rfl⟩))
    )
  (first | refine bodyPost_ret (results_c rfl rfl (H.result 0 rfl Tryd.underlying27 rfl (by exact tB_s) (ext_2 _ _))) rfl ⟨?_, H.below⟩ | refine bodyPost_ret (results_c rfl rfl (H.result 1 rfl Tryd.underlying27 rfl (by exact tB_s) (ext_2 _ _))) rfl ⟨?_, H.below⟩)
  exact pair_zero
theorem pair_or (a b : Nat) : Ending.returned (.agg #[.int .u64 (Go.bits .or .u64 (limb a 1) (limb b 1)), .int .u64 (Go.bits .or .u64 (limb a 0) (limb b 0))]) = .returned (BV (a ||| b)) := by
  rw [limb_or, limb_or]
set_option maxHeartbeats 1600000 in
set_option maxRecDepth 100000 in
theorem shapeWith_neg (f b : Nat) (w : World) (hf : f < 256) (h4 : f < 4) :
    Calls Tryd.prog 53 #[.int .u8 f, BV b, .bool true] w fun e w' => e = .returned (BV (b ||| signN f true)) ∧ Below w.heap.size w w' := by
  have H := Own.start w
  have cW := fun w => shapeWidth_any f w hf
  have hn := (form_small f h4).2.2.2
  unfold signN
  obtain ⟨n, hn1⟩ : ∃ n, wF f - 1 = n := ⟨_, rfl⟩
  have hw : 1 ≤ wF f := by have := (formK f h4).1; omega
  rw [hn1] at hn ⊢
  have vn : IntKind.i64.wrap ((wF f : Int) - 1) = (n : Int) := by rw [show (wF f : Int) - 1 = (n : Int) by omega]; exact IntWalk.i64_in _ (by omega)
  have vm : (wF f : Int) - 1 = (n : Int) := by omega
  generalize wF f = k at *
  clear hn1
  rw [show (cond true (2 ^ n) 0 : Nat) = 1 * 2 ^ n by simp]
  go_enter Tryd.func53, Tryd.ntmps53
  go_wp2_with (first
    | ((with_reducible show wpList _ _ _ (⟨_, .box _ _, _, _, _, _⟩ :: _) _ _); refine H.box rfl rfl (cells_agg _) ?_; (intro g w H; simp only [Act.put, List.setIfInBounds_toArray, List.set_cons_zero, List.set_cons_succ, List.set_nil]))
    | ((with_reducible show wpList _ _ _ (⟨_, .alloc 27, _, _, _, _⟩ :: _) _ _); refine H.new rfl (T := 27) rfl tB_z (cells_agg _) ?_; (intro g w H; simp only [Act.put, List.setIfInBounds_toArray, List.set_cons_zero, List.set_cons_succ, List.set_nil]))
    | ((with_reducible show wpList _ _ _ (⟨_, .alloc 25, _, _, _, _⟩ :: _) _ _); refine H.new rfl (T := 25) rfl tu_z (cells_int _ _) ?_; (intro g w H; simp only [Act.put, List.setIfInBounds_toArray, List.set_cons_zero, List.set_cons_succ, List.set_nil]))
    | ((with_reducible show wpList _ _ _ (⟨_, .load 27 _, _, _, _, _⟩ :: _) _ _); (first | refine H.load rfl (ty := 27) rfl rfl 0 rfl Tryd.underlying27 rfl (by with_reducible exact ext_2 _ _) (by exact tB_s) ?_ | refine H.load rfl (ty := 27) rfl rfl 1 rfl Tryd.underlying27 rfl (by with_reducible exact ext_2 _ _) (by exact tB_s) ?_ | refine H.load rfl (ty := 27) rfl rfl 2 rfl Tryd.underlying27 rfl (by with_reducible exact ext_2 _ _) (by exact tB_s) ?_ | refine H.load rfl (ty := 27) rfl rfl 3 rfl Tryd.underlying27 rfl (by with_reducible exact ext_2 _ _) (by exact tB_s) ?_); simp only [Act.put, List.setIfInBounds_toArray, List.set_cons_zero, List.set_cons_succ, List.set_nil])
    | ((with_reducible show wpList _ _ _ (⟨_, .load 25 _, _, _, _, _⟩ :: _) _ _); (first | refine H.load1 rfl (ty := 25) rfl rfl 0 rfl Tryd.underlying25 rfl (by with_reducible exact get_20 _ _) ?_ | refine H.load1 rfl (ty := 25) rfl rfl 0 rfl Tryd.underlying25 rfl (by with_reducible exact get_21 _ _) ?_ | refine H.load1 rfl (ty := 25) rfl rfl 0 rfl Tryd.underlying25 rfl (by with_reducible exact limbs_o0 _) ?_ | refine H.load1 rfl (ty := 25) rfl rfl 0 rfl Tryd.underlying25 rfl (by with_reducible exact limbs_o1 _) ?_ | refine H.load1 rfl (ty := 25) rfl rfl 0 rfl Tryd.underlying25 rfl (by with_reducible exact limbs_o2 _) ?_ | refine H.load1 rfl (ty := 25) rfl rfl 0 rfl Tryd.underlying25 rfl (by with_reducible exact limbs_o3 _) ?_ | refine H.load1 rfl (ty := 25) rfl rfl 0 rfl Tryd.underlying25 rfl (by with_reducible exact limbs_o4 _) ?_ | refine H.load1 rfl (ty := 25) rfl rfl 0 rfl Tryd.underlying25 rfl (by with_reducible exact limbs_o5 _) ?_ | refine H.load1 rfl (ty := 25) rfl rfl 0 rfl Tryd.underlying25 rfl (by with_reducible exact get_10 _) ?_ | refine H.load1 rfl (ty := 25) rfl rfl 1 rfl Tryd.underlying25 rfl (by with_reducible exact get_20 _ _) ?_ | refine H.load1 rfl (ty := 25) rfl rfl 1 rfl Tryd.underlying25 rfl (by with_reducible exact get_21 _ _) ?_ | refine H.load1 rfl (ty := 25) rfl rfl 1 rfl Tryd.underlying25 rfl (by with_reducible exact limbs_o0 _) ?_ | refine H.load1 rfl (ty := 25) rfl rfl 1 rfl Tryd.underlying25 rfl (by with_reducible exact limbs_o1 _) ?_ | refine H.load1 rfl (ty := 25) rfl rfl 1 rfl Tryd.underlying25 rfl (by with_reducible exact limbs_o2 _) ?_ | refine H.load1 rfl (ty := 25) rfl rfl 1 rfl Tryd.underlying25 rfl (by with_reducible exact limbs_o3 _) ?_ | refine H.load1 rfl (ty := 25) rfl rfl 1 rfl Tryd.underlying25 rfl (by with_reducible exact limbs_o4 _) ?_ | refine H.load1 rfl (ty := 25) rfl rfl 1 rfl Tryd.underlying25 rfl (by with_reducible exact limbs_o5 _) ?_ | refine H.load1 rfl (ty := 25) rfl rfl 1 rfl Tryd.underlying25 rfl (by with_reducible exact get_10 _) ?_ | refine H.load1 rfl (ty := 25) rfl rfl 2 rfl Tryd.underlying25 rfl (by with_reducible exact get_20 _ _) ?_ | refine H.load1 rfl (ty := 25) rfl rfl 2 rfl Tryd.underlying25 rfl (by with_reducible exact get_21 _ _) ?_ | refine H.load1 rfl (ty := 25) rfl rfl 2 rfl Tryd.underlying25 rfl (by with_reducible exact limbs_o0 _) ?_ | refine H.load1 rfl (ty := 25) rfl rfl 2 rfl Tryd.underlying25 rfl (by with_reducible exact limbs_o1 _) ?_ | refine H.load1 rfl (ty := 25) rfl rfl 2 rfl Tryd.underlying25 rfl (by with_reducible exact limbs_o2 _) ?_ | refine H.load1 rfl (ty := 25) rfl rfl 2 rfl Tryd.underlying25 rfl (by with_reducible exact limbs_o3 _) ?_ | refine H.load1 rfl (ty := 25) rfl rfl 2 rfl Tryd.underlying25 rfl (by with_reducible exact limbs_o4 _) ?_ | refine H.load1 rfl (ty := 25) rfl rfl 2 rfl Tryd.underlying25 rfl (by with_reducible exact limbs_o5 _) ?_ | refine H.load1 rfl (ty := 25) rfl rfl 2 rfl Tryd.underlying25 rfl (by with_reducible exact get_10 _) ?_ | refine H.load1 rfl (ty := 25) rfl rfl 3 rfl Tryd.underlying25 rfl (by with_reducible exact get_20 _ _) ?_ | refine H.load1 rfl (ty := 25) rfl rfl 3 rfl Tryd.underlying25 rfl (by with_reducible exact get_21 _ _) ?_ | refine H.load1 rfl (ty := 25) rfl rfl 3 rfl Tryd.underlying25 rfl (by with_reducible exact limbs_o0 _) ?_ | refine H.load1 rfl (ty := 25) rfl rfl 3 rfl Tryd.underlying25 rfl (by with_reducible exact limbs_o1 _) ?_ | refine H.load1 rfl (ty := 25) rfl rfl 3 rfl Tryd.underlying25 rfl (by with_reducible exact limbs_o2 _) ?_ | refine H.load1 rfl (ty := 25) rfl rfl 3 rfl Tryd.underlying25 rfl (by with_reducible exact limbs_o3 _) ?_ | refine H.load1 rfl (ty := 25) rfl rfl 3 rfl Tryd.underlying25 rfl (by with_reducible exact limbs_o4 _) ?_ | refine H.load1 rfl (ty := 25) rfl rfl 3 rfl Tryd.underlying25 rfl (by with_reducible exact limbs_o5 _) ?_ | refine H.load1 rfl (ty := 25) rfl rfl 3 rfl Tryd.underlying25 rfl (by with_reducible exact get_10 _) ?_); simp only [Act.put, List.setIfInBounds_toArray, List.set_cons_zero, List.set_cons_succ, List.set_nil])
    | ((with_reducible show wpList _ _ _ (⟨_, .store 27 _ _, _, _, _, _⟩ :: _) _ _); (first | refine H.store rfl (ty := 27) rfl rfl (cells_agg _) 0 rfl (by with_reducible exact set_all _ _ rfl) (by exact tB_s) (one_of rfl) (ble_le rfl) ?_ | refine H.store rfl (ty := 27) rfl rfl (cells_agg _) 1 rfl (by with_reducible exact set_all _ _ rfl) (by exact tB_s) (one_of rfl) (ble_le rfl) ?_ | refine H.store rfl (ty := 27) rfl rfl (cells_agg _) 2 rfl (by with_reducible exact set_all _ _ rfl) (by exact tB_s) (one_of rfl) (ble_le rfl) ?_ | refine H.store rfl (ty := 27) rfl rfl (cells_agg _) 3 rfl (by with_reducible exact set_all _ _ rfl) (by exact tB_s) (one_of rfl) (ble_le rfl) ?_); (intro w H; simp only [List.set_cons_zero, List.set_cons_succ] at H; simp only [Act.put, List.setIfInBounds_toArray, List.set_cons_zero, List.set_cons_succ, List.set_nil]))
    | ((with_reducible show wpList _ _ _ (⟨_, .store 25 _ _, _, _, _, _⟩ :: _) _ _); (first | refine H.store rfl (ty := 25) rfl rfl (cells_int _ _) 0 rfl (by with_reducible exact set_20 _ _ _) (by exact tu_s) (one_of rfl) (ble_le rfl) ?_ | refine H.store rfl (ty := 25) rfl rfl (cells_int _ _) 0 rfl (by with_reducible exact set_21 _ _ _) (by exact tu_s) (one_of rfl) (ble_le rfl) ?_ | refine H.store rfl (ty := 25) rfl rfl (cells_int _ _) 0 rfl (by with_reducible exact set_10 _ _) (by exact tu_s) (one_of rfl) (ble_le rfl) ?_ | refine H.store rfl (ty := 25) rfl rfl (cells_int _ _) 1 rfl (by with_reducible exact set_20 _ _ _) (by exact tu_s) (one_of rfl) (ble_le rfl) ?_ | refine H.store rfl (ty := 25) rfl rfl (cells_int _ _) 1 rfl (by with_reducible exact set_21 _ _ _) (by exact tu_s) (one_of rfl) (ble_le rfl) ?_ | refine H.store rfl (ty := 25) rfl rfl (cells_int _ _) 1 rfl (by with_reducible exact set_10 _ _) (by exact tu_s) (one_of rfl) (ble_le rfl) ?_ | refine H.store rfl (ty := 25) rfl rfl (cells_int _ _) 2 rfl (by with_reducible exact set_20 _ _ _) (by exact tu_s) (one_of rfl) (ble_le rfl) ?_ | refine H.store rfl (ty := 25) rfl rfl (cells_int _ _) 2 rfl (by with_reducible exact set_21 _ _ _) (by exact tu_s) (one_of rfl) (ble_le rfl) ?_ | refine H.store rfl (ty := 25) rfl rfl (cells_int _ _) 2 rfl (by with_reducible exact set_10 _ _) (by exact tu_s) (one_of rfl) (ble_le rfl) ?_ | refine H.store rfl (ty := 25) rfl rfl (cells_int _ _) 3 rfl (by with_reducible exact set_20 _ _ _) (by exact tu_s) (one_of rfl) (ble_le rfl) ?_ | refine H.store rfl (ty := 25) rfl rfl (cells_int _ _) 3 rfl (by with_reducible exact set_21 _ _ _) (by exact tu_s) (one_of rfl) (ble_le rfl) ?_ | refine H.store rfl (ty := 25) rfl rfl (cells_int _ _) 3 rfl (by with_reducible exact set_10 _ _) (by exact tu_s) (one_of rfl) (ble_le rfl) ?_); (intro w H; simp only [List.set_cons_zero, List.set_cons_succ] at H; simp only [Act.put, List.setIfInBounds_toArray, List.set_cons_zero, List.set_cons_succ, List.set_nil]))
    | (go_at_call 21; ((with_reducible refine (shapeCheck_any f _ hf).mono ?_); rw [decide_eq_true h4]; rintro e w' ⟨rfl, rfl⟩))
    | (go_at_call 41; ((with_reducible refine (cW _).mono ?_); rintro e w ⟨rfl, hb⟩; replace H := H.call hb; clear hb))
    | (go_at_call 64; ((with_reducible refine (shapeAt_one n _ hn).mono ?_); rintro e w ⟨rfl, hb⟩; replace H := H.call hb; clear hb))
    )
  (first | refine bodyPost_ret (results_c rfl rfl (H.result 0 rfl Tryd.underlying27 rfl (by exact tB_s) (ext_2 _ _))) rfl ⟨?_, H.below⟩ | refine bodyPost_ret (results_c rfl rfl (H.result 1 rfl Tryd.underlying27 rfl (by exact tB_s) (ext_2 _ _))) rfl ⟨?_, H.below⟩ | refine bodyPost_ret (results_c rfl rfl (H.result 2 rfl Tryd.underlying27 rfl (by exact tB_s) (ext_2 _ _))) rfl ⟨?_, H.below⟩ | refine bodyPost_ret (results_c rfl rfl (H.result 3 rfl Tryd.underlying27 rfl (by exact tB_s) (ext_2 _ _))) rfl ⟨?_, H.below⟩)
  exact by simpa using pair_or b (1 * 2 ^ n)
set_option maxHeartbeats 1600000 in
set_option maxRecDepth 100000 in
theorem shapeWith_pos (f b : Nat) (w : World) (hf : f < 256) (h4 : f < 4) :
    Calls Tryd.prog 53 #[.int .u8 f, BV b, .bool false] w fun e w' => e = .returned (BV (b ||| signN f false)) ∧ Below w.heap.size w w' := by
  have H := Own.start w
  rw [show signN f false = 0 from rfl, Nat.or_zero]
  go_enter Tryd.func53, Tryd.ntmps53
  go_wp2_with (first
    | ((with_reducible show wpList _ _ _ (⟨_, .box _ _, _, _, _, _⟩ :: _) _ _); refine H.box rfl rfl (cells_agg _) ?_; (intro g w H; simp only [Act.put, List.setIfInBounds_toArray, List.set_cons_zero, List.set_cons_succ, List.set_nil]))
    | ((with_reducible show wpList _ _ _ (⟨_, .alloc 27, _, _, _, _⟩ :: _) _ _); refine H.new rfl (T := 27) rfl tB_z (cells_agg _) ?_; (intro g w H; simp only [Act.put, List.setIfInBounds_toArray, List.set_cons_zero, List.set_cons_succ, List.set_nil]))
    | ((with_reducible show wpList _ _ _ (⟨_, .alloc 25, _, _, _, _⟩ :: _) _ _); refine H.new rfl (T := 25) rfl tu_z (cells_int _ _) ?_; (intro g w H; simp only [Act.put, List.setIfInBounds_toArray, List.set_cons_zero, List.set_cons_succ, List.set_nil]))
    | ((with_reducible show wpList _ _ _ (⟨_, .load 27 _, _, _, _, _⟩ :: _) _ _); (first | refine H.load rfl (ty := 27) rfl rfl 0 rfl Tryd.underlying27 rfl (by with_reducible exact ext_2 _ _) (by exact tB_s) ?_ | refine H.load rfl (ty := 27) rfl rfl 1 rfl Tryd.underlying27 rfl (by with_reducible exact ext_2 _ _) (by exact tB_s) ?_ | refine H.load rfl (ty := 27) rfl rfl 2 rfl Tryd.underlying27 rfl (by with_reducible exact ext_2 _ _) (by exact tB_s) ?_ | refine H.load rfl (ty := 27) rfl rfl 3 rfl Tryd.underlying27 rfl (by with_reducible exact ext_2 _ _) (by exact tB_s) ?_); simp only [Act.put, List.setIfInBounds_toArray, List.set_cons_zero, List.set_cons_succ, List.set_nil])
    | ((with_reducible show wpList _ _ _ (⟨_, .load 25 _, _, _, _, _⟩ :: _) _ _); (first | refine H.load1 rfl (ty := 25) rfl rfl 0 rfl Tryd.underlying25 rfl (by with_reducible exact get_20 _ _) ?_ | refine H.load1 rfl (ty := 25) rfl rfl 0 rfl Tryd.underlying25 rfl (by with_reducible exact get_21 _ _) ?_ | refine H.load1 rfl (ty := 25) rfl rfl 0 rfl Tryd.underlying25 rfl (by with_reducible exact limbs_o0 _) ?_ | refine H.load1 rfl (ty := 25) rfl rfl 0 rfl Tryd.underlying25 rfl (by with_reducible exact limbs_o1 _) ?_ | refine H.load1 rfl (ty := 25) rfl rfl 0 rfl Tryd.underlying25 rfl (by with_reducible exact limbs_o2 _) ?_ | refine H.load1 rfl (ty := 25) rfl rfl 0 rfl Tryd.underlying25 rfl (by with_reducible exact limbs_o3 _) ?_ | refine H.load1 rfl (ty := 25) rfl rfl 0 rfl Tryd.underlying25 rfl (by with_reducible exact limbs_o4 _) ?_ | refine H.load1 rfl (ty := 25) rfl rfl 0 rfl Tryd.underlying25 rfl (by with_reducible exact limbs_o5 _) ?_ | refine H.load1 rfl (ty := 25) rfl rfl 0 rfl Tryd.underlying25 rfl (by with_reducible exact get_10 _) ?_ | refine H.load1 rfl (ty := 25) rfl rfl 1 rfl Tryd.underlying25 rfl (by with_reducible exact get_20 _ _) ?_ | refine H.load1 rfl (ty := 25) rfl rfl 1 rfl Tryd.underlying25 rfl (by with_reducible exact get_21 _ _) ?_ | refine H.load1 rfl (ty := 25) rfl rfl 1 rfl Tryd.underlying25 rfl (by with_reducible exact limbs_o0 _) ?_ | refine H.load1 rfl (ty := 25) rfl rfl 1 rfl Tryd.underlying25 rfl (by with_reducible exact limbs_o1 _) ?_ | refine H.load1 rfl (ty := 25) rfl rfl 1 rfl Tryd.underlying25 rfl (by with_reducible exact limbs_o2 _) ?_ | refine H.load1 rfl (ty := 25) rfl rfl 1 rfl Tryd.underlying25 rfl (by with_reducible exact limbs_o3 _) ?_ | refine H.load1 rfl (ty := 25) rfl rfl 1 rfl Tryd.underlying25 rfl (by with_reducible exact limbs_o4 _) ?_ | refine H.load1 rfl (ty := 25) rfl rfl 1 rfl Tryd.underlying25 rfl (by with_reducible exact limbs_o5 _) ?_ | refine H.load1 rfl (ty := 25) rfl rfl 1 rfl Tryd.underlying25 rfl (by with_reducible exact get_10 _) ?_ | refine H.load1 rfl (ty := 25) rfl rfl 2 rfl Tryd.underlying25 rfl (by with_reducible exact get_20 _ _) ?_ | refine H.load1 rfl (ty := 25) rfl rfl 2 rfl Tryd.underlying25 rfl (by with_reducible exact get_21 _ _) ?_ | refine H.load1 rfl (ty := 25) rfl rfl 2 rfl Tryd.underlying25 rfl (by with_reducible exact limbs_o0 _) ?_ | refine H.load1 rfl (ty := 25) rfl rfl 2 rfl Tryd.underlying25 rfl (by with_reducible exact limbs_o1 _) ?_ | refine H.load1 rfl (ty := 25) rfl rfl 2 rfl Tryd.underlying25 rfl (by with_reducible exact limbs_o2 _) ?_ | refine H.load1 rfl (ty := 25) rfl rfl 2 rfl Tryd.underlying25 rfl (by with_reducible exact limbs_o3 _) ?_ | refine H.load1 rfl (ty := 25) rfl rfl 2 rfl Tryd.underlying25 rfl (by with_reducible exact limbs_o4 _) ?_ | refine H.load1 rfl (ty := 25) rfl rfl 2 rfl Tryd.underlying25 rfl (by with_reducible exact limbs_o5 _) ?_ | refine H.load1 rfl (ty := 25) rfl rfl 2 rfl Tryd.underlying25 rfl (by with_reducible exact get_10 _) ?_ | refine H.load1 rfl (ty := 25) rfl rfl 3 rfl Tryd.underlying25 rfl (by with_reducible exact get_20 _ _) ?_ | refine H.load1 rfl (ty := 25) rfl rfl 3 rfl Tryd.underlying25 rfl (by with_reducible exact get_21 _ _) ?_ | refine H.load1 rfl (ty := 25) rfl rfl 3 rfl Tryd.underlying25 rfl (by with_reducible exact limbs_o0 _) ?_ | refine H.load1 rfl (ty := 25) rfl rfl 3 rfl Tryd.underlying25 rfl (by with_reducible exact limbs_o1 _) ?_ | refine H.load1 rfl (ty := 25) rfl rfl 3 rfl Tryd.underlying25 rfl (by with_reducible exact limbs_o2 _) ?_ | refine H.load1 rfl (ty := 25) rfl rfl 3 rfl Tryd.underlying25 rfl (by with_reducible exact limbs_o3 _) ?_ | refine H.load1 rfl (ty := 25) rfl rfl 3 rfl Tryd.underlying25 rfl (by with_reducible exact limbs_o4 _) ?_ | refine H.load1 rfl (ty := 25) rfl rfl 3 rfl Tryd.underlying25 rfl (by with_reducible exact limbs_o5 _) ?_ | refine H.load1 rfl (ty := 25) rfl rfl 3 rfl Tryd.underlying25 rfl (by with_reducible exact get_10 _) ?_); simp only [Act.put, List.setIfInBounds_toArray, List.set_cons_zero, List.set_cons_succ, List.set_nil])
    | ((with_reducible show wpList _ _ _ (⟨_, .store 27 _ _, _, _, _, _⟩ :: _) _ _); (first | refine H.store rfl (ty := 27) rfl rfl (cells_agg _) 0 rfl (by with_reducible exact set_all _ _ rfl) (by exact tB_s) (one_of rfl) (ble_le rfl) ?_ | refine H.store rfl (ty := 27) rfl rfl (cells_agg _) 1 rfl (by with_reducible exact set_all _ _ rfl) (by exact tB_s) (one_of rfl) (ble_le rfl) ?_ | refine H.store rfl (ty := 27) rfl rfl (cells_agg _) 2 rfl (by with_reducible exact set_all _ _ rfl) (by exact tB_s) (one_of rfl) (ble_le rfl) ?_ | refine H.store rfl (ty := 27) rfl rfl (cells_agg _) 3 rfl (by with_reducible exact set_all _ _ rfl) (by exact tB_s) (one_of rfl) (ble_le rfl) ?_); (intro w H; simp only [List.set_cons_zero, List.set_cons_succ] at H; simp only [Act.put, List.setIfInBounds_toArray, List.set_cons_zero, List.set_cons_succ, List.set_nil]))
    | ((with_reducible show wpList _ _ _ (⟨_, .store 25 _ _, _, _, _, _⟩ :: _) _ _); (first | refine H.store rfl (ty := 25) rfl rfl (cells_int _ _) 0 rfl (by with_reducible exact set_20 _ _ _) (by exact tu_s) (one_of rfl) (ble_le rfl) ?_ | refine H.store rfl (ty := 25) rfl rfl (cells_int _ _) 0 rfl (by with_reducible exact set_21 _ _ _) (by exact tu_s) (one_of rfl) (ble_le rfl) ?_ | refine H.store rfl (ty := 25) rfl rfl (cells_int _ _) 0 rfl (by with_reducible exact set_10 _ _) (by exact tu_s) (one_of rfl) (ble_le rfl) ?_ | refine H.store rfl (ty := 25) rfl rfl (cells_int _ _) 1 rfl (by with_reducible exact set_20 _ _ _) (by exact tu_s) (one_of rfl) (ble_le rfl) ?_ | refine H.store rfl (ty := 25) rfl rfl (cells_int _ _) 1 rfl (by with_reducible exact set_21 _ _ _) (by exact tu_s) (one_of rfl) (ble_le rfl) ?_ | refine H.store rfl (ty := 25) rfl rfl (cells_int _ _) 1 rfl (by with_reducible exact set_10 _ _) (by exact tu_s) (one_of rfl) (ble_le rfl) ?_ | refine H.store rfl (ty := 25) rfl rfl (cells_int _ _) 2 rfl (by with_reducible exact set_20 _ _ _) (by exact tu_s) (one_of rfl) (ble_le rfl) ?_ | refine H.store rfl (ty := 25) rfl rfl (cells_int _ _) 2 rfl (by with_reducible exact set_21 _ _ _) (by exact tu_s) (one_of rfl) (ble_le rfl) ?_ | refine H.store rfl (ty := 25) rfl rfl (cells_int _ _) 2 rfl (by with_reducible exact set_10 _ _) (by exact tu_s) (one_of rfl) (ble_le rfl) ?_ | refine H.store rfl (ty := 25) rfl rfl (cells_int _ _) 3 rfl (by with_reducible exact set_20 _ _ _) (by exact tu_s) (one_of rfl) (ble_le rfl) ?_ | refine H.store rfl (ty := 25) rfl rfl (cells_int _ _) 3 rfl (by with_reducible exact set_21 _ _ _) (by exact tu_s) (one_of rfl) (ble_le rfl) ?_ | refine H.store rfl (ty := 25) rfl rfl (cells_int _ _) 3 rfl (by with_reducible exact set_10 _ _) (by exact tu_s) (one_of rfl) (ble_le rfl) ?_); (intro w H; simp only [List.set_cons_zero, List.set_cons_succ] at H; simp only [Act.put, List.setIfInBounds_toArray, List.set_cons_zero, List.set_cons_succ, List.set_nil]))
    | (go_at_call 21; ((with_reducible refine (shapeCheck_any f _ hf).mono ?_); rw [decide_eq_true h4]; rintro e w' ⟨rfl, rfl⟩))
    )
  (first | refine bodyPost_ret (results_c rfl rfl (H.result 0 rfl Tryd.underlying27 rfl (by exact tB_s) (ext_2 _ _))) rfl ⟨?_, H.below⟩ | refine bodyPost_ret (results_c rfl rfl (H.result 1 rfl Tryd.underlying27 rfl (by exact tB_s) (ext_2 _ _))) rfl ⟨?_, H.below⟩ | refine bodyPost_ret (results_c rfl rfl (H.result 2 rfl Tryd.underlying27 rfl (by exact tB_s) (ext_2 _ _))) rfl ⟨?_, H.below⟩ | refine bodyPost_ret (results_c rfl rfl (H.result 3 rfl Tryd.underlying27 rfl (by exact tB_s) (ext_2 _ _))) rfl ⟨?_, H.below⟩)
  exact rfl
theorem shapeWith_any (f b : Nat) (neg : Bool) (w : World) (hf : f < 256) :
    Calls Tryd.prog 53 #[.int .u8 f, BV b, .bool neg] w fun e w' => e = .returned (BV (cond (decide (f < 4)) (b ||| signN f neg) 0)) ∧ Below w.heap.size w w' := by
  by_cases h4 : f < 4
  · rw [decide_eq_true h4]
    cases neg
    · exact shapeWith_pos f b w hf h4
    · exact shapeWith_neg f b w hf h4
  · rw [decide_eq_false h4]
    exact shapeWith_big f b neg w hf h4
end Go.Proofs.YtdcgcjmajacgiaaDoor

namespace Go.Proofs.YtdcgcjmajacgiaaDoor
open Go.RowKit
set_option maxHeartbeats 3200000 in
set_option maxRecDepth 100000 in
theorem roundUp_any (m : Nat) (neg odd : Bool) (half : Int) (exact : Bool) (w : World) (hm : m < 256) (hh : half = -1 ∨ half = 0 ∨ half = 1) :
    Calls Tryd.prog 93 #[.int .u8 m, .bool neg, .bool odd, .int .i64 half, .bool exact] w fun e w' => e = .returned (.bool (upB m neg odd half exact)) ∧ w = w' := by
  cases exact
  · have : m = 0 ∨ m = 1 ∨ m = 2 ∨ m = 3 ∨ m = 4 ∨ 5 ≤ m := by omega
    rcases this with rfl | rfl | rfl | rfl | rfl | h
    · rcases hh with rfl | rfl | rfl <;>
      · go_enter Tryd.func93, Tryd.ntmps93
        go_wp2
        go_ret
        exact ⟨ret_bool (by simp [upB]), rfl⟩
    · go_enter Tryd.func93, Tryd.ntmps93
      go_wp2
      go_ret
      exact ⟨ret_bool (by simp [upB]), rfl⟩
    · cases neg <;>
      · go_enter Tryd.func93, Tryd.ntmps93
        go_wp2
        go_ret
        exact ⟨ret_bool (by simp [upB]), rfl⟩
    · cases neg <;>
      · go_enter Tryd.func93, Tryd.ntmps93
        go_wp2
        go_ret
        exact ⟨ret_bool (by simp [upB]), rfl⟩
    · rcases hh with rfl | rfl | rfl <;>
      · go_enter Tryd.func93, Tryd.ntmps93
        go_wp2
        go_ret
        exact ⟨ret_bool (by simp [upB]), rfl⟩
    · rw [upB_big _ _ _ _ _ h]
      have h5 : (5 : Int) ≤ (m : Int) := by omega
      have e0 : ((m : Int) == 0) = false := by simp; omega
      have e2 : ((m : Int) == 2) = false := by simp; omega
      have e3 : ((m : Int) == 3) = false := by simp; omega
      have e4 : ((m : Int) == 4) = false := by simp; omega
      go_enter Tryd.func93, Tryd.ntmps93
      go_wp2
      go_ret
      exact ⟨rfl, rfl⟩
  · go_enter Tryd.func93, Tryd.ntmps93
    go_wp2
    go_ret
    exact ⟨ret_bool (by simp [upB]), rfl⟩
end Go.Proofs.YtdcgcjmajacgiaaDoor

namespace Go.Proofs.YtdcgcjmajacgiaaDoor
open Go.RowKit
theorem or_sign (f x : Nat) (neg : Bool) (h : x < 2 ^ (wF f - 1)) : x ||| signN f neg = x + signN f neg := by
  cases neg
  · exact (Nat.or_zero x).trans (Nat.add_zero x).symm
  · show x ||| 2 ^ (wF f - 1) = x + 2 ^ (wF f - 1)
    rw [Nat.or_comm, Nat.add_comm]
    have := Nat.two_pow_add_eq_or_of_lt h 1
    rw [Nat.mul_one] at this; exact this.symm
theorem wrap_nat (x : Int) (n : Nat) (h : x = n) (hn : n < 18446744073709551616) : IntKind.u64.wrap x = (n : Int) := by rw [h, IntKind.wrap_u64]; omega
set_option maxHeartbeats 1600000 in
set_option maxRecDepth 100000 in
theorem shapeField_any (f k : Nat) (w : World) (h4 : f < 4) (hk : k < 32768) :
    Calls Tryd.prog 54 #[.int .u8 f, .int .i64 k] w fun e w' => e = .returned (BV (k * 2 ^ (pF f - 1))) ∧ Below w.heap.size w w' := by
  have H := Own.start w
  have cP := fun w => shapePrecision_any f w (by omega)
  obtain ⟨-, -, -, -, -, -, h1, h2⟩ := formK f h4
  obtain ⟨n, hn⟩ : ∃ n, pF f - 1 = n := ⟨_, rfl⟩
  rw [hn]
  have vn : IntKind.i64.wrap ((pF f : Int) - 1) = (n : Int) := by rw [show (pF f : Int) - 1 = (n : Int) by omega]; exact IntWalk.i64_in _ (by omega)
  have vm : (pF f : Int) - 1 = (n : Int) := by omega
  have ve : IntKind.u64.wrap (k : Int) = (k : Int) := wrap_nat _ k rfl (by omega)
  generalize pF f = p at *
  clear hn
  go_enter Tryd.func54, Tryd.ntmps54
  go_wp2_with (first
    | ((with_reducible show wpList _ _ _ (⟨_, .box _ _, _, _, _, _⟩ :: _) _ _); refine H.box rfl rfl (cells_agg _) ?_; (intro g w H; simp only [Act.put, List.setIfInBounds_toArray, List.set_cons_zero, List.set_cons_succ, List.set_nil]))
    | ((with_reducible show wpList _ _ _ (⟨_, .alloc 27, _, _, _, _⟩ :: _) _ _); refine H.new rfl (T := 27) rfl tB_z (cells_agg _) ?_; (intro g w H; simp only [Act.put, List.setIfInBounds_toArray, List.set_cons_zero, List.set_cons_succ, List.set_nil]))
    | ((with_reducible show wpList _ _ _ (⟨_, .load 27 _, _, _, _, _⟩ :: _) _ _); refine H.load rfl (ty := 27) rfl rfl 0 rfl Tryd.underlying27 rfl (by with_reducible exact ext_2 _ _) (by exact tB_s) ?_; simp only [Act.put, List.setIfInBounds_toArray, List.set_cons_zero, List.set_cons_succ, List.set_nil])
    | ((with_reducible show wpList _ _ _ (⟨_, .store 27 _ _, _, _, _, _⟩ :: _) _ _); refine H.store rfl (ty := 27) rfl rfl (cells_agg _) 0 rfl (by with_reducible exact set_all _ _ rfl) (by exact tB_s) (one_of rfl) (ble_le rfl) ?_; (intro w H; simp only [List.set_cons_zero, List.set_cons_succ] at H; simp only [Act.put, List.setIfInBounds_toArray, List.set_cons_zero, List.set_cons_succ, List.set_nil]))
    | (go_at_call 65; ((with_reducible refine (cP _).mono ?_); rintro e w ⟨rfl, hb⟩; replace H := H.call hb; clear hb))
    | (go_at_call 64; ((with_reducible refine (shapeAt_any k n _ (by omega) (by omega)).mono ?_); rintro e w ⟨rfl, hb⟩; replace H := H.call hb; clear hb))
    )
  refine bodyPost_ret (results_c rfl rfl (H.result 0 rfl Tryd.underlying27 rfl (by exact tB_s) (ext_2 _ _))) rfl ⟨?_, H.below⟩
  exact rfl
set_option maxHeartbeats 1600000 in
set_option maxRecDepth 100000 in
theorem shapeNaN_no (f : Nat) (w : World) (hf : f < 256) (h4 : ¬ f < 4) :
    Calls Tryd.prog 24 #[.int .u8 f] w fun e w' => e = .returned (BV (nanN f)) ∧ Below w.heap.size w w' := by
  have H := Own.start w
  rw [show nanN f = 0 by unfold nanN; rw [decide_eq_false h4]; rfl]
  go_enter Tryd.func24, Tryd.ntmps24
  go_wp2_with (first
    | ((with_reducible show wpList _ _ _ (⟨_, .box _ _, _, _, _, _⟩ :: _) _ _); refine H.box rfl rfl (cells_agg _) ?_; (intro g w H; simp only [Act.put, List.setIfInBounds_toArray, List.set_cons_zero, List.set_cons_succ, List.set_nil]))
    | ((with_reducible show wpList _ _ _ (⟨_, .alloc 27, _, _, _, _⟩ :: _) _ _); refine H.new rfl (T := 27) rfl tB_z (cells_agg _) ?_; (intro g w H; simp only [Act.put, List.setIfInBounds_toArray, List.set_cons_zero, List.set_cons_succ, List.set_nil]))
    | ((with_reducible show wpList _ _ _ (⟨_, .load 27 _, _, _, _, _⟩ :: _) _ _); refine H.load rfl (ty := 27) rfl rfl 0 rfl Tryd.underlying27 rfl (by with_reducible exact ext_2 _ _) (by exact tB_s) ?_; simp only [Act.put, List.setIfInBounds_toArray, List.set_cons_zero, List.set_cons_succ, List.set_nil])
    | ((with_reducible show wpList _ _ _ (⟨_, .store 27 _ _, _, _, _, _⟩ :: _) _ _); refine H.store rfl (ty := 27) rfl rfl (cells_agg _) 0 rfl (by with_reducible exact set_all _ _ rfl) (by exact tB_s) (one_of rfl) (ble_le rfl) ?_; (intro w H; simp only [List.set_cons_zero, List.set_cons_succ] at H; simp only [Act.put, List.setIfInBounds_toArray, List.set_cons_zero, List.set_cons_succ, List.set_nil]))
    | (go_at_call 21; ((with_reducible refine (shapeCheck_any f _ hf).mono ?_); rw [decide_eq_false h4]; rintro e w' ⟨rfl, rfl⟩))
    )
  refine bodyPost_ret (results_c rfl rfl (H.result 0 rfl Tryd.underlying27 rfl (by exact tB_s) (ext_2 _ _))) rfl ⟨?_, H.below⟩
  exact rfl
set_option maxHeartbeats 1600000 in
set_option maxRecDepth 100000 in
theorem shapeNaN_yes (f : Nat) (w : World) (hf : f < 256) (h4 : f < 4) :
    Calls Tryd.prog 24 #[.int .u8 f] w fun e w' => e = .returned (BV (nanN f)) ∧ Below w.heap.size w w' := by
  have H := Own.start w
  rw [show nanN f = (4 * eF f + 3) * 2 ^ (pF f - 2) by unfold nanN; rw [decide_eq_true h4]; rfl]
  have cP := fun w => shapePrecision_any f w hf
  have cE := fun w => shapeEmax_any f w hf
  obtain ⟨-, -, -, e1, e2, -, h1, h2⟩ := formK f h4
  obtain ⟨n, hn⟩ : ∃ n, pF f - 2 = n := ⟨_, rfl⟩
  rw [hn]
  have vn : IntKind.i64.wrap ((pF f : Int) - 2) = (n : Int) := by rw [show (pF f : Int) - 2 = (n : Int) by omega]; exact IntWalk.i64_in _ (by omega)
  have vm : (pF f : Int) - 2 = (n : Int) := by omega
  have ve : IntKind.u64.wrap (4 * (eF f : Int) + 3) = ((4 * eF f + 3 : Nat) : Int) := wrap_nat _ _ (by omega) (by omega)
  have e3 : (eF f : Int) ≤ 16383 := by omega
  generalize pF f = p at *
  generalize eF f = m at *
  have cA := fun w => shapeAt_any (4 * m + 3) n w (by omega) (by omega)
  rw [show ((4 * m + 3 : Nat) : Int) = 4 * (m : Int) + 3 by omega] at cA
  clear hn ve
  go_enter Tryd.func24, Tryd.ntmps24
  go_wp2_with (first
    | ((with_reducible show wpList _ _ _ (⟨_, .box _ _, _, _, _, _⟩ :: _) _ _); refine H.box rfl rfl (cells_agg _) ?_; (intro g w H; simp only [Act.put, List.setIfInBounds_toArray, List.set_cons_zero, List.set_cons_succ, List.set_nil]))
    | ((with_reducible show wpList _ _ _ (⟨_, .alloc 27, _, _, _, _⟩ :: _) _ _); refine H.new rfl (T := 27) rfl tB_z (cells_agg _) ?_; (intro g w H; simp only [Act.put, List.setIfInBounds_toArray, List.set_cons_zero, List.set_cons_succ, List.set_nil]))
    | ((with_reducible show wpList _ _ _ (⟨_, .load 27 _, _, _, _, _⟩ :: _) _ _); refine H.load rfl (ty := 27) rfl rfl 0 rfl Tryd.underlying27 rfl (by with_reducible exact ext_2 _ _) (by exact tB_s) ?_; simp only [Act.put, List.setIfInBounds_toArray, List.set_cons_zero, List.set_cons_succ, List.set_nil])
    | ((with_reducible show wpList _ _ _ (⟨_, .store 27 _ _, _, _, _, _⟩ :: _) _ _); refine H.store rfl (ty := 27) rfl rfl (cells_agg _) 0 rfl (by with_reducible exact set_all _ _ rfl) (by exact tB_s) (one_of rfl) (ble_le rfl) ?_; (intro w H; simp only [List.set_cons_zero, List.set_cons_succ] at H; simp only [Act.put, List.setIfInBounds_toArray, List.set_cons_zero, List.set_cons_succ, List.set_nil]))
    | (go_at_call 21; ((with_reducible refine (shapeCheck_any f _ hf).mono ?_); rw [decide_eq_true h4]; rintro e w' ⟨rfl, rfl⟩))
    | (go_at_call 55; ((with_reducible refine (cE _).mono ?_); rintro e w ⟨rfl, hb⟩; replace H := H.call hb; clear hb))
    | (go_at_call 65; ((with_reducible refine (cP _).mono ?_); rintro e w ⟨rfl, hb⟩; replace H := H.call hb; clear hb))
    | (go_at_call 64; ((with_reducible refine (cA _).mono ?_); rintro e w ⟨rfl, hb⟩; replace H := H.call hb; clear hb))
    )
  refine bodyPost_ret (results_c rfl rfl (H.result 0 rfl Tryd.underlying27 rfl (by exact tB_s) (ext_2 _ _))) rfl ⟨?_, H.below⟩
  exact rfl
theorem shapeNaN_any (f : Nat) (w : World) (hf : f < 256) :
    Calls Tryd.prog 24 #[.int .u8 f] w fun e w' => e = .returned (BV (nanN f)) ∧ Below w.heap.size w w' := by
  by_cases h4 : f < 4
  · exact shapeNaN_yes f w hf h4
  · exact shapeNaN_no f w hf h4
set_option maxHeartbeats 1600000 in
set_option maxRecDepth 100000 in
theorem shapeInf_no (f : Nat) (neg : Bool) (w : World) (hf : f < 256) (h4 : ¬ f < 4) :
    Calls Tryd.prog 18 #[.int .u8 f, .bool neg] w fun e w' => e = .returned (BV (infN f neg)) ∧ Below w.heap.size w w' := by
  have H := Own.start w
  rw [show infN f neg = 0 by unfold infN; rw [decide_eq_false h4]; rfl]
  go_enter Tryd.func18, Tryd.ntmps18
  go_wp2_with (first
    | ((with_reducible show wpList _ _ _ (⟨_, .box _ _, _, _, _, _⟩ :: _) _ _); refine H.box rfl rfl (cells_agg _) ?_; (intro g w H; simp only [Act.put, List.setIfInBounds_toArray, List.set_cons_zero, List.set_cons_succ, List.set_nil]))
    | ((with_reducible show wpList _ _ _ (⟨_, .alloc 27, _, _, _, _⟩ :: _) _ _); refine H.new rfl (T := 27) rfl tB_z (cells_agg _) ?_; (intro g w H; simp only [Act.put, List.setIfInBounds_toArray, List.set_cons_zero, List.set_cons_succ, List.set_nil]))
    | ((with_reducible show wpList _ _ _ (⟨_, .load 27 _, _, _, _, _⟩ :: _) _ _); refine H.load rfl (ty := 27) rfl rfl 0 rfl Tryd.underlying27 rfl (by with_reducible exact ext_2 _ _) (by exact tB_s) ?_; simp only [Act.put, List.setIfInBounds_toArray, List.set_cons_zero, List.set_cons_succ, List.set_nil])
    | ((with_reducible show wpList _ _ _ (⟨_, .store 27 _ _, _, _, _, _⟩ :: _) _ _); refine H.store rfl (ty := 27) rfl rfl (cells_agg _) 0 rfl (by with_reducible exact set_all _ _ rfl) (by exact tB_s) (one_of rfl) (ble_le rfl) ?_; (intro w H; simp only [List.set_cons_zero, List.set_cons_succ] at H; simp only [Act.put, List.setIfInBounds_toArray, List.set_cons_zero, List.set_cons_succ, List.set_nil]))
    | (go_at_call 21; ((with_reducible refine (shapeCheck_any f _ hf).mono ?_); rw [decide_eq_false h4]; rintro e w' ⟨rfl, rfl⟩))
    )
  refine bodyPost_ret (results_c rfl rfl (H.result 0 rfl Tryd.underlying27 rfl (by exact tB_s) (ext_2 _ _))) rfl ⟨?_, H.below⟩
  exact rfl
set_option maxHeartbeats 1600000 in
set_option maxRecDepth 100000 in
theorem shapeInf_yes (f : Nat) (neg : Bool) (w : World) (hf : f < 256) (h4 : f < 4) :
    Calls Tryd.prog 18 #[.int .u8 f, .bool neg] w fun e w' => e = .returned (BV (infN f neg)) ∧ Below w.heap.size w w' := by
  have H := Own.start w
  have cE := fun w => shapeEmax_any f w hf
  obtain ⟨-, -, -, e1, e2, -, h1, h2⟩ := formK f h4
  have sm := (form_small f h4).1
  have cF := fun w => shapeField_any f (2 * eF f + 1) w h4 (by omega)
  have cW := fun w => shapeWith_any f ((2 * eF f + 1) * 2 ^ (pF f - 1)) neg w hf
  rw [or_sign f _ neg (sm), decide_eq_true h4] at cW
  rw [show infN f neg = (2 * eF f + 1) * 2 ^ (pF f - 1) + signN f neg by unfold infN; rw [decide_eq_true h4]; rfl]
  rw [show ((2 * eF f + 1 : Nat) : Int) = 2 * (eF f : Int) + 1 by omega] at cF
  have e3 : (eF f : Int) ≤ 16383 := by omega
  generalize signN f neg = sg at *
  generalize 2 ^ (pF f - 1) = pw at *
  generalize eF f = m at *
  go_enter Tryd.func18, Tryd.ntmps18
  go_wp2_with (first
    | ((with_reducible show wpList _ _ _ (⟨_, .box _ _, _, _, _, _⟩ :: _) _ _); refine H.box rfl rfl (cells_agg _) ?_; (intro g w H; simp only [Act.put, List.setIfInBounds_toArray, List.set_cons_zero, List.set_cons_succ, List.set_nil]))
    | ((with_reducible show wpList _ _ _ (⟨_, .alloc 27, _, _, _, _⟩ :: _) _ _); refine H.new rfl (T := 27) rfl tB_z (cells_agg _) ?_; (intro g w H; simp only [Act.put, List.setIfInBounds_toArray, List.set_cons_zero, List.set_cons_succ, List.set_nil]))
    | ((with_reducible show wpList _ _ _ (⟨_, .load 27 _, _, _, _, _⟩ :: _) _ _); refine H.load rfl (ty := 27) rfl rfl 0 rfl Tryd.underlying27 rfl (by with_reducible exact ext_2 _ _) (by exact tB_s) ?_; simp only [Act.put, List.setIfInBounds_toArray, List.set_cons_zero, List.set_cons_succ, List.set_nil])
    | ((with_reducible show wpList _ _ _ (⟨_, .store 27 _ _, _, _, _, _⟩ :: _) _ _); refine H.store rfl (ty := 27) rfl rfl (cells_agg _) 0 rfl (by with_reducible exact set_all _ _ rfl) (by exact tB_s) (one_of rfl) (ble_le rfl) ?_; (intro w H; simp only [List.set_cons_zero, List.set_cons_succ] at H; simp only [Act.put, List.setIfInBounds_toArray, List.set_cons_zero, List.set_cons_succ, List.set_nil]))
    | (go_at_call 21; ((with_reducible refine (shapeCheck_any f _ hf).mono ?_); rw [decide_eq_true h4]; rintro e w' ⟨rfl, rfl⟩))
    | (go_at_call 55; ((with_reducible refine (cE _).mono ?_); rintro e w ⟨rfl, hb⟩; replace H := H.call hb; clear hb))
    | (go_at_call 54; ((with_reducible refine (cF _).mono ?_); rintro e w ⟨rfl, hb⟩; replace H := H.call hb; clear hb))
    | (go_at_call 53; ((with_reducible refine (cW _).mono ?_); rintro e w ⟨rfl, hb⟩; replace H := H.call hb; clear hb))
    )
  refine bodyPost_ret (results_c rfl rfl (H.result 0 rfl Tryd.underlying27 rfl (by exact tB_s) (ext_2 _ _))) rfl ⟨?_, H.below⟩
  exact rfl
theorem shapeInf_any (f : Nat) (neg : Bool) (w : World) (hf : f < 256) :
    Calls Tryd.prog 18 #[.int .u8 f, .bool neg] w fun e w' => e = .returned (BV (infN f neg)) ∧ Below w.heap.size w w' := by
  by_cases h4 : f < 4
  · exact shapeInf_yes f neg w hf h4
  · exact shapeInf_no f neg w hf h4
set_option maxHeartbeats 1600000 in
set_option maxRecDepth 100000 in
theorem shapeZero_any (f : Nat) (neg : Bool) (w : World) (hf : f < 256) :
    Calls Tryd.prog 19 #[.int .u8 f, .bool neg] w fun e w' => e = .returned (BV (zeroN f neg)) ∧ Below w.heap.size w w' := by
  have H := Own.start w
  have cW : ∀ w, Calls Tryd.prog 53 #[.int .u8 f, .agg #[.int .u64 0, .int .u64 0], .bool neg] w fun e w' => e = .returned (BV (zeroN f neg)) ∧ Below w.heap.size w w' := by
    intro w
    have := shapeWith_any f 0 neg w hf
    rw [Nat.zero_or] at this
    exact this
  go_enter Tryd.func19, Tryd.ntmps19
  go_wp2_with (first
    | ((with_reducible show wpList _ _ _ (⟨_, .box _ _, _, _, _, _⟩ :: _) _ _); refine H.box rfl rfl (cells_agg _) ?_; (intro g w H; simp only [Act.put, List.setIfInBounds_toArray, List.set_cons_zero, List.set_cons_succ, List.set_nil]))
    | ((with_reducible show wpList _ _ _ (⟨_, .alloc 27, _, _, _, _⟩ :: _) _ _); refine H.new rfl (T := 27) rfl tB_z (cells_agg _) ?_; (intro g w H; simp only [Act.put, List.setIfInBounds_toArray, List.set_cons_zero, List.set_cons_succ, List.set_nil]))
    | ((with_reducible show wpList _ _ _ (⟨_, .load 27 _, _, _, _, _⟩ :: _) _ _); refine H.load rfl (ty := 27) rfl rfl 0 rfl Tryd.underlying27 rfl (by with_reducible exact ext_2 _ _) (by exact tB_s) ?_; simp only [Act.put, List.setIfInBounds_toArray, List.set_cons_zero, List.set_cons_succ, List.set_nil])
    | ((with_reducible show wpList _ _ _ (⟨_, .store 27 _ _, _, _, _, _⟩ :: _) _ _); refine H.store rfl (ty := 27) rfl rfl (cells_agg _) 0 rfl (by with_reducible exact set_all _ _ rfl) (by exact tB_s) (one_of rfl) (ble_le rfl) ?_; (intro w H; simp only [List.set_cons_zero, List.set_cons_succ] at H; simp only [Act.put, List.setIfInBounds_toArray, List.set_cons_zero, List.set_cons_succ, List.set_nil]))
    | (go_at_call 53; ((with_reducible refine (cW _).mono ?_); rintro e w ⟨rfl, hb⟩; replace H := H.call hb; clear hb))
    )
  refine bodyPost_ret (results_c rfl rfl (H.result 0 rfl Tryd.underlying27 rfl (by exact tB_s) (ext_2 _ _))) rfl ⟨?_, H.below⟩
  exact rfl
end Go.Proofs.YtdcgcjmajacgiaaDoor

namespace Go.Proofs.YtdcgcjmajacgiaaDoor
open Go.RowKit
section
variable {P : Program} {w0 w : World} {L L' : List Bk} {op : Oper} {a : Act} {Q : Exit → Act → World → Prop} {ops : Array Oper} {S : World → Prop} {md : Region.Mode} {fuel : Nat} {listed : Array Bool}
theorem Own.held (H : Own w0 w L) {id : Nat} (hm : P.follows .mixedOrders = true) (L' : List Bk) (h : Own w0 w.drew L → wpAnyH P .any ops Q (fun w' => Own w0 w' L') ops.size (Array.replicate ops.size false) a w.drew) :
    (Code.region id ops true).wp P Q a w := wp_region_held hm (h H.drew)
theorem Own.heldSub (H : Own w0 w L) {id : Nat} (hm : P.follows .mixedOrders = true) {L' : List Bk} (_hL : List.Sublist L' L) (h : Own w0 w.drew L → wpAnyH P .any ops Q (fun w' => Own w0 w' L') ops.size (Array.replicate ops.size false) a w.drew) :
    (Code.region id ops true).wp P Q a w := wp_region_held hm (h H.drew)
theorem Own.takeRun (H : Own w0 w L) (hL : List.Sublist L' L) (i : Nat) (hi : ops[i]? = some op) (hs : Region.noSelect ops = true) (hf : Region.free md ops listed i = true) (hr : (Region.ready md ops listed).contains i = true)
    (hQ : ∀ v c a w, Q (.panic c) (a.put op.dst v) w → Q (.panic c) a w) (hw : Region.wanted op (yielded ops a.tmps) = true) {v : Value} (hv : ∀ w, (execOp a.eval op).run P w = .ok (.value v) w)
    (h : wpAnyH P md ops Q (fun w' => Own w0 w' L') fuel (listed.setIfInBounds i true) (a.put op.dst v) w) : wpAnyH P md ops Q (fun w' => Own w0 w' L') (fuel + 1) listed a w :=
  wpAnyH_take hi hs hf hr (hQ v) (yields_run hw hv) (H.sub hL) h
theorem Own.takeOff (H : Own w0 w L) (hL : List.Sublist L' L) (i : Nat) (hi : ops[i]? = some op) (hs : Region.noSelect ops = true) (hf : Region.free md ops listed i = true) (hr : (Region.ready md ops listed).contains i = true)
    (hQ : ∀ v c a w, Q (.panic c) (a.put op.dst v) w → Q (.panic c) a w) (hw : Region.wanted op (yielded ops a.tmps) = false)
    (h : wpAnyH P md ops Q (fun w' => Own w0 w' L') fuel (listed.setIfInBounds i true) (a.put op.dst undef) w) : wpAnyH P md ops Q (fun w' => Own w0 w' L') (fuel + 1) listed a w :=
  wpAnyH_take hi hs hf hr (hQ undef) (yields_off hw) (H.sub hL) h
theorem Own.takeLoad (H : Own w0 w L) (hL : List.Sublist L' L) (i : Nat) (hi : ops[i]? = some op) (hs : Region.noSelect ops = true) (hf : Region.free md ops listed i = true) (hr : (Region.ready md ops listed).contains i = true)
    (hQ : ∀ v c a w, Q (.panic c) (a.put op.dst v) w → Q (.panic c) a w) (hw : Region.wanted op (yielded ops a.tmps) = true)
    {ty : TypeId} {x : Operand} (ho : op.op = .load ty x) {g o : Nat} (hx : a.eval x = .pointer (some ⟨g, o, none⟩))
    (j : Nat) {T : TypeId} {cs : Array Value} (hj : L'[j]? = some (g, T, cs)) {d : TypeDesc} (hu : P.underlying ty = some d) (hd : d.isRow = true) {v : Array Value} (hv : cs.extract o (o + v.size) = v) (hz : (P.info? ty).map (·.size) = some v.size)
    (h : wpAnyH P md ops Q (fun w' => Own w0 w' L') fuel (listed.setIfInBounds i true) (a.put op.dst (.agg v)) w) : wpAnyH P md ops Q (fun w' => Own w0 w' L') (fuel + 1) listed a w :=
  wpAnyH_take hi hs hf hr (hQ _) (yields_load (fun _ h => h) hw ho hx j hj hu hd hz hv) (H.sub hL) h
theorem Own.takeLoad1 (H : Own w0 w L) (hL : List.Sublist L' L) (i : Nat) (hi : ops[i]? = some op) (hs : Region.noSelect ops = true) (hf : Region.free md ops listed i = true) (hr : (Region.ready md ops listed).contains i = true)
    (hQ : ∀ v c a w, Q (.panic c) (a.put op.dst v) w → Q (.panic c) a w) (hw : Region.wanted op (yielded ops a.tmps) = true)
    {ty : TypeId} {x : Operand} (ho : op.op = .load ty x) {g o : Nat} (hx : a.eval x = .pointer (some ⟨g, o, none⟩))
    (j : Nat) {T : TypeId} {cs : Array Value} (hj : L'[j]? = some (g, T, cs)) {d : TypeDesc} (hu : P.underlying ty = some d) (hd : d.isRow = false) {v : Value} (hv : cs[o]? = some v)
    (h : wpAnyH P md ops Q (fun w' => Own w0 w' L') fuel (listed.setIfInBounds i true) (a.put op.dst v) w) : wpAnyH P md ops Q (fun w' => Own w0 w' L') (fuel + 1) listed a w :=
  wpAnyH_take hi hs hf hr (hQ _) (yields_load1 (fun _ h => h) hw ho hx j hj hu hd hv) (H.sub hL) h
/-- Behind an operation that was carried out. -/
theorem Own.next (H : Own w0 w L) (hL : List.Sublist L' L) {X : Prop} (h : X) : Own w0 w L' ∧ X := ⟨H.sub hL, h⟩
end
end Go.Proofs.YtdcgcjmajacgiaaDoor

namespace Go.Proofs.YtdcgcjmajacgiaaDoor
open Go.RowKit
/-- A block's cells turned. -/
inductive Upd (g : Nat) (T : TypeId) (cs cs' : Array Value) : List Bk → List Bk → Prop
  | head (L : List Bk) : Upd g T cs cs' ((g, T, cs) :: L) ((g, T, cs') :: L)
  | tail {L L' : List Bk} (x : Bk) (h : Upd g T cs cs' L L') : Upd g T cs cs' (x :: L) (x :: L')
theorem Upd.place {g : Nat} {T : TypeId} {cs cs' : Array Value} {L L' : List Bk} (h : Upd g T cs cs' L L') : ∃ i, L[i]? = some (g, T, cs) ∧ L' = L.set i (g, T, cs') := by
  induction h with
  | head L => exact ⟨0, rfl, rfl⟩
  | tail x h ih =>
    obtain ⟨i, h1, h2⟩ := ih
    exact ⟨i + 1, by rw [List.getElem?_cons_succ]; exact h1, by rw [h2]; rfl⟩
theorem place_of_mem {L : List Bk} {x : Bk} (h : x ∈ L) : ∃ i : Nat, L[i]? = some x := by
  obtain ⟨i, hi, rfl⟩ := List.mem_iff_getElem.1 h
  exact ⟨i, List.getElem?_eq_getElem hi⟩
/-- A type whose values are rows of n cells. -/
structure IsRow (P : Program) (t : TypeId) (n : Nat) (z : Array Value) : Prop where
  row : ∃ d, P.underlying t = some d ∧ d.isRow = true
  size : (P.info? t).map (·.size) = some n
  zero : (P.info? t).bind (·.zero) = some (.agg z)
/-- A type whose values are one cell. -/
structure IsOne (P : Program) (t : TypeId) : Prop where
  one : ∃ d, P.underlying t = some d ∧ d.isRow = false
  size : (P.info? t).map (·.size) = some 1
section
variable {P : Program} {w0 w : World} {L L' : List Bk} {op : Oper} {a : Act} {Q : Exit → Act → World → Prop} {ops : Array Oper} {rest : List Oper} {K : Act → World → Prop}
theorem Own.mk0 (H : Own w0 w L) (hw : Region.wanted op (yielded ops a.tmps) = true) {t : TypeId} {n : Nat} {z : Array Value} (R : IsRow P t n z) (ho : op.op = .alloc t)
    (h : ∀ g w', Own w0 w' ((g, t, z) :: L) → wpList P ops Q rest (a.put op.dst (.pointer (some ⟨g, 0, none⟩))) w') : wpList P ops Q (op :: rest) a w :=
  H.new hw ho R.zero rfl h
theorem Own.ld (H : Own w0 w L) (hw : Region.wanted op (yielded ops a.tmps) = true) {t : TypeId} {n : Nat} {z : Array Value} (R : IsRow P t n z) {x : Operand} (ho : op.op = .load t x) {g o : Nat} (hx : a.eval x = .pointer (some ⟨g, o, none⟩))
    {T : TypeId} {cs : Array Value} (hi : (g, T, cs) ∈ L) {v : Array Value} (hv : cs.extract o (o + v.size) = v) (hs : v.size = n) (h : wpList P ops Q rest (a.put op.dst (.agg v)) w) : wpList P ops Q (op :: rest) a w := by
  obtain ⟨i, hi⟩ := place_of_mem hi
  obtain ⟨d, hu, hd⟩ := R.row
  exact H.load hw ho hx i hi hu hd hv (by rw [R.size, hs]) h
theorem Own.ld1 (H : Own w0 w L) (hw : Region.wanted op (yielded ops a.tmps) = true) {t : TypeId} (R : IsOne P t) {x : Operand} (ho : op.op = .load t x) {g o : Nat} (hx : a.eval x = .pointer (some ⟨g, o, none⟩))
    {T : TypeId} {cs : Array Value} (hi : (g, T, cs) ∈ L) {v : Value} (hv : cs[o]? = some v) (h : wpList P ops Q rest (a.put op.dst v) w) : wpList P ops Q (op :: rest) a w := by
  obtain ⟨i, hi⟩ := place_of_mem hi
  obtain ⟨d, hu, hd⟩ := R.one
  exact H.load1 hw ho hx i hi hu hd hv h
theorem Own.st (H : Own w0 w L) (hw : Region.wanted op (yielded ops a.tmps) = true) {t : TypeId} {n : Nat} {z : Array Value} (R : IsRow P t n z) {x y : Operand} (ho : op.op = .store t x y) {g o : Nat} (hx : a.eval x = .pointer (some ⟨g, o, none⟩))
    {vs : Array Value} (hy : (a.eval y).cells = vs) {T : TypeId} {cs cs' : Array Value} (hi : Upd g T cs cs' L L') (hv : setRow cs o vs.toList = cs') (hs : vs.size = n) (h1 : vs.all (·.oneCell') = true) (hn : o + vs.size ≤ cs.size)
    (h : ∀ w', Own w0 w' L' → wpList P ops Q rest (a.put op.dst undef) w') : wpList P ops Q (op :: rest) a w := by
  obtain ⟨i, hj, rfl⟩ := hi.place
  exact H.store hw ho hx hy i hj hv (by rw [R.size, hs]) h1 hn h
theorem Own.st1 (H : Own w0 w L) (hw : Region.wanted op (yielded ops a.tmps) = true) {t : TypeId} (R : IsOne P t) {x y : Operand} (ho : op.op = .store t x y) {g o : Nat} (hx : a.eval x = .pointer (some ⟨g, o, none⟩))
    {vs : Array Value} (hy : (a.eval y).cells = vs) {T : TypeId} {cs cs' : Array Value} (hi : Upd g T cs cs' L L') (hv : setRow cs o vs.toList = cs') (hs : vs.size = 1) (h1 : vs.all (·.oneCell') = true) (hn : o + vs.size ≤ cs.size)
    (h : ∀ w', Own w0 w' L' → wpList P ops Q rest (a.put op.dst undef) w') : wpList P ops Q (op :: rest) a w := by
  obtain ⟨i, hj, rfl⟩ := hi.place
  exact H.store hw ho hx hy i hj hv (by rw [R.size, hs]) h1 hn h
theorem Own.old (H : Own w0 w L) {t : TypeId} {n : Nat} {z : Array Value} (R : IsRow P t n z) {x : Operand} (ho : op.op = .load t x) {g o : Nat} (hx : a.eval x = .pointer (some ⟨g, o, none⟩))
    {T : TypeId} {cs : Array Value} (hi : (g, T, cs) ∈ L) {v : Array Value} (hv : cs.extract o (o + v.size) = v) (hs : v.size = n) (h : K (a.put op.dst (.agg v)) w) : op.wp P a w K Q := by
  obtain ⟨i, hi⟩ := place_of_mem hi
  obtain ⟨d, hu, hd⟩ := R.row
  exact H.op_load ho hx i hi hu hd hv (by rw [R.size, hs]) h
theorem Own.ost (H : Own w0 w L) {t : TypeId} {n : Nat} {z : Array Value} (R : IsRow P t n z) {x y : Operand} (ho : op.op = .store t x y) {g o : Nat} (hx : a.eval x = .pointer (some ⟨g, o, none⟩))
    {vs : Array Value} (hy : (a.eval y).cells = vs) {T : TypeId} {cs cs' : Array Value} (hi : Upd g T cs cs' L L') (hv : setRow cs o vs.toList = cs') (hs : vs.size = n) (h1 : vs.all (·.oneCell') = true) (hn : o + vs.size ≤ cs.size)
    (h : ∀ w', Own w0 w' L' → K (a.put op.dst undef) w') : op.wp P a w K Q := by
  obtain ⟨i, hj, rfl⟩ := hi.place
  exact H.op_store ho hx hy i hj hv (by rw [R.size, hs]) h1 hn h
theorem Own.ost1 (H : Own w0 w L) {t : TypeId} (R : IsOne P t) {x y : Operand} (ho : op.op = .store t x y) {g o : Nat} (hx : a.eval x = .pointer (some ⟨g, o, none⟩))
    {vs : Array Value} (hy : (a.eval y).cells = vs) {T : TypeId} {cs cs' : Array Value} (hi : Upd g T cs cs' L L') (hv : setRow cs o vs.toList = cs') (hs : vs.size = 1) (h1 : vs.all (·.oneCell') = true) (hn : o + vs.size ≤ cs.size)
    (h : ∀ w', Own w0 w' L' → K (a.put op.dst undef) w') : op.wp P a w K Q := by
  obtain ⟨i, hj, rfl⟩ := hi.place
  exact H.op_store ho hx hy i hj hv (by rw [R.size, hs]) h1 hn h
variable {md : Region.Mode} {fuel : Nat} {listed : Array Bool}
theorem Own.tk (H : Own w0 w L) (hL : List.Sublist L' L) (i : Nat) (hi : ops[i]? = some op) (hs : Region.noSelect ops = true) (hf : Region.free md ops listed i = true) (hr : (Region.ready md ops listed).contains i = true)
    (hQ : ∀ v c a w, Q (.panic c) (a.put op.dst v) w → Q (.panic c) a w) (hw : Region.wanted op (yielded ops a.tmps) = true)
    {t : TypeId} {n : Nat} {z : Array Value} (R : IsRow P t n z) {x : Operand} (ho : op.op = .load t x) {g o : Nat} (hx : a.eval x = .pointer (some ⟨g, o, none⟩))
    {T : TypeId} {cs : Array Value} (hj : (g, T, cs) ∈ L') {v : Array Value} (hv : cs.extract o (o + v.size) = v) (hz : v.size = n)
    (h : wpAnyH P md ops Q (fun w' => Own w0 w' L') fuel (listed.setIfInBounds i true) (a.put op.dst (.agg v)) w) : wpAnyH P md ops Q (fun w' => Own w0 w' L') (fuel + 1) listed a w := by
  obtain ⟨j, hj⟩ := place_of_mem hj
  obtain ⟨d, hu, hd⟩ := R.row
  exact H.takeLoad hL i hi hs hf hr hQ hw ho hx j hj hu hd hv (by rw [R.size, hz]) h
theorem Own.tk1 (H : Own w0 w L) (hL : List.Sublist L' L) (i : Nat) (hi : ops[i]? = some op) (hs : Region.noSelect ops = true) (hf : Region.free md ops listed i = true) (hr : (Region.ready md ops listed).contains i = true)
    (hQ : ∀ v c a w, Q (.panic c) (a.put op.dst v) w → Q (.panic c) a w) (hw : Region.wanted op (yielded ops a.tmps) = true)
    {t : TypeId} (R : IsOne P t) {x : Operand} (ho : op.op = .load t x) {g o : Nat} (hx : a.eval x = .pointer (some ⟨g, o, none⟩))
    {T : TypeId} {cs : Array Value} (hj : (g, T, cs) ∈ L') {v : Value} (hv : cs[o]? = some v)
    (h : wpAnyH P md ops Q (fun w' => Own w0 w' L') fuel (listed.setIfInBounds i true) (a.put op.dst v) w) : wpAnyH P md ops Q (fun w' => Own w0 w' L') (fuel + 1) listed a w := by
  obtain ⟨j, hj⟩ := place_of_mem hj
  obtain ⟨d, hu, hd⟩ := R.one
  exact H.takeLoad1 hL i hi hs hf hr hQ hw ho hx j hj hu hd hv h
/-- Results that lie in memory. -/
theorem Own.res (H : Own w0 w L) {t : TypeId} {n : Nat} {z : Array Value} (R : IsRow P t n z) {g o : Nat} {T : TypeId} {cs : Array Value} (hi : (g, T, cs) ∈ L) {v : Array Value} (hv : cs.extract o (o + v.size) = v) (hs : v.size = n) :
    (loadVar t ⟨g, o, none⟩).run P w = .ok (.agg v) w := by
  obtain ⟨i, hi⟩ := place_of_mem hi
  obtain ⟨d, hu, hd⟩ := R.row
  exact H.result i hi hu hd (by rw [R.size, hs]) hv
end
end Go.Proofs.YtdcgcjmajacgiaaDoor

namespace Go.Proofs.YtdcgcjmajacgiaaDoor
open Go.RowKit
section
variable {P : Program} {w0 w : World} {L L' : List Bk} {op : Oper} {a : Act} {Q : Exit → Act → World → Prop} {ops : Array Oper} {rest : List Oper} {K : Act → World → Prop}
/-- A block that was there. -/
theorem Own.was (H : Own w0 w L) {T : TypeId} {g : Nat} {cs : Array Value} (hb : Blk T w0 g cs) : Blk T w g cs := hb.below H.below hb.lt
theorem Own.ldo (H : Own w0 w L) (hw : Region.wanted op (yielded ops a.tmps) = true) {t : TypeId} {n : Nat} {z : Array Value} (R : IsRow P t n z) {x : Operand} (ho : op.op = .load t x) {g o : Nat} (hx : a.eval x = .pointer (some ⟨g, o, none⟩))
    {T : TypeId} {cs : Array Value} (hb : Blk T w0 g cs) {v : Array Value} (hv : cs.extract o (o + v.size) = v) (hs : v.size = n) (h : wpList P ops Q rest (a.put op.dst (.agg v)) w) : wpList P ops Q (op :: rest) a w := by
  obtain ⟨d, hu, hd⟩ := R.row
  have hr : w.rangeAt g o v.toList := by
    have := World.rangeAt_of_block (H.was hb) o v.size
    rw [hv] at this; exact this
  exact wp_wanted hw fun _ hK => wp_load_mid (P := P) t x ho g o hx v.toList d hr hu hd (by rw [R.size, ← hs]; simp) (hK _ _ (by simpa using h))
/-- A new variable, where the order is drawn. -/
theorem Own.oal (H : Own w0 w L) {t : TypeId} {n : Nat} {z : Array Value} (R : IsRow P t n z) (ho : op.op = .alloc t)
    (h : ∀ g w', Own w0 w' ((g, t, z) :: L) → K (a.put op.dst (.pointer (some ⟨g, 0, none⟩))) w') : op.wp P a w K Q :=
  H.op_alloc ho R.zero rfl h
theorem foldl_set (vs : List Value) : ∀ (k off : Nat) (cs : Array Value), (vs.zipIdx k).foldl (fun cs (c : Value × Nat) => cs.setIfInBounds (off + c.2) c.1) cs = setRow cs (off + k) vs := by
  induction vs with
  | nil => intro k off cs; rfl
  | cons v r ih =>
    intro k off cs
    rw [List.zipIdx_cons, List.foldl_cons, ih, setRow]; rfl
theorem foldl_cells (v : Value) (off : Nat) (cs : Array Value) : v.cells.zipIdx.foldl (fun cs (c, j) => cs.setIfInBounds (off + j) c) cs = setRow cs off v.cells.toList := by
  have := foldl_set v.cells.toList 0 off cs
  rw [Nat.add_zero] at this
  rw [← this, ← Array.foldl_toList, Array.toList_zipIdx]
/-- The parts of a list of arguments, each of n cells, one behind the other. -/
theorem fill_one (n : Nat) (base : Array Value) (i : Nat) (v : Value) (rest : List (Nat × Value)) (h1 : v.cells.size = n) (h2 : i * n + n ≤ base.size) :
    Instr.fill (fun i => some (i * n, n)) base ((i, v) :: rest) = Instr.fill (fun i => some (i * n, n)) (setRow base (i * n) v.cells.toList) rest := by
  rw [Instr.fill]
  simp only []
  rw [if_neg (by simp [h1]; omega), foldl_cells]
theorem run_buildSlice {w : World} {t e : TypeId} {n len : Nat} {z : Array Value} (hu : P.underlying t = some (.slice e)) (R : IsRow P e n z) (hn : len * n ≤ 16777216) (h0 : (len * n == 0) = false) (parts : Array (Nat × Value)) (cs : Array Value)
    (hf : Instr.fill (fun i => some (i * n, n)) ((Array.range (len * n)).map (z[· % z.size]!)) parts.toList = some cs) :
    (Instr.buildSlice t len parts).run P w = .ok (.slice (some ⟨w.heap.size, 0, none⟩) len len) (w.alloc (.cells cs e (0, 0))) := by
  have hz := run_zeroValue R.zero w
  obtain ⟨inf, hi, hs⟩ : ∃ inf, P.info? e = some inf ∧ inf.size = n := by
    have := R.size
    cases hq : P.info? e with
    | none => simp [hq] at this
    | some inf => exact ⟨inf, rfl, by simpa [hq] using this⟩
  have hsz : (sizeOf e).run P w = .ok n w := by simp [sizeOf, typeInfo, Sem.run_bind, hi, hs]
  unfold Instr.buildSlice
  simp only [Sem.run_bind, run_underlying hu, Result.andThen_ok, hsz]
  rw [if_neg (by omega)]
  have h1 : ¬ len * n = 0 := by simpa using h0
  simp only [Sem.run_bind, Sem.run_pure, Result.andThen_ok, if_neg h1, hz, hf, Value.cells]
  rfl
/-- A list of arguments built: a new block, of which the slice is. -/
theorem Own.bs (H : Own w0 w L) (hw : Region.wanted op (yielded ops a.tmps) = true) {t e : TypeId} {n len : Nat} {z : Array Value} {ps : Array (Nat × Operand)} (hu : P.underlying t = some (.slice e)) (R : IsRow P e n z) (ho : op.op = .buildSlice t len ps)
    (hn : len * n ≤ 16777216) (h0 : (len * n == 0) = false) {cs : Array Value} (hf : Instr.fill (fun i => some (i * n, n)) ((Array.range (len * n)).map (z[· % z.size]!)) (ps.map fun (i, x) => (i, a.eval x)).toList = some cs)
    (h : ∀ g w', Own w0 w' ((g, e, cs) :: L) → wpList P ops Q rest (a.put op.dst (.slice (some ⟨g, 0, none⟩) len len)) w') : wpList P ops Q (op :: rest) a w := by
  refine wp_wanted hw fun K hK => ?_
  have hk := hK _ _ (h _ _ (H.alloc e cs))
  unfold Oper.wp execOp
  simp only [ho, Sem.run_bind, run_buildSlice hu R hn h0 _ cs hf, Result.andThen_ok]
  exact hk
theorem size_row (vs : List Value) (cs : Array Value) (o : Nat) : (setRow cs o vs).size = cs.size := setRow_size vs cs o
theorem setRow_at (cs : Array Value) (o : Nat) (v : Array Value) (j : Nat) (h : o + v.size ≤ cs.size) : (setRow cs o v.toList)[j]? = if j < o then cs[j]? else if j < o + v.size then v[j - o]? else cs[j]? := by
  have : ∀ (vs : List Value) (cs : Array Value) (o j : Nat), o + vs.length ≤ cs.size → (setRow cs o vs)[j]? = if j < o then cs[j]? else if j < o + vs.length then vs[j - o]? else cs[j]? := by
    intro vs
    induction vs with
    | nil => intro cs o j _; rw [setRow]; by_cases h : j < o <;> simp [h]
    | cons v r ih =>
      intro cs o j h
      rw [List.length_cons] at h
      rw [setRow, ih _ _ _ (by rw [Array.size_setIfInBounds]; omega), Array.getElem?_setIfInBounds, List.length_cons]
      by_cases h1 : j < o
      · rw [if_pos (by omega), if_neg (by omega), if_pos h1]
      · by_cases h2 : j = o
        · subst h2
          rw [if_pos (by omega), if_pos rfl, if_pos (by omega), if_neg (by omega), if_pos (by omega), Nat.sub_self]; rfl
        · rw [if_neg (by omega), if_neg h1]
          by_cases h3 : j < o + (r.length + 1)
          · rw [if_pos (by omega), if_pos h3, show j - o = (j - (o + 1)) + 1 by omega]; rfl
          · rw [if_neg (by omega), if_neg (by omega), if_neg h3]
  have h2 := this v.toList cs o j (by simpa using h)
  simpa using h2
theorem fill2 (n : Nat) (v1 v2 base : Array Value) (h1 : v1.size = n) (h2 : v2.size = n) (hb : base.size = 2 * n) : Instr.fill (fun i => some (i * n, n)) base [(0, .agg v1), (1, .agg v2)] = some (v1 ++ v2) := by
  rw [fill_one n base 0 (.agg v1) _ h1 (by omega), fill_one n _ 1 (.agg v2) _ h2 (by rw [size_row]; omega), Instr.fill]
  congr 1
  apply Array.ext_getElem?
  intro j
  show (setRow (setRow base (0 * n) v1.toList) (1 * n) v2.toList)[j]? = _
  rw [setRow_at _ _ _ _ (by rw [size_row]; omega), setRow_at _ _ _ _ (by omega), Nat.zero_mul, Nat.one_mul, Array.getElem?_append]
  by_cases hj : j < n
  · rw [if_pos hj, if_neg (by omega), if_pos (by omega), if_pos (by omega)]; rfl
  · rw [if_neg hj, if_neg (by omega : ¬ j < v1.size), h1]
    by_cases hk : j < n + v2.size
    · rw [if_pos hk]
    · rw [if_neg hk, if_neg (by omega), if_neg (by omega), Array.getElem?_eq_none (by omega), Array.getElem?_eq_none (by omega)]
theorem base_size (k : Nat) (z : Array Value) : ((Array.range k).map (z[· % z.size]!)).size = k := by simp
/-- Rows one behind the other, closed to the walk. -/
def cat2 (u v : Array Value) : Array Value := u ++ v
theorem Own.bs2 (H : Own w0 w L) (hw : Region.wanted op (yielded ops a.tmps) = true) {t e : TypeId} {n : Nat} {z : Array Value} {x y : Operand} (hu : P.underlying t = some (.slice e)) (R : IsRow P e n z) (ho : op.op = .buildSlice t 2 #[(0, x), (1, y)])
    {v1 v2 : Array Value} (h1 : a.eval x = .agg v1) (h2 : a.eval y = .agg v2) (s1 : v1.size = n) (s2 : v2.size = n) (hn : 2 * n ≤ 16777216) (h0 : (2 * n == 0) = false)
    (h : ∀ g w', Own w0 w' ((g, e, cat2 v1 v2) :: L) → wpList P ops Q rest (a.put op.dst (.slice (some ⟨g, 0, none⟩) 2 2)) w') : wpList P ops Q (op :: rest) a w :=
  H.bs hw hu R ho hn h0 (by rw [show (Array.map (fun (p : Nat × Operand) => (p.1, a.eval p.2)) #[(0, x), (1, y)]).toList = [(0, .agg v1), (1, .agg v2)] by simp [h1, h2]]; exact fill2 n v1 v2 _ s1 s2 (base_size _ _)) h
end
theorem app2_0 (u v : Array Value) : (u ++ v).extract 0 (0 + u.size) = u := by simp
theorem app2_1 (u v : Array Value) {n : Nat} (h : u.size = n) : (u ++ v).extract n (n + v.size) = v := by subst h; simp
theorem app3_0 (u v x : Array Value) : (u ++ v ++ x).extract 0 (0 + u.size) = u := by simp
theorem app3_1 (u v x : Array Value) {n : Nat} (h : u.size = n) : (u ++ v ++ x).extract n (n + v.size) = v := by subst h; simp
theorem app3_2 (u v x : Array Value) {n : Nat} (h : u.size + v.size = n) : (u ++ v ++ x).extract n (n + x.size) = x := app2_1 (u ++ v) x (by rw [Array.size_append]; exact h)
theorem cat2_0 (u v : Array Value) : (cat2 u v).extract 0 (0 + u.size) = u := app2_0 u v
theorem cat2_1 (u v : Array Value) {n : Nat} (h : u.size = n) : (cat2 u v).extract n (n + v.size) = v := app2_1 u v h
end Go.Proofs.YtdcgcjmajacgiaaDoor

namespace Go.Proofs.YtdcgcjmajacgiaaDoor
open Go.RowKit
theorem rW : IsRow Tryd.prog 54 6 (limbs 0) := ⟨⟨_, Tryd.underlying54, rfl⟩, tW_s, tW_z⟩
theorem rB : IsRow Tryd.prog 27 2 #[.int .u64 0, .int .u64 0] := ⟨⟨_, Tryd.underlying27, rfl⟩, tB_s, tB_z⟩
theorem rP : IsRow Tryd.prog 72 14 (parts 0 0 0 0) := ⟨⟨_, Tryd.underlying72, rfl⟩, tP_s, tP_z⟩
theorem rR : IsRow Tryd.prog 57 9 (rough false 0 0 false) := ⟨⟨_, Tryd.underlying57, rfl⟩, tR_s, tR_z⟩
theorem oU : IsOne Tryd.prog 25 := ⟨⟨_, Tryd.underlying25, rfl⟩, tu_s⟩
theorem oI : IsOne Tryd.prog 3 := ⟨⟨_, Tryd.underlying3, rfl⟩, ti_s⟩
theorem oT : IsOne Tryd.prog 4 := ⟨⟨_, Tryd.underlying4, rfl⟩, tb_s⟩
theorem oC : IsOne Tryd.prog 62 := ⟨⟨_, Tryd.underlying62, rfl⟩, tc_s⟩
end Go.Proofs.YtdcgcjmajacgiaaDoor

namespace Go.Proofs.YtdcgcjmajacgiaaDoor
open Go.RowKit
theorem int_eq_false (c k : Nat) (h : c ≠ k) : (((c : Nat) : Int) == ((k : Nat) : Int)) = false := by rw [beq_eq_false_iff_ne]; omega
theorem int_eq_dec (c k : Nat) : (((c : Nat) : Int) == ((k : Nat) : Int)) = decide (c = k) := by rw [Bool.eq_iff_iff, beq_iff_eq, decide_eq_true_iff]; omega
theorem int_eq_true (c k : Nat) (h : c = k) : (((c : Nat) : Int) == ((k : Nat) : Int)) = true := by rw [h, beq_self_eq_true]
set_option maxHeartbeats 1600000 in
set_option maxRecDepth 100000 in
theorem mul_nan (c s f : Nat) (x : Int) (w : World) :
    Calls Tryd.prog 68 #[PV c s x f] w fun e w' => e = .returned (.bool (nanB c)) ∧ Below w.heap.size w w' := by
  have H := Own.start w
  go_enter Tryd.func68, Tryd.ntmps68
  go_wp2_with (first
    | ((with_reducible show wpList _ _ _ (⟨_, .box _ _, _, _, _, _⟩ :: _) _ _); refine H.box rfl rfl (cells_agg _) ?_; (intro g w H; simp only [Act.put, List.setIfInBounds_toArray, List.set_cons_zero, List.set_cons_succ]))
    | ((with_reducible show wpList _ _ _ (⟨_, .load 62 _, _, _, _, _⟩ :: _) _ _); refine H.ld1 rfl oC rfl rfl (by repeat (first | with_reducible exact List.mem_cons_self | apply List.mem_cons_of_mem)) (by first | with_reducible exact get_parts0 _ _ _ _ | with_reducible exact get_10 _) ?_; simp only [Act.put, List.setIfInBounds_toArray, List.set_cons_zero, List.set_cons_succ])
    | ((with_reducible show wpList _ _ _ (⟨_, .store 62 _ _, _, _, _, _⟩ :: _) _ _); refine H.st1 rfl oC rfl rfl (cells_int _ _) (by repeat (first | with_reducible exact Upd.head _ | apply Upd.tail)) (by first | with_reducible exact set_10 _ _) (by rfl) (by exact one_of rfl) (by first | exact ble_le rfl | (change _ + 1 ≤ 12; omega) | (change _ + 1 ≤ 6; omega)) ?_; (intro w H; simp only [Act.put]))
    )
  all_goals
    go_ret
    exact ⟨ret_bool (by unfold nanB; rw [Bool.eq_iff_iff]; simp <;> omega), H.below⟩
set_option maxHeartbeats 1600000 in
set_option maxRecDepth 100000 in
theorem mul_below (c s f : Nat) (x : Int) (w : World) :
    Calls Tryd.prog 67 #[PV c s x f] w fun e w' => e = .returned (.bool (belowN4 c)) ∧ Below w.heap.size w w' := by
  have H := Own.start w
  go_enter Tryd.func67, Tryd.ntmps67
  go_wp2_with (first
    | ((with_reducible show wpList _ _ _ (⟨_, .box _ _, _, _, _, _⟩ :: _) _ _); refine H.box rfl rfl (cells_agg _) ?_; (intro g w H; simp only [Act.put, List.setIfInBounds_toArray, List.set_cons_zero, List.set_cons_succ]))
    | ((with_reducible show wpList _ _ _ (⟨_, .load 62 _, _, _, _, _⟩ :: _) _ _); refine H.ld1 rfl oC rfl rfl (by repeat (first | with_reducible exact List.mem_cons_self | apply List.mem_cons_of_mem)) (by first | with_reducible exact get_parts0 _ _ _ _ | with_reducible exact get_10 _) ?_; simp only [Act.put, List.setIfInBounds_toArray, List.set_cons_zero, List.set_cons_succ])
    | ((with_reducible show wpList _ _ _ (⟨_, .store 62 _ _, _, _, _, _⟩ :: _) _ _); refine H.st1 rfl oC rfl rfl (cells_int _ _) (by repeat (first | with_reducible exact Upd.head _ | apply Upd.tail)) (by first | with_reducible exact set_10 _ _) (by rfl) (by exact one_of rfl) (by first | exact ble_le rfl | (change _ + 1 ≤ 12; omega) | (change _ + 1 ≤ 6; omega)) ?_; (intro w H; simp only [Act.put]))
    )
  all_goals
    go_ret
    exact ⟨ret_bool (by unfold belowN4; rw [Bool.eq_iff_iff]; simp <;> omega), H.below⟩
theorem walk70 {P : Prop} (h : P := by
  go_wp2_with (first
    | ((with_reducible show wpList _ _ _ (⟨_, .box _ _, _, _, _, _⟩ :: _) _ _); refine H.box rfl rfl (cells_agg _) ?_; (intro g w H; simp only [Act.put, List.setIfInBounds_toArray, List.set_cons_zero, List.set_cons_succ]))
    | ((with_reducible show wpList _ _ _ (⟨_, .load 62 _, _, _, _, _⟩ :: _) _ _); refine H.ld1 rfl oC rfl rfl (by repeat (first | with_reducible exact List.mem_cons_self | apply List.mem_cons_of_mem)) (by first | with_reducible exact get_parts0 _ _ _ _ | with_reducible exact get_10 _) ?_; simp only [Act.put, List.setIfInBounds_toArray, List.set_cons_zero, List.set_cons_succ])
    | ((with_reducible show wpList _ _ _ (⟨_, .store 62 _ _, _, _, _, _⟩ :: _) _ _); refine H.st1 rfl oC rfl rfl (cells_int _ _) (by repeat (first | with_reducible exact Upd.head _ | apply Upd.tail)) (by first | with_reducible exact set_10 _ _) (by rfl) (by exact one_of rfl) (by first | exact ble_le rfl | (change _ + 1 ≤ 12; omega) | (change _ + 1 ≤ 6; omega)) ?_; (intro w H; simp only [Act.put]))
    )
  all_goals (first | (go_ret; exact ⟨ret_bool HR.out, H.below⟩) | (go_ret; exact ⟨ret_bool (HR.out _ (int_eq_dec c 7)), H.below⟩))) : P := h
set_option maxHeartbeats 1600000 in
set_option maxRecDepth 100000 in
theorem mul_inf_t (c s f : Nat) (x : Int) (w : World) (hc : c = 0) :
    Calls Tryd.prog 70 #[PV c s x f] w fun e w' => e = .returned (.bool (infB c)) ∧ Below w.heap.size w w' := by
  have H := Own.start w
  have e1 : ((c : Int) == 0) = true := int_eq_true c 0 hc
  have HR := Lib.hid (show true = infB c by rw [hc]; rfl)
  clear hc
  go_enter Tryd.func70, Tryd.ntmps70
  exact walk70
set_option maxHeartbeats 1600000 in
set_option maxRecDepth 100000 in
theorem mul_inf_f (c s f : Nat) (x : Int) (w : World) (hc : c ≠ 0) :
    Calls Tryd.prog 70 #[PV c s x f] w fun e w' => e = .returned (.bool (infB c)) ∧ Below w.heap.size w w' := by
  have H := Own.start w
  have e1 : ((c : Int) == 0) = false := int_eq_false c 0 hc
  have HR := Lib.hid (show ∀ b : Bool, b = decide (c = 7) → b = infB c by intro b hb; unfold infB; rw [decide_eq_false hc]; exact hb)
  clear hc
  go_enter Tryd.func70, Tryd.ntmps70
  exact walk70
theorem mul_inf (c s f : Nat) (x : Int) (w : World) :
    Calls Tryd.prog 70 #[PV c s x f] w fun e w' => e = .returned (.bool (infB c)) ∧ Below w.heap.size w w' := by
  by_cases hc : c = 0
  · exact mul_inf_t c s f x w hc
  · exact mul_inf_f c s f x w hc
theorem walk71 {P : Prop} (h : P := by
  go_wp2_with (first
    | ((with_reducible show wpList _ _ _ (⟨_, .box _ _, _, _, _, _⟩ :: _) _ _); refine H.box rfl rfl (cells_agg _) ?_; (intro g w H; simp only [Act.put, List.setIfInBounds_toArray, List.set_cons_zero, List.set_cons_succ]))
    | ((with_reducible show wpList _ _ _ (⟨_, .load 62 _, _, _, _, _⟩ :: _) _ _); refine H.ld1 rfl oC rfl rfl (by repeat (first | with_reducible exact List.mem_cons_self | apply List.mem_cons_of_mem)) (by first | with_reducible exact get_parts0 _ _ _ _ | with_reducible exact get_10 _) ?_; simp only [Act.put, List.setIfInBounds_toArray, List.set_cons_zero, List.set_cons_succ])
    | ((with_reducible show wpList _ _ _ (⟨_, .store 62 _ _, _, _, _, _⟩ :: _) _ _); refine H.st1 rfl oC rfl rfl (cells_int _ _) (by repeat (first | with_reducible exact Upd.head _ | apply Upd.tail)) (by first | with_reducible exact set_10 _ _) (by rfl) (by exact one_of rfl) (by first | exact ble_le rfl | (change _ + 1 ≤ 12; omega) | (change _ + 1 ≤ 6; omega)) ?_; (intro w H; simp only [Act.put]))
    )
  all_goals (first | (go_ret; exact ⟨ret_bool HR.out, H.below⟩) | (go_ret; exact ⟨ret_bool (HR.out _ (int_eq_dec c 4)), H.below⟩))) : P := h
set_option maxHeartbeats 1600000 in
set_option maxRecDepth 100000 in
theorem mul_nought_t (c s f : Nat) (x : Int) (w : World) (hc : c = 3) :
    Calls Tryd.prog 71 #[PV c s x f] w fun e w' => e = .returned (.bool (zerB c)) ∧ Below w.heap.size w w' := by
  have H := Own.start w
  have e1 : ((c : Int) == 3) = true := int_eq_true c 3 hc
  have HR := Lib.hid (show true = zerB c by rw [hc]; rfl)
  clear hc
  go_enter Tryd.func71, Tryd.ntmps71
  exact walk71
set_option maxHeartbeats 1600000 in
set_option maxRecDepth 100000 in
theorem mul_nought_f (c s f : Nat) (x : Int) (w : World) (hc : c ≠ 3) :
    Calls Tryd.prog 71 #[PV c s x f] w fun e w' => e = .returned (.bool (zerB c)) ∧ Below w.heap.size w w' := by
  have H := Own.start w
  have e1 : ((c : Int) == 3) = false := int_eq_false c 3 hc
  have HR := Lib.hid (show ∀ b : Bool, b = decide (c = 4) → b = zerB c by intro b hb; unfold zerB; rw [decide_eq_false hc]; exact hb)
  clear hc
  go_enter Tryd.func71, Tryd.ntmps71
  exact walk71
theorem mul_nought (c s f : Nat) (x : Int) (w : World) :
    Calls Tryd.prog 71 #[PV c s x f] w fun e w' => e = .returned (.bool (zerB c)) ∧ Below w.heap.size w w' := by
  by_cases hc : c = 3
  · exact mul_nought_t c s f x w hc
  · exact mul_nought_f c s f x w hc
set_option maxHeartbeats 1600000 in
set_option maxRecDepth 100000 in
theorem sqrt_nan (c s f : Nat) (x : Int) (w : World) :
    Calls Tryd.prog 73 #[PV c s x f] w fun e w' => e = .returned (.bool (nanB c)) ∧ Below w.heap.size w w' := by
  have H := Own.start w
  go_enter Tryd.func73, Tryd.ntmps73
  go_wp2_with (first
    | ((with_reducible show wpList _ _ _ (⟨_, .box _ _, _, _, _, _⟩ :: _) _ _); refine H.box rfl rfl (cells_agg _) ?_; (intro g w H; simp only [Act.put, List.setIfInBounds_toArray, List.set_cons_zero, List.set_cons_succ]))
    | ((with_reducible show wpList _ _ _ (⟨_, .load 62 _, _, _, _, _⟩ :: _) _ _); refine H.ld1 rfl oC rfl rfl (by repeat (first | with_reducible exact List.mem_cons_self | apply List.mem_cons_of_mem)) (by first | with_reducible exact get_parts0 _ _ _ _ | with_reducible exact get_10 _) ?_; simp only [Act.put, List.setIfInBounds_toArray, List.set_cons_zero, List.set_cons_succ])
    | ((with_reducible show wpList _ _ _ (⟨_, .store 62 _ _, _, _, _, _⟩ :: _) _ _); refine H.st1 rfl oC rfl rfl (cells_int _ _) (by repeat (first | with_reducible exact Upd.head _ | apply Upd.tail)) (by first | with_reducible exact set_10 _ _) (by rfl) (by exact one_of rfl) (by first | exact ble_le rfl | (change _ + 1 ≤ 12; omega) | (change _ + 1 ≤ 6; omega)) ?_; (intro w H; simp only [Act.put]))
    )
  all_goals
    go_ret
    exact ⟨ret_bool (by unfold nanB; rw [Bool.eq_iff_iff]; simp <;> omega), H.below⟩
set_option maxHeartbeats 1600000 in
set_option maxRecDepth 100000 in
theorem sqrt_below (c s f : Nat) (x : Int) (w : World) :
    Calls Tryd.prog 76 #[PV c s x f] w fun e w' => e = .returned (.bool (belowN4 c)) ∧ Below w.heap.size w w' := by
  have H := Own.start w
  go_enter Tryd.func76, Tryd.ntmps76
  go_wp2_with (first
    | ((with_reducible show wpList _ _ _ (⟨_, .box _ _, _, _, _, _⟩ :: _) _ _); refine H.box rfl rfl (cells_agg _) ?_; (intro g w H; simp only [Act.put, List.setIfInBounds_toArray, List.set_cons_zero, List.set_cons_succ]))
    | ((with_reducible show wpList _ _ _ (⟨_, .load 62 _, _, _, _, _⟩ :: _) _ _); refine H.ld1 rfl oC rfl rfl (by repeat (first | with_reducible exact List.mem_cons_self | apply List.mem_cons_of_mem)) (by first | with_reducible exact get_parts0 _ _ _ _ | with_reducible exact get_10 _) ?_; simp only [Act.put, List.setIfInBounds_toArray, List.set_cons_zero, List.set_cons_succ])
    | ((with_reducible show wpList _ _ _ (⟨_, .store 62 _ _, _, _, _, _⟩ :: _) _ _); refine H.st1 rfl oC rfl rfl (cells_int _ _) (by repeat (first | with_reducible exact Upd.head _ | apply Upd.tail)) (by first | with_reducible exact set_10 _ _) (by rfl) (by exact one_of rfl) (by first | exact ble_le rfl | (change _ + 1 ≤ 12; omega) | (change _ + 1 ≤ 6; omega)) ?_; (intro w H; simp only [Act.put]))
    )
  all_goals
    go_ret
    exact ⟨ret_bool (by unfold belowN4; rw [Bool.eq_iff_iff]; simp <;> omega), H.below⟩
theorem walk77 {P : Prop} (h : P := by
  go_wp2_with (first
    | ((with_reducible show wpList _ _ _ (⟨_, .box _ _, _, _, _, _⟩ :: _) _ _); refine H.box rfl rfl (cells_agg _) ?_; (intro g w H; simp only [Act.put, List.setIfInBounds_toArray, List.set_cons_zero, List.set_cons_succ]))
    | ((with_reducible show wpList _ _ _ (⟨_, .load 62 _, _, _, _, _⟩ :: _) _ _); refine H.ld1 rfl oC rfl rfl (by repeat (first | with_reducible exact List.mem_cons_self | apply List.mem_cons_of_mem)) (by first | with_reducible exact get_parts0 _ _ _ _ | with_reducible exact get_10 _) ?_; simp only [Act.put, List.setIfInBounds_toArray, List.set_cons_zero, List.set_cons_succ])
    | ((with_reducible show wpList _ _ _ (⟨_, .store 62 _ _, _, _, _, _⟩ :: _) _ _); refine H.st1 rfl oC rfl rfl (cells_int _ _) (by repeat (first | with_reducible exact Upd.head _ | apply Upd.tail)) (by first | with_reducible exact set_10 _ _) (by rfl) (by exact one_of rfl) (by first | exact ble_le rfl | (change _ + 1 ≤ 12; omega) | (change _ + 1 ≤ 6; omega)) ?_; (intro w H; simp only [Act.put]))
    )
  all_goals (first | (go_ret; exact ⟨ret_bool HR.out, H.below⟩) | (go_ret; exact ⟨ret_bool (HR.out _ (int_eq_dec c 7)), H.below⟩))) : P := h
set_option maxHeartbeats 1600000 in
set_option maxRecDepth 100000 in
theorem sqrt_inf_t (c s f : Nat) (x : Int) (w : World) (hc : c = 0) :
    Calls Tryd.prog 77 #[PV c s x f] w fun e w' => e = .returned (.bool (infB c)) ∧ Below w.heap.size w w' := by
  have H := Own.start w
  have e1 : ((c : Int) == 0) = true := int_eq_true c 0 hc
  have HR := Lib.hid (show true = infB c by rw [hc]; rfl)
  clear hc
  go_enter Tryd.func77, Tryd.ntmps77
  exact walk77
set_option maxHeartbeats 1600000 in
set_option maxRecDepth 100000 in
theorem sqrt_inf_f (c s f : Nat) (x : Int) (w : World) (hc : c ≠ 0) :
    Calls Tryd.prog 77 #[PV c s x f] w fun e w' => e = .returned (.bool (infB c)) ∧ Below w.heap.size w w' := by
  have H := Own.start w
  have e1 : ((c : Int) == 0) = false := int_eq_false c 0 hc
  have HR := Lib.hid (show ∀ b : Bool, b = decide (c = 7) → b = infB c by intro b hb; unfold infB; rw [decide_eq_false hc]; exact hb)
  clear hc
  go_enter Tryd.func77, Tryd.ntmps77
  exact walk77
theorem sqrt_inf (c s f : Nat) (x : Int) (w : World) :
    Calls Tryd.prog 77 #[PV c s x f] w fun e w' => e = .returned (.bool (infB c)) ∧ Below w.heap.size w w' := by
  by_cases hc : c = 0
  · exact sqrt_inf_t c s f x w hc
  · exact sqrt_inf_f c s f x w hc
theorem walk75 {P : Prop} (h : P := by
  go_wp2_with (first
    | ((with_reducible show wpList _ _ _ (⟨_, .box _ _, _, _, _, _⟩ :: _) _ _); refine H.box rfl rfl (cells_agg _) ?_; (intro g w H; simp only [Act.put, List.setIfInBounds_toArray, List.set_cons_zero, List.set_cons_succ]))
    | ((with_reducible show wpList _ _ _ (⟨_, .load 62 _, _, _, _, _⟩ :: _) _ _); refine H.ld1 rfl oC rfl rfl (by repeat (first | with_reducible exact List.mem_cons_self | apply List.mem_cons_of_mem)) (by first | with_reducible exact get_parts0 _ _ _ _ | with_reducible exact get_10 _) ?_; simp only [Act.put, List.setIfInBounds_toArray, List.set_cons_zero, List.set_cons_succ])
    | ((with_reducible show wpList _ _ _ (⟨_, .store 62 _ _, _, _, _, _⟩ :: _) _ _); refine H.st1 rfl oC rfl rfl (cells_int _ _) (by repeat (first | with_reducible exact Upd.head _ | apply Upd.tail)) (by first | with_reducible exact set_10 _ _) (by rfl) (by exact one_of rfl) (by first | exact ble_le rfl | (change _ + 1 ≤ 12; omega) | (change _ + 1 ≤ 6; omega)) ?_; (intro w H; simp only [Act.put]))
    )
  all_goals (first | (go_ret; exact ⟨ret_bool HR.out, H.below⟩) | (go_ret; exact ⟨ret_bool (HR.out _ (int_eq_dec c 4)), H.below⟩))) : P := h
set_option maxHeartbeats 1600000 in
set_option maxRecDepth 100000 in
theorem sqrt_nought_t (c s f : Nat) (x : Int) (w : World) (hc : c = 3) :
    Calls Tryd.prog 75 #[PV c s x f] w fun e w' => e = .returned (.bool (zerB c)) ∧ Below w.heap.size w w' := by
  have H := Own.start w
  have e1 : ((c : Int) == 3) = true := int_eq_true c 3 hc
  have HR := Lib.hid (show true = zerB c by rw [hc]; rfl)
  clear hc
  go_enter Tryd.func75, Tryd.ntmps75
  exact walk75
set_option maxHeartbeats 1600000 in
set_option maxRecDepth 100000 in
theorem sqrt_nought_f (c s f : Nat) (x : Int) (w : World) (hc : c ≠ 3) :
    Calls Tryd.prog 75 #[PV c s x f] w fun e w' => e = .returned (.bool (zerB c)) ∧ Below w.heap.size w w' := by
  have H := Own.start w
  have e1 : ((c : Int) == 3) = false := int_eq_false c 3 hc
  have HR := Lib.hid (show ∀ b : Bool, b = decide (c = 4) → b = zerB c by intro b hb; unfold zerB; rw [decide_eq_false hc]; exact hb)
  clear hc
  go_enter Tryd.func75, Tryd.ntmps75
  exact walk75
theorem sqrt_nought (c s f : Nat) (x : Int) (w : World) :
    Calls Tryd.prog 75 #[PV c s x f] w fun e w' => e = .returned (.bool (zerB c)) ∧ Below w.heap.size w w' := by
  by_cases hc : c = 3
  · exact sqrt_nought_t c s f x w hc
  · exact sqrt_nought_f c s f x w hc
end Go.Proofs.YtdcgcjmajacgiaaDoor
