/- The types' sizes and zeros; the rows of the program's structs. -/
import Derived.Test.YtjgonofkklpgaaaDoorMem2
import Derived.Test.YtjgonofkklpgaaaDoorUnp
namespace Go.Proofs.YtjgonofkklpgaaaDoor
open Go.RowKit

/-- The cells of a rough number. -/
def rough (neg : Bool) (s : Nat) (e : Int) (mo : Bool) : Array Value := #[.bool neg, .int .u64 (limb s 0), .int .u64 (limb s 1), .int .u64 (limb s 2), .int .u64 (limb s 3), .int .u64 (limb s 4), .int .u64 (limb s 5), .int .i64 e, .bool mo]
abbrev RV (neg : Bool) (s : Nat) (e : Int) (mo : Bool) : Value := .agg (rough neg s e mo)
theorem tW_s : (Tryd.prog.info? 35).map (·.size) = some 6 := by kernel_rfl
theorem tB_s : (Tryd.prog.info? 26).map (·.size) = some 2 := by kernel_rfl
theorem tP_s : (Tryd.prog.info? 75).map (·.size) = some 14 := by kernel_rfl
theorem tR_s : (Tryd.prog.info? 92).map (·.size) = some 9 := by kernel_rfl
theorem t3_s : (Tryd.prog.info? 100).map (·.size) = some 42 := by kernel_rfl
theorem tu_s : (Tryd.prog.info? 24).map (·.size) = some 1 := by kernel_rfl
theorem ti_s : (Tryd.prog.info? 3).map (·.size) = some 1 := by kernel_rfl
theorem tb_s : (Tryd.prog.info? 4).map (·.size) = some 1 := by kernel_rfl
theorem tc_s : (Tryd.prog.info? 47).map (·.size) = some 1 := by kernel_rfl
theorem tW_z : (Tryd.prog.info? 35).bind (·.zero) = some (W 0) := by rw [show W 0 = .agg (limbs 0) from rfl, limbs_zero]; kernel_rfl
theorem tB_z : (Tryd.prog.info? 26).bind (·.zero) = some (.agg #[.int .u64 0, .int .u64 0]) := by kernel_rfl
theorem tP_z : (Tryd.prog.info? 75).bind (·.zero) = some (PV 0 0 0 0) := by rw [show PV 0 0 0 0 = .agg (parts 0 0 0 0) from rfl, parts_zero]; kernel_rfl
theorem rough_zero : rough false 0 0 false = #[.bool false, .int .u64 0, .int .u64 0, .int .u64 0, .int .u64 0, .int .u64 0, .int .u64 0, .int .i64 0, .bool false] := by
  unfold rough; simp only [limb_zero]
theorem tR_z : (Tryd.prog.info? 92).bind (·.zero) = some (RV false 0 0 false) := by rw [show RV false 0 0 false = .agg (rough false 0 0 false) from rfl, rough_zero]; kernel_rfl
theorem tu_z : (Tryd.prog.info? 24).bind (·.zero) = some (.int .u64 0) := by kernel_rfl
theorem ti_z : (Tryd.prog.info? 3).bind (·.zero) = some (.int .i64 0) := by kernel_rfl
theorem tb_z : (Tryd.prog.info? 4).bind (·.zero) = some (.bool false) := by kernel_rfl

theorem ext_limbs (a : Nat) : (limbs a).extract 0 (0 + (limbs a).size) = limbs a := rfl
theorem ext_parts (c s : Nat) (x : Int) (f : Nat) : (parts c s x f).extract 0 (0 + (parts c s x f).size) = parts c s x f := rfl
theorem ext_parts_s (c s : Nat) (x : Int) (f : Nat) : (parts c s x f).extract 1 (1 + (limbs s).size) = limbs s := rfl
theorem ext_parts_f (c s : Nat) (x : Int) (f : Nat) : (parts c s x f).extract 8 (8 + (limbs f).size) = limbs f := rfl
theorem ext_rough (neg : Bool) (s : Nat) (e : Int) (mo : Bool) : (rough neg s e mo).extract 0 (0 + (rough neg s e mo).size) = rough neg s e mo := rfl
theorem ext_rough_s (neg : Bool) (s : Nat) (e : Int) (mo : Bool) : (rough neg s e mo).extract 1 (1 + (limbs s).size) = limbs s := rfl
theorem get_rough0 (neg : Bool) (s : Nat) (e : Int) (mo : Bool) : (rough neg s e mo)[0]? = some (.bool neg) := rfl
theorem get_rough7 (neg : Bool) (s : Nat) (e : Int) (mo : Bool) : (rough neg s e mo)[7]? = some (.int .i64 e) := rfl
theorem get_rough8 (neg : Bool) (s : Nat) (e : Int) (mo : Bool) : (rough neg s e mo)[8]? = some (.bool mo) := rfl
theorem get_parts0 (c s : Nat) (x : Int) (f : Nat) : (parts c s x f)[0]? = some (.int .u8 c) := rfl
theorem get_parts7 (c s : Nat) (x : Int) (f : Nat) : (parts c s x f)[7]? = some (.int .i64 x) := rfl
theorem one_of {vs : Array Value} (h : vs.toList.all (·.oneCell') = true) : vs.all (·.oneCell') = true := by rw [← Array.all_toList]; exact h
theorem setRow_get (vs : List Value) : ∀ (cs : Array Value) (o j : Nat), o + vs.length ≤ cs.size → (setRow cs o vs)[j]? = if j < o then cs[j]? else if j < o + vs.length then vs[j - o]? else cs[j]? := by
  induction vs with
  | nil => intro cs o j _; rw [setRow]; by_cases h : j < o <;> simp [h]
  | cons v r ih =>
    intro cs o j h
    rw [List.length_cons] at h
    rw [setRow, ih _ _ _ (by rw [Array.size_setIfInBounds]; omega), Array.getElem?_setIfInBounds, List.length_cons]
    by_cases h1 : j < o
    · rw [if_pos (by omega), if_neg (by omega), if_pos h1]
    · by_cases h2 : j = o
      · subst h2
        rw [if_pos (by omega), if_pos rfl, if_pos (by omega), if_neg (by omega), if_pos (by omega), Nat.sub_self]; rfl
      · rw [if_neg (by omega), if_neg h1]
        by_cases h3 : j < o + (r.length + 1)
        · rw [if_pos (by omega), if_pos h3, show j - o = (j - (o + 1)) + 1 by omega]; rfl
        · rw [if_neg (by omega), if_neg (by omega), if_neg h3]
theorem set_all (cs vs : Array Value) (h : cs.size = vs.size) : setRow cs 0 vs.toList = vs := by
  apply Array.ext_getElem?
  intro j
  rw [setRow_get _ _ _ _ (by simp [h]), if_neg (by omega)]
  by_cases hj : j < 0 + vs.toList.length
  · rw [if_pos hj]; simp
  · rw [if_neg hj, Array.getElem?_eq_none (by simp at hj; omega), Array.getElem?_eq_none (by simp at hj; omega)]
theorem set_zero6 (cs : Array Value) (h : cs.size = 6) : setRow cs 0 (#[.int .u64 0, .int .u64 0, .int .u64 0, .int .u64 0, .int .u64 0, .int .u64 0] : Array Value).toList = limbs 0 := by rw [limbs_zero]; exact set_all _ _ h
theorem ext_6 (a b c d e f : Value) : (#[a, b, c, d, e, f] : Array Value).extract 0 (0 + (#[a, b, c, d, e, f] : Array Value).size) = #[a, b, c, d, e, f] := rfl
theorem set_parts_s (c s : Nat) (x : Int) (f s' : Nat) : setRow (parts c s x f) 1 (limbs s').toList = parts c s' x f := rfl
theorem set_parts_f (c s : Nat) (x : Int) (f f' : Nat) : setRow (parts c s x f) 8 (limbs f').toList = parts c s x f' := rfl
theorem set_parts_x (c s : Nat) (x : Int) (f : Nat) (x' : Int) : setRow (parts c s x f) 7 (#[.int .i64 x'] : Array Value).toList = parts c s x' f := rfl
theorem set_rough_s (neg : Bool) (s : Nat) (e : Int) (mo : Bool) (s' : Nat) : setRow (rough neg s e mo) 1 (limbs s').toList = rough neg s' e mo := rfl
theorem set_rough_n (neg : Bool) (s : Nat) (e : Int) (mo neg' : Bool) : setRow (rough neg s e mo) 0 (#[.bool neg'] : Array Value).toList = rough neg' s e mo := rfl
end Go.Proofs.YtjgonofkklpgaaaDoor
