/- Laws for arrays of six words: an element read, two arrays held against one another. -/
import Derived.Test.YtjgonofkklpgaaaDoorWmath2
import Derived.Outline
import Derived.ChangeKeysEq
namespace Go.Proofs.YtjgonofkklpgaaaDoor
open Go.RowKit

theorem run_index_arr {P : Program} {w : World} {t e : TypeId} {n i : Nat} {cs : Array Value} {v : Value} (k : IntKind) (ht : P.underlying t = some (.array n e))
    (ha : ∀ w, (isAgg e).run P w = .ok false w) (hz : ∀ w, (sizeOf e).run P w = .ok 1 w) (hi : i < n) (hv : cs[i]? = some v) :
    (Instr.index t (.agg cs) (.int k (i : Int))).run P w = .ok v w := by
  simp [Instr.index, asIntOf, run_underlying ht, part, ha, hz, hi, hv, go_sem]

theorem run_index_wide (w : World) (a k : Nat) (hk : k < 6) :
    (Instr.index 35 (.agg #[.int .u64 (limb a 0), .int .u64 (limb a 1), .int .u64 (limb a 2), .int .u64 (limb a 3), .int .u64 (limb a 4), .int .u64 (limb a 5)]) (.int .i64 (k : Int))).run Tryd.prog w = .ok (.int .u64 (limb a k)) w :=
  run_index_arr _ Tryd.underlying35 Tryd.isAgg24 Tryd.sizeOf24 hk (limbs_get a k hk)


theorem run_eqInt {P : Program} (w : World) (d : Nat) (e : TypeId) (k : IntKind) (he : P.underlying e = some (.int k)) (a b : Int) :
    (Op.equalIn (d + 1) e (.int k a) (.int k b)).run P w = .ok (a == b) w := by
  simp [Op.equalIn, run_underlying he]
theorem run_part {P : Program} (w : World) (e : TypeId) (ha : ∀ w, (isAgg e).run P w = .ok false w) (cs : Array Value) (i : Nat) (v : Value) (hv : cs[i]? = some v) :
    (part e cs i).run P w = .ok v w := by
  simp [part, ha, hv]
theorem eqItems_int {P : Program} (w : World) (d : Nat) (e : TypeId) (k : IntKind) (he : P.underlying e = some (.int k)) (ha : ∀ w, (isAgg e).run P w = .ok false w) (xs ys : Array Value) (i : Nat) (is : List Nat) (a b : Int) (r : Bool)
    (hx : xs[i]? = some (.int k a)) (hy : ys[i]? = some (.int k b)) (hr : (Op.eqItems (d + 1) e 1 xs ys is).run P w = .ok r w) : (Op.eqItems (d + 1) e 1 xs ys (i :: is)).run P w = .ok (a == b && r) w := by
  have px : (part e xs (i * 1)).run P w = .ok (.int k a) w := run_part w e ha xs _ _ (by simpa using hx)
  have py : (part e ys (i * 1)).run P w = .ok (.int k b) w := run_part w e ha ys _ _ (by simpa using hy)
  rw [Op.eqItems]
  simp only [Sem.run_bind, px, py, Result.andThen_ok, run_eqInt w d e k he a b]
  cases a == b
  · simp
  · simpa using hr
theorem run_equal6 (w : World) (x0 x1 x2 x3 x4 x5 y0 y1 y2 y3 y4 y5 : Int) :
    (Op.equalIn 10000 35 (.agg #[.int .u64 x0, .int .u64 x1, .int .u64 x2, .int .u64 x3, .int .u64 x4, .int .u64 x5]) (.agg #[.int .u64 y0, .int .u64 y1, .int .u64 y2, .int .u64 y3, .int .u64 y4, .int .u64 y5])).run Tryd.prog w =
      .ok (x0 == y0 && (x1 == y1 && (x2 == y2 && (x3 == y3 && (x4 == y4 && (x5 == y5 && true)))))) w := by
  obtain ⟨i, hi⟩ : ∃ i, Tryd.prog.info? 24 = some i := Option.isSome_iff_exists.1 (by kernel_rfl)
  rw [show (10000 : Nat) = 9999 + 1 from rfl, run_equalIn_array w 9999 _ _ Tryd.underlying35 hi]
  rw [show Tryd.prog.cellsOf 24 = 1 by kernel_rfl, show List.range 6 = [0, 1, 2, 3, 4, 5] from rfl, show (9999 : Nat) = 9998 + 1 from rfl]
  have hu := Tryd.underlying24
  have ha := Tryd.isAgg24
  refine eqItems_int w 9998 _ .u64 hu ha _ _ 0 _ x0 y0 _ rfl rfl ?_
  refine eqItems_int w 9998 _ .u64 hu ha _ _ 1 _ x1 y1 _ rfl rfl ?_
  refine eqItems_int w 9998 _ .u64 hu ha _ _ 2 _ x2 y2 _ rfl rfl ?_
  refine eqItems_int w 9998 _ .u64 hu ha _ _ 3 _ x3 y3 _ rfl rfl ?_
  refine eqItems_int w 9998 _ .u64 hu ha _ _ 4 _ x4 y4 _ rfl rfl ?_
  refine eqItems_int w 9998 _ .u64 hu ha _ _ 5 _ x5 y5 _ rfl rfl ?_
  simp [Op.eqItems]

theorem same6 (x y : Nat) (hx : x < top6) (hy : y < top6) :
    (limb x 0 == limb y 0 && (limb x 1 == limb y 1 && (limb x 2 == limb y 2 && (limb x 3 == limb y 3 && (limb x 4 == limb y 4 && (limb x 5 == limb y 5 && true)))))) = decide (x = y) := by
  rw [Bool.eq_iff_iff, decide_eq_true_iff]
  constructor
  · intro h
    simp only [Bool.and_eq_true, beq_iff_eq] at h
    obtain ⟨h0, h1, h2, h3, h4, h5, _⟩ := h
    apply limbs_inj x y hx hy
    intro i hi
    have : i = 0 ∨ i = 1 ∨ i = 2 ∨ i = 3 ∨ i = 4 ∨ i = 5 := by omega
    unfold limb at *
    rcases this with rfl | rfl | rfl | rfl | rfl | rfl <;> omega
  · intro h; subst h; simp
/-- Two numbers of six words, held against one another. -/
theorem run_equal_wide (w : World) (x y : Nat) (hx : x < top6) (hy : y < top6) : (Op.equalIn 10000 35 (.agg (limbs x)) (.agg (limbs y))).run Tryd.prog w = .ok (decide (x = y)) w := by
  unfold limbs; rw [run_equal6, same6 x y hx hy]
theorem zero_top : 0 < top6 := by unfold top6; exact pw_pos 6
/-- A number of six words, held against the zero value. -/
theorem run_equal_zero (w : World) (x : Nat) (hx : x < top6) :
    (Op.equalIn 10000 35 (.agg #[.int .u64 (limb x 0), .int .u64 (limb x 1), .int .u64 (limb x 2), .int .u64 (limb x 3), .int .u64 (limb x 4), .int .u64 (limb x 5)]) (.agg #[.int .u64 0, .int .u64 0, .int .u64 0, .int .u64 0, .int .u64 0, .int .u64 0])).run Tryd.prog w = .ok (decide (x = 0)) w := by
  have := run_equal_wide w x 0 hx zero_top
  rw [limbs_zero] at this
  exact this
end Go.Proofs.YtjgonofkklpgaaaDoor
