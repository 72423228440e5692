/- Part 5 of what is proved: Bld, Setb, Unq, Unp7, Wadd, Grd, Sht, Pck, Opb. -/
import Derived.Deep.RegionWith
import Derived.Deep.RegionHeld3
import Derived.Deep.QuietTactic
import Derived.BigQuiet
import Derived.StillTailTactics
import Derived.Outline
import Derived.Test.YtbngedcblngnhaaDoorHs0
import Derived.Test.YtbngedcblngnhaaDoorHs1
import Derived.Test.YtbngedcblngnhaaDoorHs2
import Derived.Test.YtbngedcblngnhaaDoorHs3
import Derived.Test.YtbngedcblngnhaaDoorHs4
set_option linter.unusedSimpArgs false
set_option linter.unusedVariables false
set_option linter.unnecessarySimpa false
set_option maxRecDepth 100000
set_option maxHeartbeats 1600000
namespace Go.Proofs.YtbngedcblngnhaaDoor
open Go.RowKit
section
variable {P : Program} {w : World} {op : Oper} {a : Act} {Q : Exit → Act → World → Prop} {ops : Array Oper} {rest : List Oper}
theorem run_build {t : TypeId} {n : Nat} {z : Array Value} {fs : Array Field} {places : Array (Nat × Nat)} (R : IsRow P t n z) (hu : P.underlying t = some (.struct fs))
    (hp : (fs.mapM fun f => do pure (f.offset, ← sizeOf f.type) : Sem (Array (Nat × Nat))).run P w = .ok places w) (ps : Array (Nat × Value)) (cs : Array Value) (hf : Instr.fill (places[·]?) z ps.toList = some cs) :
    (Instr.build t ps).run P w = .ok (.agg cs) w := by
  have hz := run_zeroValue R.zero w
  unfold Instr.build
  simp only [Sem.run_bind, hz, Result.andThen_ok, run_underlying hu, hp, Value.cells, hf]
  rfl
theorem fill_step (place : Nat → Option (Nat × Nat)) (cells : Array Value) (i off size : Nat) (v : Value) (rest : List (Nat × Value)) (hp : place i = some (off, size)) (h1 : v.cells.size = size) (h2 : off + size ≤ cells.size) :
    Instr.fill place cells ((i, v) :: rest) = Instr.fill place (setRow cells off v.cells.toList) rest := by
  rw [Instr.fill]
  simp only [hp]
  rw [if_neg (by simp [h1]; omega), foldl_cells]
theorem wp_bld {t : TypeId} {ps : Array (Nat × Operand)} (hw : Region.wanted op (yielded ops a.tmps) = true) (ho : op.op = .build t ps) {vs : Array (Nat × Value)} (hvs : (ps.map fun (i, x) => (i, a.eval x)) = vs) {v : Value}
    (hv : ∀ w, (Instr.build t vs).run P w = .ok v w) (h : wpList P ops Q rest (a.put op.dst v) w) : wpList P ops Q (op :: rest) a w := by
  refine wp_wanted hw fun K hK => ?_
  subst hvs
  have hk := hK _ _ h
  unfold Oper.wp execOp
  simp only [ho, Sem.run_bind, hv, Result.andThen_ok]
  exact hk
theorem wp_bld2 {t : TypeId} {i j : Nat} {x y : Operand} (hw : Region.wanted op (yielded ops a.tmps) = true) (ho : op.op = .build t #[(i, x), (j, y)]) {u1 u2 : Value} (h1 : a.eval x = u1) (h2 : a.eval y = u2) {v : Value}
    (hv : ∀ w, (Instr.build t #[(i, u1), (j, u2)]).run P w = .ok v w) (h : wpList P ops Q rest (a.put op.dst v) w) : wpList P ops Q (op :: rest) a w :=
  wp_bld hw ho (by simp [h1, h2]) hv h
theorem wp_bld3 {t : TypeId} {i j k : Nat} {x y z : Operand} (hw : Region.wanted op (yielded ops a.tmps) = true) (ho : op.op = .build t #[(i, x), (j, y), (k, z)]) {u1 u2 u3 : Value} (h1 : a.eval x = u1) (h2 : a.eval y = u2) (h3 : a.eval z = u3) {v : Value}
    (hv : ∀ w, (Instr.build t #[(i, u1), (j, u2), (k, u3)]).run P w = .ok v w) (h : wpList P ops Q rest (a.put op.dst v) w) : wpList P ops Q (op :: rest) a w :=
  wp_bld hw ho (by simp [h1, h2, h3]) hv h
theorem exec_bld {t : TypeId} {ps : Array (Nat × Operand)} (ho : op.op = .build t ps) {vs : Array (Nat × Value)} (hvs : (ps.map fun (i, x) => (i, a.eval x)) = vs) {v : Value}
    (hv : ∀ w, (Instr.build t vs).run P w = .ok v w) (w : World) : (execOp a.eval op).run P w = .ok (.value v) w := by
  subst hvs
  unfold execOp
  simp only [ho, Sem.run_bind, hv, Result.andThen_ok]
  rfl
theorem exec_bld3 {t : TypeId} {i j k : Nat} {x y z : Operand} (ho : op.op = .build t #[(i, x), (j, y), (k, z)]) {u1 u2 u3 : Value} (h1 : a.eval x = u1) (h2 : a.eval y = u2) (h3 : a.eval z = u3) {v : Value}
    (hv : ∀ w, (Instr.build t #[(i, u1), (j, u2), (k, u3)]).run P w = .ok v w) (w : World) : (execOp a.eval op).run P w = .ok (.value v) w := exec_bld ho (by simp [h1, h2, h3]) hv w
end
/-- Where the parts of a rough number lie. -/
def roughAt : Array (Nat × Nat) := #[(0, 1), (1, 6), (7, 1), (8, 1)]
theorem rough_0 (neg : Bool) (s : Nat) (e : Int) (mo neg' : Bool) (rest : List (Nat × Value)) : Instr.fill (roughAt[·]?) (rough neg s e mo) ((0, .bool neg') :: rest) = Instr.fill (roughAt[·]?) (rough neg' s e mo) rest := fill_step _ _ 0 0 1 _ _ rfl rfl (show 0 + 1 ≤ 9 by decide)
theorem rough_1 (neg : Bool) (s : Nat) (e : Int) (mo : Bool) (s' : Nat) (rest : List (Nat × Value)) : Instr.fill (roughAt[·]?) (rough neg s e mo) ((1, W s') :: rest) = Instr.fill (roughAt[·]?) (rough neg s' e mo) rest := fill_step _ _ 1 1 6 _ _ rfl rfl (show 1 + 6 ≤ 9 by decide)
theorem rough_2 (neg : Bool) (s : Nat) (e : Int) (mo : Bool) (e' : Int) (rest : List (Nat × Value)) : Instr.fill (roughAt[·]?) (rough neg s e mo) ((2, .int .i64 e') :: rest) = Instr.fill (roughAt[·]?) (rough neg s e' mo) rest := fill_step _ _ 2 7 1 _ _ rfl rfl (show 7 + 1 ≤ 9 by decide)
theorem places_rough (w : World) : ∃ fs, Tryd.prog.underlying 61 = some (.struct fs) ∧ (fs.mapM fun f => do pure (f.offset, ← sizeOf f.type) : Sem (Array (Nat × Nat))).run Tryd.prog w = .ok roughAt w := by
  refine ⟨_, Tryd.underlying61, ?_⟩
  unfold roughAt
  go_simp
theorem run_rough (w : World) (ps : Array (Nat × Value)) (cs : Array Value) (hf : Instr.fill (roughAt[·]?) (rough false 0 0 false) ps.toList = some cs) : (Instr.build 61 ps).run Tryd.prog w = .ok (.agg cs) w := by
  obtain ⟨fs, hu, hp⟩ := places_rough w
  exact run_build rR hu hp ps cs hf
theorem rough_nse (neg : Bool) (s : Nat) (e : Int) (w : World) : (Instr.build 61 #[(0, .bool neg), (1, W s), (2, .int .i64 e)]).run Tryd.prog w = .ok (RV neg s e false) w :=
  run_rough w _ _ (by show Instr.fill _ _ [_, _, _] = _; rw [rough_0, rough_1, rough_2]; rfl)
theorem rough_ne (neg : Bool) (e : Int) (w : World) : (Instr.build 61 #[(0, .bool neg), (2, .int .i64 e)]).run Tryd.prog w = .ok (RV neg 0 e false) w :=
  run_rough w _ _ (by show Instr.fill _ _ [_, _] = _; rw [rough_0, rough_2]; rfl)
open Go.RowKit
theorem limbN_addpow (t i s j : Nat) (ht : t < 2 ^ (64 * i + s)) (hs : s < 64) :
    limbN (t + 2 ^ (64 * i + s)) j = if j = i then limbN t i + 2 ^ s else limbN t j := by
  have hp : 2 ^ (64 * i + s) = 2 ^ s * 2 ^ (64 * i) := by rw [Nat.pow_add, Nat.mul_comm]
  have h64 : 2 ^ s < 18446744073709551616 := by rw [B64]; exact Nat.pow_lt_pow_right (by decide) hs
  rcases Nat.lt_trichotomy j i with h | h | h
  · rw [if_neg (by omega)]
    unfold limbN
    rw [hp, show 64 * i = 64 * j + (64 + 64 * (i - j - 1)) by omega, Nat.pow_add, Nat.pow_add 2 64, Nat.mul_left_comm, Nat.add_mul_div_left _ _ (pw_pos j), ← B64, Nat.mul_left_comm, Nat.add_mul_mod_self_left]
  · subst h
    rw [if_pos rfl]
    unfold limbN
    have hq : t / 2 ^ (64 * j) < 2 ^ s := by rw [Nat.div_lt_iff_lt_mul (pw_pos j), ← hp]; exact ht
    have hs2 : 2 ^ s + 2 ^ s ≤ 18446744073709551616 := by rw [← Nat.two_mul, Nat.mul_comm, ← Nat.pow_succ, B64]; exact Nat.pow_le_pow_right (by decide) hs
    rw [hp, Nat.mul_comm, Nat.add_mul_div_left _ _ (pw_pos j), Nat.mod_eq_of_lt (by omega : t / 2 ^ (64 * j) < _), Nat.mod_eq_of_lt (by omega)]
  · rw [if_neg (by omega)]
    have big : ∀ y, y < 2 ^ (64 * j) → limbN y j = 0 := fun y hy => by unfold limbN; rw [Nat.div_eq_of_lt hy]
    have hle : 2 ^ (64 * i + s) + 2 ^ (64 * i + s) ≤ 2 ^ (64 * j) := by
      rw [← Nat.two_mul, Nat.mul_comm, ← Nat.pow_succ]; exact Nat.pow_le_pow_right (by decide) (by omega)
    rw [big _ (by omega), big _ (by omega)]
theorem bits_or_top (x s : Nat) (hx : x < 2 ^ s) (hs : s < 64) : Go.bits .or .u64 (x : Int) (IntKind.u64.wrap (2 ^ s)) = ((x + 2 ^ s : Nat) : Int) := by
  have h64 : 2 ^ s < 18446744073709551616 := by rw [B64]; exact Nat.pow_lt_pow_right (by decide) hs
  rw [show (2 : Int) ^ s = ((2 ^ s : Nat) : Int) by simp, show IntKind.u64.wrap ((2 ^ s : Nat) : Int) = ((2 ^ s : Nat) : Int) by rw [IntKind.wrap_u64]; omega, u64_or_nat _ _ (by omega) h64]
  congr 1
  have := Nat.two_pow_add_eq_or_of_lt hx 1
  rw [Nat.mul_one] at this
  rw [Nat.or_comm, ← this, Nat.add_comm]
theorem limbs_top (t i s : Nat) (ht : t < 2 ^ (64 * i + s)) (hs : s < 64) (hi : i < 6) :
    (limbs t).setIfInBounds i (.int .u64 (Go.bits .or .u64 (limb t i) (IntKind.u64.wrap (2 ^ s)))) = limbs (t + 2 ^ (64 * i + s)) := by
  have hx : limbN t i < 2 ^ s := by
    unfold limbN
    refine Nat.lt_of_le_of_lt (Nat.mod_le _ _) ?_
    rw [Nat.div_lt_iff_lt_mul (pw_pos i), ← Nat.pow_add, Nat.add_comm]; exact ht
  have e : Go.bits .or .u64 (limb t i) (IntKind.u64.wrap (2 ^ s)) = ((limbN t i + 2 ^ s : Nat) : Int) := bits_or_top _ s hx hs
  rw [e]
  apply Array.ext_getElem?
  intro j
  by_cases hj : j < 6
  · rw [limbs_get _ j hj, Array.getElem?_setIfInBounds]
    unfold limb
    rw [limbN_addpow t i s j ht hs]
    by_cases h : i = j
    · subst h
      rw [if_pos rfl, if_pos (by rw [limbs_size]; exact hi), if_pos rfl]
    · rw [if_neg h, if_neg (by omega)]
      exact limbs_get t j hj
  · rw [Array.getElem?_eq_none (by rw [Array.size_setIfInBounds, limbs_size]; omega), Array.getElem?_eq_none (by rw [limbs_size]; omega)]
open Go.RowKit
/-- Where the parts of a number lie. -/
def partsQ : Array (Nat × Nat) := #[(0, 1), (1, 6), (7, 1), (8, 6)]
theorem places_partsQ (w : World) : ∃ fs, Tryd.prog.underlying 51 = some (.struct fs) ∧ (fs.mapM fun f => do pure (f.offset, ← sizeOf f.type) : Sem (Array (Nat × Nat))).run Tryd.prog w = .ok partsQ w := by
  refine ⟨_, Tryd.underlying51, ?_⟩
  unfold partsQ
  go_simp
theorem partsQ_0 (c s : Nat) (x : Int) (f c' : Nat) (rest : List (Nat × Value)) : Instr.fill (partsQ[·]?) (parts c s x f) ((0, .int .u8 c') :: rest) = Instr.fill (partsQ[·]?) (parts c' s x f) rest := fill_step _ _ 0 0 1 _ _ rfl rfl (show 0 + 1 ≤ 14 by decide)
theorem partsQ_c (c : Nat) (w : World) : (Instr.build 51 #[(0, .int .u8 c)]).run Tryd.prog w = .ok (PV c 0 0 0) w := by
  obtain ⟨fs, hu, hp⟩ := places_partsQ w
  exact run_build rP hu hp _ _ (by show Instr.fill _ _ [_] = _; rw [partsQ_0]; rfl)
theorem wp_bldQ {P : Program} {op : Oper} {a : Act} {Q : Exit → Act → World → Prop} {ops : Array Oper} {rest : List Oper} {w : World} {t : TypeId} {i : Nat} {x : Operand} (hw : Region.wanted op (yielded ops a.tmps) = true) (ho : op.op = .build t #[(i, x)]) {u1 : Value} (h1 : a.eval x = u1) {v : Value}
    (hv : ∀ w, (Instr.build t #[(i, u1)]).run P w = .ok v w) (h : wpList P ops Q rest (a.put op.dst v) w) : wpList P ops Q (op :: rest) a w :=
  wp_bld hw ho (by simp [h1]) hv h
theorem set_pwQ (a b : Nat) (x : Int) (d c s : Nat) (y : Int) (f : Nat) : setRow (parts a b x d) 0 (parts c s y f).toList = parts c s y f := set_all _ _ rfl
theorem set_limbsQ (a b : Nat) : setRow (limbs a) 0 (limbs b).toList = limbs b := set_all _ _ rfl
theorem set_leadQ (t i s : Nat) (ht : t < 2 ^ (64 * i + s)) (hs : s < 64) (hi : i < 6) : setRow (limbs t) i (#[.int .u64 (Go.bits .or .u64 (limb t i) (IntKind.u64.wrap (2 ^ s)))] : Array Value).toList = limbs (t + 2 ^ (64 * i + s)) := limbs_top t i s ht hs hi
theorem kindUnpack_0 (f b e t p : Nat) (neg : Bool) (w : World) (hT : Tab w) (cT : ∀ w, Calls Tryd.prog 17 #[.int .u8 f, BV b] w fun e' w' => e' = .returned (.bool true) ∧ Below w.heap.size w w') (cP : ∀ w, Calls Tryd.prog 53 #[.int .u8 f] w fun e' w' => e' = .returned (.int .i64 (p : Nat)) ∧ Below w.heap.size w w') (cF : ∀ w, Tab w → Calls Tryd.prog 81 #[.int .u8 f, BV b] w fun e' w' => e' = .returned (.tuple #[.bool neg, .int .i64 (e : Nat), W t]) ∧ Below w.heap.size w w') (cC : ∀ w, Tab w → Calls Tryd.prog 60 #[.int .u8 f, BV b] w fun e' w' => e' = .returned (.int .u8 0) ∧ Below w.heap.size w w')  :
    Calls Tryd.prog 66 #[.int .u8 f, BV b] w fun e' w' => e' = .returned (.tuple #[PV 0 0 0 0, .int .i64 0]) ∧ Below w.heap.size w w' := by
  have H := Own.start w
  have HT := Lib.hid hT
  clear hT
  go_enter Tryd.func66, Tryd.ntmps66
  exact walk7
theorem kindUnpack_3 (f b e t p : Nat) (neg : Bool) (w : World) (hT : Tab w) (cT : ∀ w, Calls Tryd.prog 17 #[.int .u8 f, BV b] w fun e' w' => e' = .returned (.bool true) ∧ Below w.heap.size w w') (cP : ∀ w, Calls Tryd.prog 53 #[.int .u8 f] w fun e' w' => e' = .returned (.int .i64 (p : Nat)) ∧ Below w.heap.size w w') (cF : ∀ w, Tab w → Calls Tryd.prog 81 #[.int .u8 f, BV b] w fun e' w' => e' = .returned (.tuple #[.bool neg, .int .i64 (e : Nat), W t]) ∧ Below w.heap.size w w') (cC : ∀ w, Tab w → Calls Tryd.prog 60 #[.int .u8 f, BV b] w fun e' w' => e' = .returned (.int .u8 3) ∧ Below w.heap.size w w')  :
    Calls Tryd.prog 66 #[.int .u8 f, BV b] w fun e' w' => e' = .returned (.tuple #[PV 3 0 0 0, .int .i64 0]) ∧ Below w.heap.size w w' := by
  have H := Own.start w
  have HT := Lib.hid hT
  clear hT
  go_enter Tryd.func66, Tryd.ntmps66
  exact walk7
theorem kindUnpack_4 (f b e t p : Nat) (neg : Bool) (w : World) (hT : Tab w) (cT : ∀ w, Calls Tryd.prog 17 #[.int .u8 f, BV b] w fun e' w' => e' = .returned (.bool true) ∧ Below w.heap.size w w') (cP : ∀ w, Calls Tryd.prog 53 #[.int .u8 f] w fun e' w' => e' = .returned (.int .i64 (p : Nat)) ∧ Below w.heap.size w w') (cF : ∀ w, Tab w → Calls Tryd.prog 81 #[.int .u8 f, BV b] w fun e' w' => e' = .returned (.tuple #[.bool neg, .int .i64 (e : Nat), W t]) ∧ Below w.heap.size w w') (cC : ∀ w, Tab w → Calls Tryd.prog 60 #[.int .u8 f, BV b] w fun e' w' => e' = .returned (.int .u8 4) ∧ Below w.heap.size w w')  :
    Calls Tryd.prog 66 #[.int .u8 f, BV b] w fun e' w' => e' = .returned (.tuple #[PV 4 0 0 0, .int .i64 0]) ∧ Below w.heap.size w w' := by
  have H := Own.start w
  have HT := Lib.hid hT
  clear hT
  go_enter Tryd.func66, Tryd.ntmps66
  exact walk7
theorem kindUnpack_7 (f b e t p : Nat) (neg : Bool) (w : World) (hT : Tab w) (cT : ∀ w, Calls Tryd.prog 17 #[.int .u8 f, BV b] w fun e' w' => e' = .returned (.bool true) ∧ Below w.heap.size w w') (cP : ∀ w, Calls Tryd.prog 53 #[.int .u8 f] w fun e' w' => e' = .returned (.int .i64 (p : Nat)) ∧ Below w.heap.size w w') (cF : ∀ w, Tab w → Calls Tryd.prog 81 #[.int .u8 f, BV b] w fun e' w' => e' = .returned (.tuple #[.bool neg, .int .i64 (e : Nat), W t]) ∧ Below w.heap.size w w') (cC : ∀ w, Tab w → Calls Tryd.prog 60 #[.int .u8 f, BV b] w fun e' w' => e' = .returned (.int .u8 7) ∧ Below w.heap.size w w')  :
    Calls Tryd.prog 66 #[.int .u8 f, BV b] w fun e' w' => e' = .returned (.tuple #[PV 7 0 0 0, .int .i64 0]) ∧ Below w.heap.size w w' := by
  have H := Own.start w
  have HT := Lib.hid hT
  clear hT
  go_enter Tryd.func66, Tryd.ntmps66
  exact walk7
theorem kindUnpack_8 (f b e t p : Nat) (neg : Bool) (w : World) (hT : Tab w) (cT : ∀ w, Calls Tryd.prog 17 #[.int .u8 f, BV b] w fun e' w' => e' = .returned (.bool true) ∧ Below w.heap.size w w') (cP : ∀ w, Calls Tryd.prog 53 #[.int .u8 f] w fun e' w' => e' = .returned (.int .i64 (p : Nat)) ∧ Below w.heap.size w w') (cF : ∀ w, Tab w → Calls Tryd.prog 81 #[.int .u8 f, BV b] w fun e' w' => e' = .returned (.tuple #[.bool neg, .int .i64 (e : Nat), W t]) ∧ Below w.heap.size w w') (cC : ∀ w, Tab w → Calls Tryd.prog 60 #[.int .u8 f, BV b] w fun e' w' => e' = .returned (.int .u8 8) ∧ Below w.heap.size w w')  :
    Calls Tryd.prog 66 #[.int .u8 f, BV b] w fun e' w' => e' = .returned (.tuple #[PV 8 0 0 t, .int .i64 0]) ∧ Below w.heap.size w w' := by
  have H := Own.start w
  have HT := Lib.hid hT
  clear hT
  go_enter Tryd.func66, Tryd.ntmps66
  exact walk7
theorem kindUnpack_9 (f b e t p : Nat) (neg : Bool) (w : World) (hT : Tab w) (cT : ∀ w, Calls Tryd.prog 17 #[.int .u8 f, BV b] w fun e' w' => e' = .returned (.bool true) ∧ Below w.heap.size w w') (cP : ∀ w, Calls Tryd.prog 53 #[.int .u8 f] w fun e' w' => e' = .returned (.int .i64 (p : Nat)) ∧ Below w.heap.size w w') (cF : ∀ w, Tab w → Calls Tryd.prog 81 #[.int .u8 f, BV b] w fun e' w' => e' = .returned (.tuple #[.bool neg, .int .i64 (e : Nat), W t]) ∧ Below w.heap.size w w') (cC : ∀ w, Tab w → Calls Tryd.prog 60 #[.int .u8 f, BV b] w fun e' w' => e' = .returned (.int .u8 9) ∧ Below w.heap.size w w')  :
    Calls Tryd.prog 66 #[.int .u8 f, BV b] w fun e' w' => e' = .returned (.tuple #[PV 9 0 0 t, .int .i64 0]) ∧ Below w.heap.size w w' := by
  have H := Own.start w
  have HT := Lib.hid hT
  clear hT
  go_enter Tryd.func66, Tryd.ntmps66
  exact walk7
theorem kindUnpack_2 (f b e t p : Nat) (em : Int) (neg : Bool) (w : World) (hT : Tab w) (he : e ≤ 32767) (hp : p ≤ 113) (hm1 : -16382 ≤ em) (hm2 : em ≤ 0) (cM : ∀ w, Calls Tryd.prog 73 #[.int .u8 f] w fun e w' => e = .returned (.int .i64 em) ∧ Below w.heap.size w w') (cT : ∀ w, Calls Tryd.prog 17 #[.int .u8 f, BV b] w fun e' w' => e' = .returned (.bool true) ∧ Below w.heap.size w w') (cP : ∀ w, Calls Tryd.prog 53 #[.int .u8 f] w fun e' w' => e' = .returned (.int .i64 (p : Nat)) ∧ Below w.heap.size w w') (cF : ∀ w, Tab w → Calls Tryd.prog 81 #[.int .u8 f, BV b] w fun e' w' => e' = .returned (.tuple #[.bool neg, .int .i64 (e : Nat), W t]) ∧ Below w.heap.size w w') (cC : ∀ w, Tab w → Calls Tryd.prog 60 #[.int .u8 f, BV b] w fun e' w' => e' = .returned (.int .u8 2) ∧ Below w.heap.size w w')  :
    Calls Tryd.prog 66 #[.int .u8 f, BV b] w fun e' w' => e' = .returned (.tuple #[PV 2 t ((e : Int) + em - (p : Int) + 1) 0, .int .i64 0]) ∧ Below w.heap.size w w' := by
  have H := Own.start w
  have HT := Lib.hid hT
  clear hT
  go_enter Tryd.func66, Tryd.ntmps66
  exact walk7
theorem kindUnpack_5 (f b e t p : Nat) (em : Int) (neg : Bool) (w : World) (hT : Tab w) (he : e ≤ 32767) (hp : p ≤ 113) (hm1 : -16382 ≤ em) (hm2 : em ≤ 0) (cM : ∀ w, Calls Tryd.prog 73 #[.int .u8 f] w fun e w' => e = .returned (.int .i64 em) ∧ Below w.heap.size w w') (cT : ∀ w, Calls Tryd.prog 17 #[.int .u8 f, BV b] w fun e' w' => e' = .returned (.bool true) ∧ Below w.heap.size w w') (cP : ∀ w, Calls Tryd.prog 53 #[.int .u8 f] w fun e' w' => e' = .returned (.int .i64 (p : Nat)) ∧ Below w.heap.size w w') (cF : ∀ w, Tab w → Calls Tryd.prog 81 #[.int .u8 f, BV b] w fun e' w' => e' = .returned (.tuple #[.bool neg, .int .i64 (e : Nat), W t]) ∧ Below w.heap.size w w') (cC : ∀ w, Tab w → Calls Tryd.prog 60 #[.int .u8 f, BV b] w fun e' w' => e' = .returned (.int .u8 5) ∧ Below w.heap.size w w')  :
    Calls Tryd.prog 66 #[.int .u8 f, BV b] w fun e' w' => e' = .returned (.tuple #[PV 5 t ((e : Int) + em - (p : Int) + 1) 0, .int .i64 0]) ∧ Below w.heap.size w w' := by
  have H := Own.start w
  have HT := Lib.hid hT
  clear hT
  go_enter Tryd.func66, Tryd.ntmps66
  exact walk7
theorem kindUnpack_1_0 (f b e t p : Nat) (em : Int) (neg : Bool) (w : World) (hT : Tab w) (s : Nat) (he : e ≤ 32767) (he1 : 1 ≤ e) (hs64 : s < 64) (htq : t < 2 ^ (64 * 0 + s)) (hqi : ((p : Int) - 1) / 64 = 0) (hqs : ((p : Int) - 1) % 64 = (s : Int)) (hp1 : 11 ≤ p) (hp : p ≤ 113) (hm1 : -16382 ≤ em) (hm2 : em ≤ 0) (cM : ∀ w, Calls Tryd.prog 73 #[.int .u8 f] w fun e w' => e = .returned (.int .i64 em) ∧ Below w.heap.size w w') (cT : ∀ w, Calls Tryd.prog 17 #[.int .u8 f, BV b] w fun e' w' => e' = .returned (.bool true) ∧ Below w.heap.size w w') (cP : ∀ w, Calls Tryd.prog 53 #[.int .u8 f] w fun e' w' => e' = .returned (.int .i64 (p : Nat)) ∧ Below w.heap.size w w') (cF : ∀ w, Tab w → Calls Tryd.prog 81 #[.int .u8 f, BV b] w fun e' w' => e' = .returned (.tuple #[.bool neg, .int .i64 (e : Nat), W t]) ∧ Below w.heap.size w w') (cC : ∀ w, Tab w → Calls Tryd.prog 60 #[.int .u8 f, BV b] w fun e' w' => e' = .returned (.int .u8 1) ∧ Below w.heap.size w w')  :
    Calls Tryd.prog 66 #[.int .u8 f, BV b] w fun e' w' => e' = .returned (.tuple #[PV 1 (t + 2 ^ (64 * 0 + s)) ((e : Int) - 1 + em - (p : Int) + 1) 0, .int .i64 0]) ∧ Below w.heap.size w w' := by
  have H := Own.start w
  have HT := Lib.hid hT
  clear hT
  have he1' : (1 : Int) ≤ (e : Int) := by omega
  have he2' : (e : Int) ≤ 32767 := by omega
  have hp2' : (p : Int) ≤ 113 := by omega
  have hp3' : (11 : Int) ≤ (p : Int) := by omega
  have HS := Lib.hid hs64
  have HTQ := Lib.hid htq
  have s64 : (s : Int) < 64 := by omega
  clear htq hs64
  go_enter Tryd.func66, Tryd.ntmps66
  exact walk7
theorem kindUnpack_6_0 (f b e t p : Nat) (em : Int) (neg : Bool) (w : World) (hT : Tab w) (s : Nat) (he : e ≤ 32767) (he1 : 1 ≤ e) (hs64 : s < 64) (htq : t < 2 ^ (64 * 0 + s)) (hqi : ((p : Int) - 1) / 64 = 0) (hqs : ((p : Int) - 1) % 64 = (s : Int)) (hp1 : 11 ≤ p) (hp : p ≤ 113) (hm1 : -16382 ≤ em) (hm2 : em ≤ 0) (cM : ∀ w, Calls Tryd.prog 73 #[.int .u8 f] w fun e w' => e = .returned (.int .i64 em) ∧ Below w.heap.size w w') (cT : ∀ w, Calls Tryd.prog 17 #[.int .u8 f, BV b] w fun e' w' => e' = .returned (.bool true) ∧ Below w.heap.size w w') (cP : ∀ w, Calls Tryd.prog 53 #[.int .u8 f] w fun e' w' => e' = .returned (.int .i64 (p : Nat)) ∧ Below w.heap.size w w') (cF : ∀ w, Tab w → Calls Tryd.prog 81 #[.int .u8 f, BV b] w fun e' w' => e' = .returned (.tuple #[.bool neg, .int .i64 (e : Nat), W t]) ∧ Below w.heap.size w w') (cC : ∀ w, Tab w → Calls Tryd.prog 60 #[.int .u8 f, BV b] w fun e' w' => e' = .returned (.int .u8 6) ∧ Below w.heap.size w w')  :
    Calls Tryd.prog 66 #[.int .u8 f, BV b] w fun e' w' => e' = .returned (.tuple #[PV 6 (t + 2 ^ (64 * 0 + s)) ((e : Int) - 1 + em - (p : Int) + 1) 0, .int .i64 0]) ∧ Below w.heap.size w w' := by
  have H := Own.start w
  have HT := Lib.hid hT
  clear hT
  have he1' : (1 : Int) ≤ (e : Int) := by omega
  have he2' : (e : Int) ≤ 32767 := by omega
  have hp2' : (p : Int) ≤ 113 := by omega
  have hp3' : (11 : Int) ≤ (p : Int) := by omega
  have HS := Lib.hid hs64
  have HTQ := Lib.hid htq
  have s64 : (s : Int) < 64 := by omega
  clear htq hs64
  go_enter Tryd.func66, Tryd.ntmps66
  exact walk7
theorem kindUnpack_1_1 (f b e t p : Nat) (em : Int) (neg : Bool) (w : World) (hT : Tab w) (s : Nat) (he : e ≤ 32767) (he1 : 1 ≤ e) (hs64 : s < 64) (htq : t < 2 ^ (64 * 1 + s)) (hqi : ((p : Int) - 1) / 64 = 1) (hqs : ((p : Int) - 1) % 64 = (s : Int)) (hp1 : 11 ≤ p) (hp : p ≤ 113) (hm1 : -16382 ≤ em) (hm2 : em ≤ 0) (cM : ∀ w, Calls Tryd.prog 73 #[.int .u8 f] w fun e w' => e = .returned (.int .i64 em) ∧ Below w.heap.size w w') (cT : ∀ w, Calls Tryd.prog 17 #[.int .u8 f, BV b] w fun e' w' => e' = .returned (.bool true) ∧ Below w.heap.size w w') (cP : ∀ w, Calls Tryd.prog 53 #[.int .u8 f] w fun e' w' => e' = .returned (.int .i64 (p : Nat)) ∧ Below w.heap.size w w') (cF : ∀ w, Tab w → Calls Tryd.prog 81 #[.int .u8 f, BV b] w fun e' w' => e' = .returned (.tuple #[.bool neg, .int .i64 (e : Nat), W t]) ∧ Below w.heap.size w w') (cC : ∀ w, Tab w → Calls Tryd.prog 60 #[.int .u8 f, BV b] w fun e' w' => e' = .returned (.int .u8 1) ∧ Below w.heap.size w w')  :
    Calls Tryd.prog 66 #[.int .u8 f, BV b] w fun e' w' => e' = .returned (.tuple #[PV 1 (t + 2 ^ (64 * 1 + s)) ((e : Int) - 1 + em - (p : Int) + 1) 0, .int .i64 0]) ∧ Below w.heap.size w w' := by
  have H := Own.start w
  have HT := Lib.hid hT
  clear hT
  have he1' : (1 : Int) ≤ (e : Int) := by omega
  have he2' : (e : Int) ≤ 32767 := by omega
  have hp2' : (p : Int) ≤ 113 := by omega
  have hp3' : (11 : Int) ≤ (p : Int) := by omega
  have HS := Lib.hid hs64
  have HTQ := Lib.hid htq
  have s64 : (s : Int) < 64 := by omega
  clear htq hs64
  go_enter Tryd.func66, Tryd.ntmps66
  exact walk8
theorem kindUnpack_6_1 (f b e t p : Nat) (em : Int) (neg : Bool) (w : World) (hT : Tab w) (s : Nat) (he : e ≤ 32767) (he1 : 1 ≤ e) (hs64 : s < 64) (htq : t < 2 ^ (64 * 1 + s)) (hqi : ((p : Int) - 1) / 64 = 1) (hqs : ((p : Int) - 1) % 64 = (s : Int)) (hp1 : 11 ≤ p) (hp : p ≤ 113) (hm1 : -16382 ≤ em) (hm2 : em ≤ 0) (cM : ∀ w, Calls Tryd.prog 73 #[.int .u8 f] w fun e w' => e = .returned (.int .i64 em) ∧ Below w.heap.size w w') (cT : ∀ w, Calls Tryd.prog 17 #[.int .u8 f, BV b] w fun e' w' => e' = .returned (.bool true) ∧ Below w.heap.size w w') (cP : ∀ w, Calls Tryd.prog 53 #[.int .u8 f] w fun e' w' => e' = .returned (.int .i64 (p : Nat)) ∧ Below w.heap.size w w') (cF : ∀ w, Tab w → Calls Tryd.prog 81 #[.int .u8 f, BV b] w fun e' w' => e' = .returned (.tuple #[.bool neg, .int .i64 (e : Nat), W t]) ∧ Below w.heap.size w w') (cC : ∀ w, Tab w → Calls Tryd.prog 60 #[.int .u8 f, BV b] w fun e' w' => e' = .returned (.int .u8 6) ∧ Below w.heap.size w w')  :
    Calls Tryd.prog 66 #[.int .u8 f, BV b] w fun e' w' => e' = .returned (.tuple #[PV 6 (t + 2 ^ (64 * 1 + s)) ((e : Int) - 1 + em - (p : Int) + 1) 0, .int .i64 0]) ∧ Below w.heap.size w w' := by
  have H := Own.start w
  have HT := Lib.hid hT
  clear hT
  have he1' : (1 : Int) ≤ (e : Int) := by omega
  have he2' : (e : Int) ≤ 32767 := by omega
  have hp2' : (p : Int) ≤ 113 := by omega
  have hp3' : (11 : Int) ≤ (p : Int) := by omega
  have HS := Lib.hid hs64
  have HTQ := Lib.hid htq
  have s64 : (s : Int) < 64 := by omega
  clear htq hs64
  go_enter Tryd.func66, Tryd.ntmps66
  exact walk8
open Go.RowKit
theorem ret_parts {c c' s s' f f' : Nat} {x x' : Int} {e : Ending} {P : Prop} (h1 : c = c') (h2 : s = s') (h3 : x = x') (h4 : f = f') (k : e = .returned (.tuple #[PV c s x f, .int .i64 0]) ∧ P) : e = .returned (.tuple #[PV c' s' x' f', .int .i64 0]) ∧ P := by
  subst h1 h2 h3 h4; exact k
theorem leadBit (f : Nat) (h : f < 4) : (((pF f : Int) - 1) / 64 = 0 ∧ ∃ s : Nat, s < 64 ∧ ((pF f : Int) - 1) % 64 = s ∧ pF f - 1 = 64 * 0 + s) ∨ (((pF f : Int) - 1) / 64 = 1 ∧ ∃ s : Nat, s < 64 ∧ ((pF f : Int) - 1) % 64 = s ∧ pF f - 1 = 64 * 1 + s) := by
  have : f = 0 ∨ f = 1 ∨ f = 2 ∨ f = 3 := by omega
  rcases this with rfl | rfl | rfl | rfl
  · left; exact ⟨by decide, 23, by decide, by decide, rfl⟩
  · left; exact ⟨by decide, 52, by decide, by decide, rfl⟩
  · left; exact ⟨by decide, 10, by decide, by decide, rfl⟩
  · right; exact ⟨by decide, 48, by decide, by decide, rfl⟩
theorem kindUnpack_yes (f b : Nat) (w : World) (h : fitsB f b = true) (hT : Tab w) :
    Calls Tryd.prog 66 #[.int .u8 f, BV b] w fun e w' => e = .returned (.tuple #[PV (clsN f b) (sigN f b) (xpN f b) (frN f b), .int .i64 0]) ∧ Below w.heap.size w w' := by
  obtain ⟨hf, hb0⟩ := (fits_iff f b).1 h
  obtain ⟨h1, h2, h3, h4, h5, h6, h7, h8⟩ := formK f hf
  have hb : b < 2 ^ (64 * 2) := Nat.lt_of_lt_of_le hb0 (Nat.pow_le_pow_right (by decide) (by have := (formB f hf).2.2.2.1; omega))
  have cT := fun w => shapeFits_any f b w hb
  rw [h] at cT
  have cP := fun w => shapePrecision_any f w (by omega)
  have cM := fun w => shapeEmin_any f w (by omega)
  have cF := fun w hT => kindFields_any f b w hf hb hT
  have cC := fun w hT => kindclass_any f b w hf hb hT
  have hx := expN_lt f b hf
  have ht := Nat.mod_lt b (two_pos (pF f - 1))
  rcases cls_cases f b with ⟨e1, e2, e3⟩ | ⟨e1, e2, e3⟩ | ⟨e1, e2, e3⟩ | ⟨e1, e2, e3⟩ | ⟨e1, e2, e3⟩
  · cases hn : negN f b
    · rw [hn] at e3
      simp only [e3, cond] at cC
      refine (kindUnpack_7 f b _ _ _ _ w hT cT cP cF cC).mono fun e w' k => ret_parts ?_ ?_ ?_ ?_ k
      · rw [e3]; rfl
      · unfold sigN; rw [e3]; rfl
      · unfold xpN; rw [e3]; rfl
      · unfold frN; rw [e3]; rfl
    · rw [hn] at e3
      simp only [e3, cond] at cC
      refine (kindUnpack_0 f b _ _ _ _ w hT cT cP cF cC).mono fun e w' k => ret_parts ?_ ?_ ?_ ?_ k
      · rw [e3]; rfl
      · unfold sigN; rw [e3]; rfl
      · unfold xpN; rw [e3]; rfl
      · unfold frN; rw [e3]; rfl
  · cases hn : (b % 2 ^ (pF f - 1)).testBit (pF f - 2)
    · rw [hn] at e3
      simp only [e3, cond] at cC
      refine (kindUnpack_8 f b _ _ _ _ w hT cT cP cF cC).mono fun e w' k => ret_parts ?_ ?_ ?_ ?_ k
      · rw [e3]; rfl
      · unfold sigN; rw [e3]; rfl
      · unfold xpN; rw [e3]; rfl
      · unfold frN; rw [e3]; rfl
    · rw [hn] at e3
      simp only [e3, cond] at cC
      refine (kindUnpack_9 f b _ _ _ _ w hT cT cP cF cC).mono fun e w' k => ret_parts ?_ ?_ ?_ ?_ k
      · rw [e3]; rfl
      · unfold sigN; rw [e3]; rfl
      · unfold xpN; rw [e3]; rfl
      · unfold frN; rw [e3]; rfl
  · cases hn : negN f b
    · rw [hn] at e3
      simp only [e3, cond] at cC
      refine (kindUnpack_4 f b _ _ _ _ w hT cT cP cF cC).mono fun e w' k => ret_parts ?_ ?_ ?_ ?_ k
      · rw [e3]; rfl
      · unfold sigN; rw [e3]; rfl
      · unfold xpN; rw [e3]; rfl
      · unfold frN; rw [e3]; rfl
    · rw [hn] at e3
      simp only [e3, cond] at cC
      refine (kindUnpack_3 f b _ _ _ _ w hT cT cP cF cC).mono fun e w' k => ret_parts ?_ ?_ ?_ ?_ k
      · rw [e3]; rfl
      · unfold sigN; rw [e3]; rfl
      · unfold xpN; rw [e3]; rfl
      · unfold frN; rw [e3]; rfl
  · cases hn : negN f b
    · rw [hn] at e3
      simp only [e3, cond] at cC
      refine (kindUnpack_5 f b _ _ _ _ _ w hT (by omega) h8 (by omega) (by omega) cM cT cP cF cC).mono fun e w' k => ret_parts ?_ ?_ ?_ ?_ k
      · rw [e3]; rfl
      · unfold sigN; rw [e3]; rfl
      · unfold xpN; rw [e3]; rfl
      · unfold frN; rw [e3]; rfl
    · rw [hn] at e3
      simp only [e3, cond] at cC
      refine (kindUnpack_2 f b _ _ _ _ _ w hT (by omega) h8 (by omega) (by omega) cM cT cP cF cC).mono fun e w' k => ret_parts ?_ ?_ ?_ ?_ k
      · rw [e3]; rfl
      · unfold sigN; rw [e3]; rfl
      · unfold xpN; rw [e3]; rfl
      · unfold frN; rw [e3]; rfl
  · cases hn : negN f b
    · rw [hn] at e3
      simp only [e3, cond] at cC
      rcases leadBit f hf with ⟨q1, s, q2, q3, q4⟩ | ⟨q1, s, q2, q3, q4⟩
      · refine (kindUnpack_6_0 f b _ _ _ _ _ w hT s (by omega) (by omega) q2 (by rw [← q4]; exact ht) q1 q3 h7 h8 (by omega) (by omega) cM cT cP cF cC).mono fun e w' k => ret_parts ?_ ?_ ?_ ?_ k
        · rw [e3]; rfl
        · unfold sigN; rw [e3, ← q4]; rfl
        · unfold xpN; rw [e3]; rfl
        · unfold frN; rw [e3]; rfl
      · refine (kindUnpack_6_1 f b _ _ _ _ _ w hT s (by omega) (by omega) q2 (by rw [← q4]; exact ht) q1 q3 h7 h8 (by omega) (by omega) cM cT cP cF cC).mono fun e w' k => ret_parts ?_ ?_ ?_ ?_ k
        · rw [e3]; rfl
        · unfold sigN; rw [e3, ← q4]; rfl
        · unfold xpN; rw [e3]; rfl
        · unfold frN; rw [e3]; rfl
    · rw [hn] at e3
      simp only [e3, cond] at cC
      rcases leadBit f hf with ⟨q1, s, q2, q3, q4⟩ | ⟨q1, s, q2, q3, q4⟩
      · refine (kindUnpack_1_0 f b _ _ _ _ _ w hT s (by omega) (by omega) q2 (by rw [← q4]; exact ht) q1 q3 h7 h8 (by omega) (by omega) cM cT cP cF cC).mono fun e w' k => ret_parts ?_ ?_ ?_ ?_ k
        · rw [e3]; rfl
        · unfold sigN; rw [e3, ← q4]; rfl
        · unfold xpN; rw [e3]; rfl
        · unfold frN; rw [e3]; rfl
      · refine (kindUnpack_1_1 f b _ _ _ _ _ w hT s (by omega) (by omega) q2 (by rw [← q4]; exact ht) q1 q3 h7 h8 (by omega) (by omega) cM cT cP cF cC).mono fun e w' k => ret_parts ?_ ?_ ?_ ?_ k
        · rw [e3]; rfl
        · unfold sigN; rw [e3, ← q4]; rfl
        · unfold xpN; rw [e3]; rfl
        · unfold frN; rw [e3]; rfl
theorem kindUnpack_not (f b : Nat) (w : World) (hb : b < 2 ^ (64 * 2)) (h : fitsB f b = false) :
    Calls Tryd.prog 66 #[.int .u8 f, BV b] w fun e w' => e = .returned (.tuple #[PV 0 0 0 0, .int .i64 2]) ∧ Below w.heap.size w w' := by
  have cT := fun w => shapeFits_any f b w hb
  rw [h] at cT
  exact kindUnpack_no f b w cT
open Go.RowKit
theorem limbs_mod6 (a : Nat) : limbs (a % 2 ^ (64 * 6)) = limbs a := by
  have := limbs_mod a
  unfold top6 at this
  exact this
theorem put_sum (a b k : Nat) (cb : Bool) (hk : k < 6) (h : cbit a b k = cb) : (limbs ((a + b) % 2 ^ (64 * k))).setIfInBounds k (.int .u64 (addW (limb a k) (limb b k) cb)) = limbs ((a + b) % 2 ^ (64 * (k + 1))) := by
  unfold limb
  rw [addW_nat, limbs_put _ _ k hk (Nat.mod_lt _ (pw_pos k)) (Nat.mod_lt _ (by decide)), sum_step, h]
theorem car_sum (a b k : Nat) (cb : Bool) (h : cbit a b k = cb) : cbit a b (k + 1) = carW (limb a k) (limb b k) cb := by
  unfold limb
  rw [carW_nat, cbit_step, h]
theorem wideAdd_any (a b : Nat) (w : World) :
    Calls Tryd.prog 36 #[W a, W b] w fun e w' => e = .returned (.tuple #[W (a + b), .bool (cbit a b 6)]) ∧ Below w.heap.size w w' := by
  have sa := limbs_size a
  have sb := limbs_size b
  go_enter Tryd.func36, Tryd.ntmps36
  go_wp2_with fail
  go_loopw [5, 7] (fun c i wr => ∃ (k : Nat) (cb : Bool), k ≤ 6 ∧ i = .int .i64 k ∧ c = .bool cb ∧ Hid (cbit a b k = cb) ∧
      Blk 46 wr w.heap.size (limbs a) ∧ Blk 46 wr (w.heap.size + 1) (limbs b) ∧
      Blk 46 wr (w.heap.size + 1 + 1) (limbs ((a + b) % 2 ^ (64 * k))) ∧ Below w.heap.size w wr) (fun _ i _ => 6 - (intOf i).toNat)
  case atStart =>
    refine ⟨0, false, by omega, rfl, rfl, cbit_zero a b, ((Blk.new w _).alloc _).alloc _, ?_, ?_, ((((Below.refl _ _).alloc (Nat.le_refl _) _).alloc (by simp) _).alloc (by simp <;> omega) _)⟩
    · have := (Blk.new (T := 46) (w.alloc (.cells (limbs a) 46)) (limbs b)).alloc (.cells #[.int .u64 0, .int .u64 0, .int .u64 0, .int .u64 0, .int .u64 0, .int .u64 0] 46)
      simpa using this
    · have := Blk.new (T := 46) ((w.alloc (.cells (limbs a) 46)).alloc (.cells (limbs b) 46)) #[.int .u64 0, .int .u64 0, .int .u64 0, .int .u64 0, .int .u64 0, .int .u64 0]
      rw [show (a + b) % 2 ^ (64 * 0) = 0 from Nat.mod_one _, limbs_zero]
      simpa using this
  case round =>
    obtain ⟨k, cb, hk, rfl, rfl, hc, ha, hb, hs, hbel⟩ := hrel
    by_cases hlt : k < 6
    · have ca := ha.cell k (limbs_get a k hlt)
      have cb' := hb.cell k (limbs_get b k hlt)
      have cs := hs.cell k (limbs_get _ k hlt)
      have fs := hs.free k
      go_wp2_with fail
      go_region_with (go_at_call 70; refine (wordAdd_any _ _ _ _ (limb_w a k) (limb_w b k)).mono ?_; rintro e w' ⟨rfl, rfl⟩)
      all_goals go_wp2
      all_goals
        go_roundw
        case rel => exact ⟨k + 1, _, by omega, by go_num, rfl, car_sum a b k cb hc.out, (ha.other _ _ (by simp; omega)).drew, (hb.other _ _ (by simp)).drew, (hs.set k _ (put_sum a b k cb (by omega) hc.out)).drew, (hbel.setCell (by simp; omega) _).drew⟩
        case measure => simp [intOf]; omega
    · have : k = 6 := by omega
      subst this
      rw [limbs_mod6] at hs
      have c0 := hs.cell 0 (limbs_get _ 0 (by decide))
      have c1 := hs.cell 1 (limbs_get _ 1 (by decide))
      have c2 := hs.cell 2 (limbs_get _ 2 (by decide))
      have c3 := hs.cell 3 (limbs_get _ 3 (by decide))
      have c4 := hs.cell 4 (limbs_get _ 4 (by decide))
      have c5 := hs.cell 5 (limbs_get _ 5 (by decide))
      have f0 := hs.free 0
      have f1 := hs.free 1
      have f2 := hs.free 2
      have f3 := hs.free 3
      have f4 := hs.free 4
      have f5 := hs.free 5
      clear ha hb hlt
      go_wp2_with fail
      rw [hs.keep 0 _ (limbs_get _ 0 (by decide)), hs.keep 1 _ (limbs_get _ 1 (by decide)), hs.keep 2 _ (limbs_get _ 2 (by decide)), hs.keep 3 _ (limbs_get _ 3 (by decide)), hs.keep 4 _ (limbs_get _ 4 (by decide)), hs.keep 5 _ (limbs_get _ 5 (by decide))]
      refine bodyPost_ret (v := .tuple #[W (a + b), .bool cb]) (by simp [results, Tryd.results36, go_sem, c0, c1, c2, c3, c4, c5, limbs]) rfl ⟨by rw [hc.out], hbel⟩
open Go.RowKit
theorem set_limbs (a b : Nat) : setRow (limbs a) 0 (limbs b).toList = limbs b := set_all _ _ rfl
theorem wideOf_1 (w : World) : Calls Tryd.prog 77 #[.int .u64 1] w fun e w' => e = .returned (W 1) ∧ Below w.heap.size w w' := wideOf_any 1 w (by decide)
theorem roundGrid_up (m s k : Nat) (e at_ n : Int) (neg mo lo : Bool) (w : World) (hT : Tab w) (h1 : -2000000 ≤ e) (h2 : e ≤ 2000000) (h3 : -2000000 ≤ at_) (h4 : at_ ≤ 2000000) (hn : at_ - e = n) (hn0 : n ≤ 0) (cL : ∀ w, Calls Tryd.prog 33 #[W s, .int .i64 (-n)] w fun e w' => e = .returned (.tuple #[W k, .bool lo]) ∧ Below w.heap.size w w') :
    Calls Tryd.prog 75 #[.int .u8 m, RV neg s e mo, .int .i64 at_] w fun e w' => e = .returned (.tuple #[W k, .bool (!mo)]) ∧ Below w.heap.size w w' := by
  have H := Own.start w
  have HT := Lib.hid hT
  clear hT
  go_enter Tryd.func75, Tryd.ntmps75
  exact walk2
theorem roundGrid_f_t (m s k : Nat) (e at_ n : Int) (half : Int) (neg ex : Bool) (w : World) (hT : Tab w) (h1 : -2000000 ≤ e) (h2 : e ≤ 2000000) (h3 : -2000000 ≤ at_) (h4 : at_ ≤ 2000000) (hn : at_ - e = n) (hn0 : 0 < n) (cC : ∀ w, Tab w → Calls Tryd.prog 93 #[W s, .int .i64 n] w fun e w' => e = .returned (.tuple #[W k, .int .i64 half, .bool ex]) ∧ Below w.heap.size w w') (cR : ∀ w, Calls Tryd.prog 94 #[.int .u8 m, .bool neg, .bool (Go.bits .and .u64 (limb k 0) 1 == 1), .int .i64 half, .bool ex] w fun e w' => e = .returned (.bool true) ∧ w = w') :
    Calls Tryd.prog 75 #[.int .u8 m, RV neg s e false, .int .i64 at_] w fun e w' => e = .returned (.tuple #[W (k + 1), .bool ex]) ∧ Below w.heap.size w w' := by
  have H := Own.start w
  have HT := Lib.hid hT
  clear hT
  have n0 : ¬ n ≤ 0 := by omega
  go_enter Tryd.func75, Tryd.ntmps75
  exact walk2
theorem roundGrid_f_f (m s k : Nat) (e at_ n : Int) (half : Int) (neg ex : Bool) (w : World) (hT : Tab w) (h1 : -2000000 ≤ e) (h2 : e ≤ 2000000) (h3 : -2000000 ≤ at_) (h4 : at_ ≤ 2000000) (hn : at_ - e = n) (hn0 : 0 < n) (cC : ∀ w, Tab w → Calls Tryd.prog 93 #[W s, .int .i64 n] w fun e w' => e = .returned (.tuple #[W k, .int .i64 half, .bool ex]) ∧ Below w.heap.size w w') (cR : ∀ w, Calls Tryd.prog 94 #[.int .u8 m, .bool neg, .bool (Go.bits .and .u64 (limb k 0) 1 == 1), .int .i64 half, .bool ex] w fun e w' => e = .returned (.bool false) ∧ w = w') :
    Calls Tryd.prog 75 #[.int .u8 m, RV neg s e false, .int .i64 at_] w fun e w' => e = .returned (.tuple #[W k, .bool ex]) ∧ Below w.heap.size w w' := by
  have H := Own.start w
  have HT := Lib.hid hT
  clear hT
  have n0 : ¬ n ≤ 0 := by omega
  go_enter Tryd.func75, Tryd.ntmps75
  exact walk7
theorem roundGrid_tz_t (m s k : Nat) (e at_ n : Int) (half : Int) (neg ex : Bool) (w : World) (hT : Tab w) (h1 : -2000000 ≤ e) (h2 : e ≤ 2000000) (h3 : -2000000 ≤ at_) (h4 : at_ ≤ 2000000) (hn : at_ - e = n) (hn0 : 0 < n) (hz : (half == 0) = true) (cC : ∀ w, Tab w → Calls Tryd.prog 93 #[W s, .int .i64 n] w fun e w' => e = .returned (.tuple #[W k, .int .i64 half, .bool ex]) ∧ Below w.heap.size w w') (cR : ∀ w, Calls Tryd.prog 94 #[.int .u8 m, .bool neg, .bool (Go.bits .and .u64 (limb k 0) 1 == 1), .int .i64 1, .bool false] w fun e w' => e = .returned (.bool true) ∧ w = w') :
    Calls Tryd.prog 75 #[.int .u8 m, RV neg s e true, .int .i64 at_] w fun e w' => e = .returned (.tuple #[W (k + 1), .bool false]) ∧ Below w.heap.size w w' := by
  have H := Own.start w
  have HT := Lib.hid hT
  clear hT
  have n0 : ¬ n ≤ 0 := by omega
  go_enter Tryd.func75, Tryd.ntmps75
  exact walk2
theorem roundGrid_tz_f (m s k : Nat) (e at_ n : Int) (half : Int) (neg ex : Bool) (w : World) (hT : Tab w) (h1 : -2000000 ≤ e) (h2 : e ≤ 2000000) (h3 : -2000000 ≤ at_) (h4 : at_ ≤ 2000000) (hn : at_ - e = n) (hn0 : 0 < n) (hz : (half == 0) = true) (cC : ∀ w, Tab w → Calls Tryd.prog 93 #[W s, .int .i64 n] w fun e w' => e = .returned (.tuple #[W k, .int .i64 half, .bool ex]) ∧ Below w.heap.size w w') (cR : ∀ w, Calls Tryd.prog 94 #[.int .u8 m, .bool neg, .bool (Go.bits .and .u64 (limb k 0) 1 == 1), .int .i64 1, .bool false] w fun e w' => e = .returned (.bool false) ∧ w = w') :
    Calls Tryd.prog 75 #[.int .u8 m, RV neg s e true, .int .i64 at_] w fun e w' => e = .returned (.tuple #[W k, .bool false]) ∧ Below w.heap.size w w' := by
  have H := Own.start w
  have HT := Lib.hid hT
  clear hT
  have n0 : ¬ n ≤ 0 := by omega
  go_enter Tryd.func75, Tryd.ntmps75
  exact walk7
theorem roundGrid_tn_t (m s k : Nat) (e at_ n : Int) (half : Int) (neg ex : Bool) (w : World) (hT : Tab w) (h1 : -2000000 ≤ e) (h2 : e ≤ 2000000) (h3 : -2000000 ≤ at_) (h4 : at_ ≤ 2000000) (hn : at_ - e = n) (hn0 : 0 < n) (hz : (half == 0) = false) (cC : ∀ w, Tab w → Calls Tryd.prog 93 #[W s, .int .i64 n] w fun e w' => e = .returned (.tuple #[W k, .int .i64 half, .bool ex]) ∧ Below w.heap.size w w') (cR : ∀ w, Calls Tryd.prog 94 #[.int .u8 m, .bool neg, .bool (Go.bits .and .u64 (limb k 0) 1 == 1), .int .i64 half, .bool false] w fun e w' => e = .returned (.bool true) ∧ w = w') :
    Calls Tryd.prog 75 #[.int .u8 m, RV neg s e true, .int .i64 at_] w fun e w' => e = .returned (.tuple #[W (k + 1), .bool false]) ∧ Below w.heap.size w w' := by
  have H := Own.start w
  have HT := Lib.hid hT
  clear hT
  have n0 : ¬ n ≤ 0 := by omega
  go_enter Tryd.func75, Tryd.ntmps75
  exact walk2
theorem roundGrid_tn_f (m s k : Nat) (e at_ n : Int) (half : Int) (neg ex : Bool) (w : World) (hT : Tab w) (h1 : -2000000 ≤ e) (h2 : e ≤ 2000000) (h3 : -2000000 ≤ at_) (h4 : at_ ≤ 2000000) (hn : at_ - e = n) (hn0 : 0 < n) (hz : (half == 0) = false) (cC : ∀ w, Tab w → Calls Tryd.prog 93 #[W s, .int .i64 n] w fun e w' => e = .returned (.tuple #[W k, .int .i64 half, .bool ex]) ∧ Below w.heap.size w w') (cR : ∀ w, Calls Tryd.prog 94 #[.int .u8 m, .bool neg, .bool (Go.bits .and .u64 (limb k 0) 1 == 1), .int .i64 half, .bool false] w fun e w' => e = .returned (.bool false) ∧ w = w') :
    Calls Tryd.prog 75 #[.int .u8 m, RV neg s e true, .int .i64 at_] w fun e w' => e = .returned (.tuple #[W k, .bool false]) ∧ Below w.heap.size w w' := by
  have H := Own.start w
  have HT := Lib.hid hT
  clear hT
  have n0 : ¬ n ≤ 0 := by omega
  go_enter Tryd.func75, Tryd.ntmps75
  exact walk7
open Go.RowKit
theorem shapeGreatest_0 (neg : Bool) (w : World) :
    Calls Tryd.prog 92 #[.int .u8 0, .bool neg] w fun e w' => e = .returned (BV (greatN 0 neg)) ∧ Below w.heap.size w w' := by
  have H := Own.start w
  have cI : ∀ w, Calls Tryd.prog 13 #[.int .u8 0, .bool false] w fun e w' => e = .returned (.agg #[.int .u64 0, .int .u64 2139095040]) ∧ Below w.heap.size w w' := fun w => shapeInf_any 0 false w (by decide)
  have cW : ∀ w, Calls Tryd.prog 41 #[.int .u8 0, .agg #[.int .u64 0, .int .u64 2139095039], .bool neg] w fun e w' => e = .returned (BV (greatN 0 neg)) ∧ Below w.heap.size w w' := by
    intro w
    have := shapeWith_any 0 2139095039 neg w (by decide)
    rw [or_sign 0 2139095039 neg (by decide)] at this
    exact this
  have cC : ∀ w, Calls Tryd.prog 16 #[.int .u8 0] w fun e w' => e = .returned (.int .i64 0) ∧ w = w' := fun w => shapeCheck_any 0 w (by decide)
  have cN : ∀ w, Calls Tryd.prog 26 #[.int .u8 0] w fun e w' => e = .returned (.int .i64 32) ∧ Below w.heap.size w w' := fun w => shapeWidth_any 0 w (by decide)
  go_enter Tryd.func92, Tryd.ntmps92
  go_wp2_with (first
    | ((with_reducible show wpList _ _ _ (⟨_, .box _ _, _, _, _, _⟩ :: _) _ _); refine H.box rfl rfl (cells_agg _) ?_; (intro g w H; simp only [Act.put, q1_, q2_, q3_, List.set_nil]))
    | ((with_reducible show wpList _ _ _ (⟨_, .alloc 26, _, _, _, _⟩ :: _) _ _); refine H.new rfl (T := 26) rfl tB_z (cells_agg _) ?_; (intro g w H; simp only [Act.put, q1_, q2_, q3_, List.set_nil]))
    | ((with_reducible show wpList _ _ _ (⟨_, .alloc 24, _, _, _, _⟩ :: _) _ _); refine H.new rfl (T := 24) rfl tu_z (cells_int _ _) ?_; (intro g w H; simp only [Act.put, q1_, q2_, q3_, List.set_nil]))
    | ((with_reducible show wpList _ _ _ (⟨_, .load 26 _, _, _, _, _⟩ :: _) _ _); (first | refine H.load rfl (ty := 26) rfl rfl 0 rfl Tryd.underlying26 rfl (by with_reducible exact ext_2 _ _) (by exact tB_s) ?_ | refine H.load rfl (ty := 26) rfl rfl 1 rfl Tryd.underlying26 rfl (by with_reducible exact ext_2 _ _) (by exact tB_s) ?_); simp only [Act.put, q1_, q2_, q3_, List.set_nil])
    | ((with_reducible show wpList _ _ _ (⟨_, .load 24 _, _, _, _, _⟩ :: _) _ _); (first | refine H.load1 rfl (ty := 24) rfl rfl 0 rfl Tryd.underlying24 rfl (by with_reducible exact get_20 _ _) ?_ | refine H.load1 rfl (ty := 24) rfl rfl 0 rfl Tryd.underlying24 rfl (by with_reducible exact get_21 _ _) ?_ | refine H.load1 rfl (ty := 24) rfl rfl 0 rfl Tryd.underlying24 rfl (by with_reducible exact limbs_o0 _) ?_ | refine H.load1 rfl (ty := 24) rfl rfl 0 rfl Tryd.underlying24 rfl (by with_reducible exact limbs_o1 _) ?_ | refine H.load1 rfl (ty := 24) rfl rfl 0 rfl Tryd.underlying24 rfl (by with_reducible exact limbs_o2 _) ?_ | refine H.load1 rfl (ty := 24) rfl rfl 0 rfl Tryd.underlying24 rfl (by with_reducible exact limbs_o3 _) ?_ | refine H.load1 rfl (ty := 24) rfl rfl 0 rfl Tryd.underlying24 rfl (by with_reducible exact limbs_o4 _) ?_ | refine H.load1 rfl (ty := 24) rfl rfl 0 rfl Tryd.underlying24 rfl (by with_reducible exact limbs_o5 _) ?_ | refine H.load1 rfl (ty := 24) rfl rfl 0 rfl Tryd.underlying24 rfl (by with_reducible exact get_10 _) ?_ | refine H.load1 rfl (ty := 24) rfl rfl 1 rfl Tryd.underlying24 rfl (by with_reducible exact get_20 _ _) ?_ | refine H.load1 rfl (ty := 24) rfl rfl 1 rfl Tryd.underlying24 rfl (by with_reducible exact get_21 _ _) ?_ | refine H.load1 rfl (ty := 24) rfl rfl 1 rfl Tryd.underlying24 rfl (by with_reducible exact limbs_o0 _) ?_ | refine H.load1 rfl (ty := 24) rfl rfl 1 rfl Tryd.underlying24 rfl (by with_reducible exact limbs_o1 _) ?_ | refine H.load1 rfl (ty := 24) rfl rfl 1 rfl Tryd.underlying24 rfl (by with_reducible exact limbs_o2 _) ?_ | refine H.load1 rfl (ty := 24) rfl rfl 1 rfl Tryd.underlying24 rfl (by with_reducible exact limbs_o3 _) ?_ | refine H.load1 rfl (ty := 24) rfl rfl 1 rfl Tryd.underlying24 rfl (by with_reducible exact limbs_o4 _) ?_ | refine H.load1 rfl (ty := 24) rfl rfl 1 rfl Tryd.underlying24 rfl (by with_reducible exact limbs_o5 _) ?_ | refine H.load1 rfl (ty := 24) rfl rfl 1 rfl Tryd.underlying24 rfl (by with_reducible exact get_10 _) ?_); simp only [Act.put, q1_, q2_, q3_, List.set_nil])
    | ((with_reducible show wpList _ _ _ (⟨_, .store 26 _ _, _, _, _, _⟩ :: _) _ _); (first | refine H.store rfl (ty := 26) rfl rfl (cells_agg _) 0 rfl v2_ (by exact tB_s) (one_of rfl) (ble_le rfl) ?_ | refine H.store rfl (ty := 26) rfl rfl (cells_agg _) 1 rfl v2_ (by exact tB_s) (one_of rfl) (ble_le rfl) ?_); (intro w H; simp only [q2_, q3_] at H; simp only [Act.put, q1_, q2_, q3_, List.set_nil]))
    | ((with_reducible show wpList _ _ _ (⟨_, .store 24 _ _, _, _, _, _⟩ :: _) _ _); (first | refine H.store rfl (ty := 24) rfl rfl (cells_int _ _) 0 rfl (by with_reducible exact set_20 _ _ _) (by exact tu_s) (one_of rfl) (ble_le rfl) ?_ | refine H.store rfl (ty := 24) rfl rfl (cells_int _ _) 0 rfl (by with_reducible exact set_21 _ _ _) (by exact tu_s) (one_of rfl) (ble_le rfl) ?_ | refine H.store rfl (ty := 24) rfl rfl (cells_int _ _) 0 rfl (by with_reducible exact set_10 _ _) (by exact tu_s) (one_of rfl) (ble_le rfl) ?_ | refine H.store rfl (ty := 24) rfl rfl (cells_int _ _) 1 rfl (by with_reducible exact set_20 _ _ _) (by exact tu_s) (one_of rfl) (ble_le rfl) ?_ | refine H.store rfl (ty := 24) rfl rfl (cells_int _ _) 1 rfl (by with_reducible exact set_21 _ _ _) (by exact tu_s) (one_of rfl) (ble_le rfl) ?_ | refine H.store rfl (ty := 24) rfl rfl (cells_int _ _) 1 rfl (by with_reducible exact set_10 _ _) (by exact tu_s) (one_of rfl) (ble_le rfl) ?_); (intro w H; simp only [q2_, q3_] at H; simp only [Act.put, q1_, q2_, q3_, List.set_nil]))
    | (go_at_call 13; ((with_reducible refine (cI _).mono ?_); rintro e w ⟨rfl, hb⟩; replace H := H.call hb; clear hb))
    | (go_at_call 16; ((with_reducible refine (cC _).mono ?_); rintro e w' ⟨rfl, rfl⟩))
    | (go_at_call 26; ((with_reducible refine (cN _).mono ?_); rintro e w ⟨rfl, hb⟩; replace H := H.call hb; clear hb))
    | (go_at_call 41; ((with_reducible refine (cW _).mono ?_); rintro e w ⟨rfl, hb⟩; replace H := H.call hb; clear hb))
    )
  (first | refine bodyPost_ret (results_c rfl rfl (H.result 0 rfl Tryd.underlying26 rfl (by exact tB_s) (ext_2 _ _))) rfl ⟨?_, H.below⟩ | refine bodyPost_ret (results_c rfl rfl (H.result 1 rfl Tryd.underlying26 rfl (by exact tB_s) (ext_2 _ _))) rfl ⟨?_, H.below⟩)
  exact rfl
theorem shapeGreatest_1 (neg : Bool) (w : World) :
    Calls Tryd.prog 92 #[.int .u8 1, .bool neg] w fun e w' => e = .returned (BV (greatN 1 neg)) ∧ Below w.heap.size w w' := by
  have H := Own.start w
  have cI : ∀ w, Calls Tryd.prog 13 #[.int .u8 1, .bool false] w fun e w' => e = .returned (.agg #[.int .u64 0, .int .u64 9218868437227405312]) ∧ Below w.heap.size w w' := fun w => shapeInf_any 1 false w (by decide)
  have cW : ∀ w, Calls Tryd.prog 41 #[.int .u8 1, .agg #[.int .u64 0, .int .u64 9218868437227405311], .bool neg] w fun e w' => e = .returned (BV (greatN 1 neg)) ∧ Below w.heap.size w w' := by
    intro w
    have := shapeWith_any 1 9218868437227405311 neg w (by decide)
    rw [or_sign 1 9218868437227405311 neg (by decide)] at this
    exact this
  have cC : ∀ w, Calls Tryd.prog 16 #[.int .u8 1] w fun e w' => e = .returned (.int .i64 0) ∧ w = w' := fun w => shapeCheck_any 1 w (by decide)
  have cN : ∀ w, Calls Tryd.prog 26 #[.int .u8 1] w fun e w' => e = .returned (.int .i64 64) ∧ Below w.heap.size w w' := fun w => shapeWidth_any 1 w (by decide)
  go_enter Tryd.func92, Tryd.ntmps92
  go_wp2_with (first
    | ((with_reducible show wpList _ _ _ (⟨_, .box _ _, _, _, _, _⟩ :: _) _ _); refine H.box rfl rfl (cells_agg _) ?_; (intro g w H; simp only [Act.put, q1_, q2_, q3_, List.set_nil]))
    | ((with_reducible show wpList _ _ _ (⟨_, .alloc 26, _, _, _, _⟩ :: _) _ _); refine H.new rfl (T := 26) rfl tB_z (cells_agg _) ?_; (intro g w H; simp only [Act.put, q1_, q2_, q3_, List.set_nil]))
    | ((with_reducible show wpList _ _ _ (⟨_, .alloc 24, _, _, _, _⟩ :: _) _ _); refine H.new rfl (T := 24) rfl tu_z (cells_int _ _) ?_; (intro g w H; simp only [Act.put, q1_, q2_, q3_, List.set_nil]))
    | ((with_reducible show wpList _ _ _ (⟨_, .load 26 _, _, _, _, _⟩ :: _) _ _); (first | refine H.load rfl (ty := 26) rfl rfl 0 rfl Tryd.underlying26 rfl (by with_reducible exact ext_2 _ _) (by exact tB_s) ?_ | refine H.load rfl (ty := 26) rfl rfl 1 rfl Tryd.underlying26 rfl (by with_reducible exact ext_2 _ _) (by exact tB_s) ?_); simp only [Act.put, q1_, q2_, q3_, List.set_nil])
    | ((with_reducible show wpList _ _ _ (⟨_, .load 24 _, _, _, _, _⟩ :: _) _ _); (first | refine H.load1 rfl (ty := 24) rfl rfl 0 rfl Tryd.underlying24 rfl (by with_reducible exact get_20 _ _) ?_ | refine H.load1 rfl (ty := 24) rfl rfl 0 rfl Tryd.underlying24 rfl (by with_reducible exact get_21 _ _) ?_ | refine H.load1 rfl (ty := 24) rfl rfl 0 rfl Tryd.underlying24 rfl (by with_reducible exact limbs_o0 _) ?_ | refine H.load1 rfl (ty := 24) rfl rfl 0 rfl Tryd.underlying24 rfl (by with_reducible exact limbs_o1 _) ?_ | refine H.load1 rfl (ty := 24) rfl rfl 0 rfl Tryd.underlying24 rfl (by with_reducible exact limbs_o2 _) ?_ | refine H.load1 rfl (ty := 24) rfl rfl 0 rfl Tryd.underlying24 rfl (by with_reducible exact limbs_o3 _) ?_ | refine H.load1 rfl (ty := 24) rfl rfl 0 rfl Tryd.underlying24 rfl (by with_reducible exact limbs_o4 _) ?_ | refine H.load1 rfl (ty := 24) rfl rfl 0 rfl Tryd.underlying24 rfl (by with_reducible exact limbs_o5 _) ?_ | refine H.load1 rfl (ty := 24) rfl rfl 0 rfl Tryd.underlying24 rfl (by with_reducible exact get_10 _) ?_ | refine H.load1 rfl (ty := 24) rfl rfl 1 rfl Tryd.underlying24 rfl (by with_reducible exact get_20 _ _) ?_ | refine H.load1 rfl (ty := 24) rfl rfl 1 rfl Tryd.underlying24 rfl (by with_reducible exact get_21 _ _) ?_ | refine H.load1 rfl (ty := 24) rfl rfl 1 rfl Tryd.underlying24 rfl (by with_reducible exact limbs_o0 _) ?_ | refine H.load1 rfl (ty := 24) rfl rfl 1 rfl Tryd.underlying24 rfl (by with_reducible exact limbs_o1 _) ?_ | refine H.load1 rfl (ty := 24) rfl rfl 1 rfl Tryd.underlying24 rfl (by with_reducible exact limbs_o2 _) ?_ | refine H.load1 rfl (ty := 24) rfl rfl 1 rfl Tryd.underlying24 rfl (by with_reducible exact limbs_o3 _) ?_ | refine H.load1 rfl (ty := 24) rfl rfl 1 rfl Tryd.underlying24 rfl (by with_reducible exact limbs_o4 _) ?_ | refine H.load1 rfl (ty := 24) rfl rfl 1 rfl Tryd.underlying24 rfl (by with_reducible exact limbs_o5 _) ?_ | refine H.load1 rfl (ty := 24) rfl rfl 1 rfl Tryd.underlying24 rfl (by with_reducible exact get_10 _) ?_); simp only [Act.put, q1_, q2_, q3_, List.set_nil])
    | ((with_reducible show wpList _ _ _ (⟨_, .store 26 _ _, _, _, _, _⟩ :: _) _ _); (first | refine H.store rfl (ty := 26) rfl rfl (cells_agg _) 0 rfl v2_ (by exact tB_s) (one_of rfl) (ble_le rfl) ?_ | refine H.store rfl (ty := 26) rfl rfl (cells_agg _) 1 rfl v2_ (by exact tB_s) (one_of rfl) (ble_le rfl) ?_); (intro w H; simp only [q2_, q3_] at H; simp only [Act.put, q1_, q2_, q3_, List.set_nil]))
    | ((with_reducible show wpList _ _ _ (⟨_, .store 24 _ _, _, _, _, _⟩ :: _) _ _); (first | refine H.store rfl (ty := 24) rfl rfl (cells_int _ _) 0 rfl (by with_reducible exact set_20 _ _ _) (by exact tu_s) (one_of rfl) (ble_le rfl) ?_ | refine H.store rfl (ty := 24) rfl rfl (cells_int _ _) 0 rfl (by with_reducible exact set_21 _ _ _) (by exact tu_s) (one_of rfl) (ble_le rfl) ?_ | refine H.store rfl (ty := 24) rfl rfl (cells_int _ _) 0 rfl (by with_reducible exact set_10 _ _) (by exact tu_s) (one_of rfl) (ble_le rfl) ?_ | refine H.store rfl (ty := 24) rfl rfl (cells_int _ _) 1 rfl (by with_reducible exact set_20 _ _ _) (by exact tu_s) (one_of rfl) (ble_le rfl) ?_ | refine H.store rfl (ty := 24) rfl rfl (cells_int _ _) 1 rfl (by with_reducible exact set_21 _ _ _) (by exact tu_s) (one_of rfl) (ble_le rfl) ?_ | refine H.store rfl (ty := 24) rfl rfl (cells_int _ _) 1 rfl (by with_reducible exact set_10 _ _) (by exact tu_s) (one_of rfl) (ble_le rfl) ?_); (intro w H; simp only [q2_, q3_] at H; simp only [Act.put, q1_, q2_, q3_, List.set_nil]))
    | (go_at_call 13; ((with_reducible refine (cI _).mono ?_); rintro e w ⟨rfl, hb⟩; replace H := H.call hb; clear hb))
    | (go_at_call 16; ((with_reducible refine (cC _).mono ?_); rintro e w' ⟨rfl, rfl⟩))
    | (go_at_call 26; ((with_reducible refine (cN _).mono ?_); rintro e w ⟨rfl, hb⟩; replace H := H.call hb; clear hb))
    | (go_at_call 41; ((with_reducible refine (cW _).mono ?_); rintro e w ⟨rfl, hb⟩; replace H := H.call hb; clear hb))
    )
  (first | refine bodyPost_ret (results_c rfl rfl (H.result 0 rfl Tryd.underlying26 rfl (by exact tB_s) (ext_2 _ _))) rfl ⟨?_, H.below⟩ | refine bodyPost_ret (results_c rfl rfl (H.result 1 rfl Tryd.underlying26 rfl (by exact tB_s) (ext_2 _ _))) rfl ⟨?_, H.below⟩)
  exact rfl
theorem shapeGreatest_2 (neg : Bool) (w : World) :
    Calls Tryd.prog 92 #[.int .u8 2, .bool neg] w fun e w' => e = .returned (BV (greatN 2 neg)) ∧ Below w.heap.size w w' := by
  have H := Own.start w
  have cI : ∀ w, Calls Tryd.prog 13 #[.int .u8 2, .bool false] w fun e w' => e = .returned (.agg #[.int .u64 0, .int .u64 31744]) ∧ Below w.heap.size w w' := fun w => shapeInf_any 2 false w (by decide)
  have cW : ∀ w, Calls Tryd.prog 41 #[.int .u8 2, .agg #[.int .u64 0, .int .u64 31743], .bool neg] w fun e w' => e = .returned (BV (greatN 2 neg)) ∧ Below w.heap.size w w' := by
    intro w
    have := shapeWith_any 2 31743 neg w (by decide)
    rw [or_sign 2 31743 neg (by decide)] at this
    exact this
  have cC : ∀ w, Calls Tryd.prog 16 #[.int .u8 2] w fun e w' => e = .returned (.int .i64 0) ∧ w = w' := fun w => shapeCheck_any 2 w (by decide)
  have cN : ∀ w, Calls Tryd.prog 26 #[.int .u8 2] w fun e w' => e = .returned (.int .i64 16) ∧ Below w.heap.size w w' := fun w => shapeWidth_any 2 w (by decide)
  go_enter Tryd.func92, Tryd.ntmps92
  go_wp2_with (first
    | ((with_reducible show wpList _ _ _ (⟨_, .box _ _, _, _, _, _⟩ :: _) _ _); refine H.box rfl rfl (cells_agg _) ?_; (intro g w H; simp only [Act.put, q1_, q2_, q3_, List.set_nil]))
    | ((with_reducible show wpList _ _ _ (⟨_, .alloc 26, _, _, _, _⟩ :: _) _ _); refine H.new rfl (T := 26) rfl tB_z (cells_agg _) ?_; (intro g w H; simp only [Act.put, q1_, q2_, q3_, List.set_nil]))
    | ((with_reducible show wpList _ _ _ (⟨_, .alloc 24, _, _, _, _⟩ :: _) _ _); refine H.new rfl (T := 24) rfl tu_z (cells_int _ _) ?_; (intro g w H; simp only [Act.put, q1_, q2_, q3_, List.set_nil]))
    | ((with_reducible show wpList _ _ _ (⟨_, .load 26 _, _, _, _, _⟩ :: _) _ _); (first | refine H.load rfl (ty := 26) rfl rfl 0 rfl Tryd.underlying26 rfl (by with_reducible exact ext_2 _ _) (by exact tB_s) ?_ | refine H.load rfl (ty := 26) rfl rfl 1 rfl Tryd.underlying26 rfl (by with_reducible exact ext_2 _ _) (by exact tB_s) ?_); simp only [Act.put, q1_, q2_, q3_, List.set_nil])
    | ((with_reducible show wpList _ _ _ (⟨_, .load 24 _, _, _, _, _⟩ :: _) _ _); (first | refine H.load1 rfl (ty := 24) rfl rfl 0 rfl Tryd.underlying24 rfl (by with_reducible exact get_20 _ _) ?_ | refine H.load1 rfl (ty := 24) rfl rfl 0 rfl Tryd.underlying24 rfl (by with_reducible exact get_21 _ _) ?_ | refine H.load1 rfl (ty := 24) rfl rfl 0 rfl Tryd.underlying24 rfl (by with_reducible exact limbs_o0 _) ?_ | refine H.load1 rfl (ty := 24) rfl rfl 0 rfl Tryd.underlying24 rfl (by with_reducible exact limbs_o1 _) ?_ | refine H.load1 rfl (ty := 24) rfl rfl 0 rfl Tryd.underlying24 rfl (by with_reducible exact limbs_o2 _) ?_ | refine H.load1 rfl (ty := 24) rfl rfl 0 rfl Tryd.underlying24 rfl (by with_reducible exact limbs_o3 _) ?_ | refine H.load1 rfl (ty := 24) rfl rfl 0 rfl Tryd.underlying24 rfl (by with_reducible exact limbs_o4 _) ?_ | refine H.load1 rfl (ty := 24) rfl rfl 0 rfl Tryd.underlying24 rfl (by with_reducible exact limbs_o5 _) ?_ | refine H.load1 rfl (ty := 24) rfl rfl 0 rfl Tryd.underlying24 rfl (by with_reducible exact get_10 _) ?_ | refine H.load1 rfl (ty := 24) rfl rfl 1 rfl Tryd.underlying24 rfl (by with_reducible exact get_20 _ _) ?_ | refine H.load1 rfl (ty := 24) rfl rfl 1 rfl Tryd.underlying24 rfl (by with_reducible exact get_21 _ _) ?_ | refine H.load1 rfl (ty := 24) rfl rfl 1 rfl Tryd.underlying24 rfl (by with_reducible exact limbs_o0 _) ?_ | refine H.load1 rfl (ty := 24) rfl rfl 1 rfl Tryd.underlying24 rfl (by with_reducible exact limbs_o1 _) ?_ | refine H.load1 rfl (ty := 24) rfl rfl 1 rfl Tryd.underlying24 rfl (by with_reducible exact limbs_o2 _) ?_ | refine H.load1 rfl (ty := 24) rfl rfl 1 rfl Tryd.underlying24 rfl (by with_reducible exact limbs_o3 _) ?_ | refine H.load1 rfl (ty := 24) rfl rfl 1 rfl Tryd.underlying24 rfl (by with_reducible exact limbs_o4 _) ?_ | refine H.load1 rfl (ty := 24) rfl rfl 1 rfl Tryd.underlying24 rfl (by with_reducible exact limbs_o5 _) ?_ | refine H.load1 rfl (ty := 24) rfl rfl 1 rfl Tryd.underlying24 rfl (by with_reducible exact get_10 _) ?_); simp only [Act.put, q1_, q2_, q3_, List.set_nil])
    | ((with_reducible show wpList _ _ _ (⟨_, .store 26 _ _, _, _, _, _⟩ :: _) _ _); (first | refine H.store rfl (ty := 26) rfl rfl (cells_agg _) 0 rfl v2_ (by exact tB_s) (one_of rfl) (ble_le rfl) ?_ | refine H.store rfl (ty := 26) rfl rfl (cells_agg _) 1 rfl v2_ (by exact tB_s) (one_of rfl) (ble_le rfl) ?_); (intro w H; simp only [q2_, q3_] at H; simp only [Act.put, q1_, q2_, q3_, List.set_nil]))
    | ((with_reducible show wpList _ _ _ (⟨_, .store 24 _ _, _, _, _, _⟩ :: _) _ _); (first | refine H.store rfl (ty := 24) rfl rfl (cells_int _ _) 0 rfl (by with_reducible exact set_20 _ _ _) (by exact tu_s) (one_of rfl) (ble_le rfl) ?_ | refine H.store rfl (ty := 24) rfl rfl (cells_int _ _) 0 rfl (by with_reducible exact set_21 _ _ _) (by exact tu_s) (one_of rfl) (ble_le rfl) ?_ | refine H.store rfl (ty := 24) rfl rfl (cells_int _ _) 0 rfl (by with_reducible exact set_10 _ _) (by exact tu_s) (one_of rfl) (ble_le rfl) ?_ | refine H.store rfl (ty := 24) rfl rfl (cells_int _ _) 1 rfl (by with_reducible exact set_20 _ _ _) (by exact tu_s) (one_of rfl) (ble_le rfl) ?_ | refine H.store rfl (ty := 24) rfl rfl (cells_int _ _) 1 rfl (by with_reducible exact set_21 _ _ _) (by exact tu_s) (one_of rfl) (ble_le rfl) ?_ | refine H.store rfl (ty := 24) rfl rfl (cells_int _ _) 1 rfl (by with_reducible exact set_10 _ _) (by exact tu_s) (one_of rfl) (ble_le rfl) ?_); (intro w H; simp only [q2_, q3_] at H; simp only [Act.put, q1_, q2_, q3_, List.set_nil]))
    | (go_at_call 13; ((with_reducible refine (cI _).mono ?_); rintro e w ⟨rfl, hb⟩; replace H := H.call hb; clear hb))
    | (go_at_call 16; ((with_reducible refine (cC _).mono ?_); rintro e w' ⟨rfl, rfl⟩))
    | (go_at_call 26; ((with_reducible refine (cN _).mono ?_); rintro e w ⟨rfl, hb⟩; replace H := H.call hb; clear hb))
    | (go_at_call 41; ((with_reducible refine (cW _).mono ?_); rintro e w ⟨rfl, hb⟩; replace H := H.call hb; clear hb))
    )
  (first | refine bodyPost_ret (results_c rfl rfl (H.result 0 rfl Tryd.underlying26 rfl (by exact tB_s) (ext_2 _ _))) rfl ⟨?_, H.below⟩ | refine bodyPost_ret (results_c rfl rfl (H.result 1 rfl Tryd.underlying26 rfl (by exact tB_s) (ext_2 _ _))) rfl ⟨?_, H.below⟩)
  exact rfl
theorem shapeGreatest_3 (neg : Bool) (w : World) :
    Calls Tryd.prog 92 #[.int .u8 3, .bool neg] w fun e w' => e = .returned (BV (greatN 3 neg)) ∧ Below w.heap.size w w' := by
  have H := Own.start w
  have cI : ∀ w, Calls Tryd.prog 13 #[.int .u8 3, .bool false] w fun e w' => e = .returned (.agg #[.int .u64 9223090561878065152, .int .u64 0]) ∧ Below w.heap.size w w' := fun w => shapeInf_any 3 false w (by decide)
  have cW : ∀ w, Calls Tryd.prog 41 #[.int .u8 3, .agg #[.int .u64 9223090561878065151, .int .u64 (IntKind.u64.wrap (-1))], .bool neg] w fun e w' => e = .returned (BV (greatN 3 neg)) ∧ Below w.heap.size w w' := by
    intro w
    have := shapeWith_any 3 170135991163610696904058773219554885631 neg w (by decide)
    rw [or_sign 3 170135991163610696904058773219554885631 neg (by decide)] at this
    exact this
  have cC : ∀ w, Calls Tryd.prog 16 #[.int .u8 3] w fun e w' => e = .returned (.int .i64 0) ∧ w = w' := fun w => shapeCheck_any 3 w (by decide)
  have cN : ∀ w, Calls Tryd.prog 26 #[.int .u8 3] w fun e w' => e = .returned (.int .i64 128) ∧ Below w.heap.size w w' := fun w => shapeWidth_any 3 w (by decide)
  go_enter Tryd.func92, Tryd.ntmps92
  go_wp2_with (first
    | ((with_reducible show wpList _ _ _ (⟨_, .box _ _, _, _, _, _⟩ :: _) _ _); refine H.box rfl rfl (cells_agg _) ?_; (intro g w H; simp only [Act.put, q1_, q2_, q3_, List.set_nil]))
    | ((with_reducible show wpList _ _ _ (⟨_, .alloc 26, _, _, _, _⟩ :: _) _ _); refine H.new rfl (T := 26) rfl tB_z (cells_agg _) ?_; (intro g w H; simp only [Act.put, q1_, q2_, q3_, List.set_nil]))
    | ((with_reducible show wpList _ _ _ (⟨_, .alloc 24, _, _, _, _⟩ :: _) _ _); refine H.new rfl (T := 24) rfl tu_z (cells_int _ _) ?_; (intro g w H; simp only [Act.put, q1_, q2_, q3_, List.set_nil]))
    | ((with_reducible show wpList _ _ _ (⟨_, .load 26 _, _, _, _, _⟩ :: _) _ _); (first | refine H.load rfl (ty := 26) rfl rfl 0 rfl Tryd.underlying26 rfl (by with_reducible exact ext_2 _ _) (by exact tB_s) ?_ | refine H.load rfl (ty := 26) rfl rfl 1 rfl Tryd.underlying26 rfl (by with_reducible exact ext_2 _ _) (by exact tB_s) ?_); simp only [Act.put, q1_, q2_, q3_, List.set_nil])
    | ((with_reducible show wpList _ _ _ (⟨_, .load 24 _, _, _, _, _⟩ :: _) _ _); (first | refine H.load1 rfl (ty := 24) rfl rfl 0 rfl Tryd.underlying24 rfl (by with_reducible exact get_20 _ _) ?_ | refine H.load1 rfl (ty := 24) rfl rfl 0 rfl Tryd.underlying24 rfl (by with_reducible exact get_21 _ _) ?_ | refine H.load1 rfl (ty := 24) rfl rfl 0 rfl Tryd.underlying24 rfl (by with_reducible exact limbs_o0 _) ?_ | refine H.load1 rfl (ty := 24) rfl rfl 0 rfl Tryd.underlying24 rfl (by with_reducible exact limbs_o1 _) ?_ | refine H.load1 rfl (ty := 24) rfl rfl 0 rfl Tryd.underlying24 rfl (by with_reducible exact limbs_o2 _) ?_ | refine H.load1 rfl (ty := 24) rfl rfl 0 rfl Tryd.underlying24 rfl (by with_reducible exact limbs_o3 _) ?_ | refine H.load1 rfl (ty := 24) rfl rfl 0 rfl Tryd.underlying24 rfl (by with_reducible exact limbs_o4 _) ?_ | refine H.load1 rfl (ty := 24) rfl rfl 0 rfl Tryd.underlying24 rfl (by with_reducible exact limbs_o5 _) ?_ | refine H.load1 rfl (ty := 24) rfl rfl 0 rfl Tryd.underlying24 rfl (by with_reducible exact get_10 _) ?_ | refine H.load1 rfl (ty := 24) rfl rfl 1 rfl Tryd.underlying24 rfl (by with_reducible exact get_20 _ _) ?_ | refine H.load1 rfl (ty := 24) rfl rfl 1 rfl Tryd.underlying24 rfl (by with_reducible exact get_21 _ _) ?_ | refine H.load1 rfl (ty := 24) rfl rfl 1 rfl Tryd.underlying24 rfl (by with_reducible exact limbs_o0 _) ?_ | refine H.load1 rfl (ty := 24) rfl rfl 1 rfl Tryd.underlying24 rfl (by with_reducible exact limbs_o1 _) ?_ | refine H.load1 rfl (ty := 24) rfl rfl 1 rfl Tryd.underlying24 rfl (by with_reducible exact limbs_o2 _) ?_ | refine H.load1 rfl (ty := 24) rfl rfl 1 rfl Tryd.underlying24 rfl (by with_reducible exact limbs_o3 _) ?_ | refine H.load1 rfl (ty := 24) rfl rfl 1 rfl Tryd.underlying24 rfl (by with_reducible exact limbs_o4 _) ?_ | refine H.load1 rfl (ty := 24) rfl rfl 1 rfl Tryd.underlying24 rfl (by with_reducible exact limbs_o5 _) ?_ | refine H.load1 rfl (ty := 24) rfl rfl 1 rfl Tryd.underlying24 rfl (by with_reducible exact get_10 _) ?_); simp only [Act.put, q1_, q2_, q3_, List.set_nil])
    | ((with_reducible show wpList _ _ _ (⟨_, .store 26 _ _, _, _, _, _⟩ :: _) _ _); (first | refine H.store rfl (ty := 26) rfl rfl (cells_agg _) 0 rfl v2_ (by exact tB_s) (one_of rfl) (ble_le rfl) ?_ | refine H.store rfl (ty := 26) rfl rfl (cells_agg _) 1 rfl v2_ (by exact tB_s) (one_of rfl) (ble_le rfl) ?_); (intro w H; simp only [q2_, q3_] at H; simp only [Act.put, q1_, q2_, q3_, List.set_nil]))
    | ((with_reducible show wpList _ _ _ (⟨_, .store 24 _ _, _, _, _, _⟩ :: _) _ _); (first | refine H.store rfl (ty := 24) rfl rfl (cells_int _ _) 0 rfl (by with_reducible exact set_20 _ _ _) (by exact tu_s) (one_of rfl) (ble_le rfl) ?_ | refine H.store rfl (ty := 24) rfl rfl (cells_int _ _) 0 rfl (by with_reducible exact set_21 _ _ _) (by exact tu_s) (one_of rfl) (ble_le rfl) ?_ | refine H.store rfl (ty := 24) rfl rfl (cells_int _ _) 0 rfl (by with_reducible exact set_10 _ _) (by exact tu_s) (one_of rfl) (ble_le rfl) ?_ | refine H.store rfl (ty := 24) rfl rfl (cells_int _ _) 1 rfl (by with_reducible exact set_20 _ _ _) (by exact tu_s) (one_of rfl) (ble_le rfl) ?_ | refine H.store rfl (ty := 24) rfl rfl (cells_int _ _) 1 rfl (by with_reducible exact set_21 _ _ _) (by exact tu_s) (one_of rfl) (ble_le rfl) ?_ | refine H.store rfl (ty := 24) rfl rfl (cells_int _ _) 1 rfl (by with_reducible exact set_10 _ _) (by exact tu_s) (one_of rfl) (ble_le rfl) ?_); (intro w H; simp only [q2_, q3_] at H; simp only [Act.put, q1_, q2_, q3_, List.set_nil]))
    | (go_at_call 13; ((with_reducible refine (cI _).mono ?_); rintro e w ⟨rfl, hb⟩; replace H := H.call hb; clear hb))
    | (go_at_call 16; ((with_reducible refine (cC _).mono ?_); rintro e w' ⟨rfl, rfl⟩))
    | (go_at_call 26; ((with_reducible refine (cN _).mono ?_); rintro e w ⟨rfl, hb⟩; replace H := H.call hb; clear hb))
    | (go_at_call 41; ((with_reducible refine (cW _).mono ?_); rintro e w ⟨rfl, hb⟩; replace H := H.call hb; clear hb))
    )
  (first | refine bodyPost_ret (results_c rfl rfl (H.result 0 rfl Tryd.underlying26 rfl (by exact tB_s) (ext_2 _ _))) rfl ⟨?_, H.below⟩ | refine bodyPost_ret (results_c rfl rfl (H.result 1 rfl Tryd.underlying26 rfl (by exact tB_s) (ext_2 _ _))) rfl ⟨?_, H.below⟩)
  exact rfl
theorem shapeGreatest_no (f : Nat) (neg : Bool) (w : World) (hf : f < 256) (h4 : ¬ f < 4) :
    Calls Tryd.prog 92 #[.int .u8 f, .bool neg] w fun e w' => e = .returned (BV (greatN f neg)) ∧ Below w.heap.size w w' := by
  have H := Own.start w
  rw [show greatN f neg = 0 by unfold greatN; rw [decide_eq_false h4]; rfl]
  have cI : ∀ w, Calls Tryd.prog 13 #[.int .u8 f, .bool false] w fun e w' => e = .returned (.agg #[.int .u64 0, .int .u64 0]) ∧ Below w.heap.size w w' := by
    intro w
    have := shapeInf_any f false w hf
    rw [show infN f false = 0 by unfold infN; rw [decide_eq_false h4]; rfl] at this
    exact this
  go_enter Tryd.func92, Tryd.ntmps92
  go_wp2_with (first
    | ((with_reducible show wpList _ _ _ (⟨_, .box _ _, _, _, _, _⟩ :: _) _ _); refine H.box rfl rfl (cells_agg _) ?_; (intro g w H; simp only [Act.put, q1_, q2_, q3_, List.set_nil]))
    | ((with_reducible show wpList _ _ _ (⟨_, .alloc 26, _, _, _, _⟩ :: _) _ _); refine H.new rfl (T := 26) rfl tB_z (cells_agg _) ?_; (intro g w H; simp only [Act.put, q1_, q2_, q3_, List.set_nil]))
    | ((with_reducible show wpList _ _ _ (⟨_, .alloc 24, _, _, _, _⟩ :: _) _ _); refine H.new rfl (T := 24) rfl tu_z (cells_int _ _) ?_; (intro g w H; simp only [Act.put, q1_, q2_, q3_, List.set_nil]))
    | ((with_reducible show wpList _ _ _ (⟨_, .load 26 _, _, _, _, _⟩ :: _) _ _); (first | refine H.load rfl (ty := 26) rfl rfl 0 rfl Tryd.underlying26 rfl (by with_reducible exact ext_2 _ _) (by exact tB_s) ?_ | refine H.load rfl (ty := 26) rfl rfl 1 rfl Tryd.underlying26 rfl (by with_reducible exact ext_2 _ _) (by exact tB_s) ?_); simp only [Act.put, q1_, q2_, q3_, List.set_nil])
    | ((with_reducible show wpList _ _ _ (⟨_, .load 24 _, _, _, _, _⟩ :: _) _ _); (first | refine H.load1 rfl (ty := 24) rfl rfl 0 rfl Tryd.underlying24 rfl (by with_reducible exact get_20 _ _) ?_ | refine H.load1 rfl (ty := 24) rfl rfl 0 rfl Tryd.underlying24 rfl (by with_reducible exact get_21 _ _) ?_ | refine H.load1 rfl (ty := 24) rfl rfl 0 rfl Tryd.underlying24 rfl (by with_reducible exact limbs_o0 _) ?_ | refine H.load1 rfl (ty := 24) rfl rfl 0 rfl Tryd.underlying24 rfl (by with_reducible exact limbs_o1 _) ?_ | refine H.load1 rfl (ty := 24) rfl rfl 0 rfl Tryd.underlying24 rfl (by with_reducible exact limbs_o2 _) ?_ | refine H.load1 rfl (ty := 24) rfl rfl 0 rfl Tryd.underlying24 rfl (by with_reducible exact limbs_o3 _) ?_ | refine H.load1 rfl (ty := 24) rfl rfl 0 rfl Tryd.underlying24 rfl (by with_reducible exact limbs_o4 _) ?_ | refine H.load1 rfl (ty := 24) rfl rfl 0 rfl Tryd.underlying24 rfl (by with_reducible exact limbs_o5 _) ?_ | refine H.load1 rfl (ty := 24) rfl rfl 0 rfl Tryd.underlying24 rfl (by with_reducible exact get_10 _) ?_ | refine H.load1 rfl (ty := 24) rfl rfl 1 rfl Tryd.underlying24 rfl (by with_reducible exact get_20 _ _) ?_ | refine H.load1 rfl (ty := 24) rfl rfl 1 rfl Tryd.underlying24 rfl (by with_reducible exact get_21 _ _) ?_ | refine H.load1 rfl (ty := 24) rfl rfl 1 rfl Tryd.underlying24 rfl (by with_reducible exact limbs_o0 _) ?_ | refine H.load1 rfl (ty := 24) rfl rfl 1 rfl Tryd.underlying24 rfl (by with_reducible exact limbs_o1 _) ?_ | refine H.load1 rfl (ty := 24) rfl rfl 1 rfl Tryd.underlying24 rfl (by with_reducible exact limbs_o2 _) ?_ | refine H.load1 rfl (ty := 24) rfl rfl 1 rfl Tryd.underlying24 rfl (by with_reducible exact limbs_o3 _) ?_ | refine H.load1 rfl (ty := 24) rfl rfl 1 rfl Tryd.underlying24 rfl (by with_reducible exact limbs_o4 _) ?_ | refine H.load1 rfl (ty := 24) rfl rfl 1 rfl Tryd.underlying24 rfl (by with_reducible exact limbs_o5 _) ?_ | refine H.load1 rfl (ty := 24) rfl rfl 1 rfl Tryd.underlying24 rfl (by with_reducible exact get_10 _) ?_); simp only [Act.put, q1_, q2_, q3_, List.set_nil])
    | ((with_reducible show wpList _ _ _ (⟨_, .store 26 _ _, _, _, _, _⟩ :: _) _ _); (first | refine H.store rfl (ty := 26) rfl rfl (cells_agg _) 0 rfl v2_ (by exact tB_s) (one_of rfl) (ble_le rfl) ?_ | refine H.store rfl (ty := 26) rfl rfl (cells_agg _) 1 rfl v2_ (by exact tB_s) (one_of rfl) (ble_le rfl) ?_); (intro w H; simp only [q2_, q3_] at H; simp only [Act.put, q1_, q2_, q3_, List.set_nil]))
    | ((with_reducible show wpList _ _ _ (⟨_, .store 24 _ _, _, _, _, _⟩ :: _) _ _); (first | refine H.store rfl (ty := 24) rfl rfl (cells_int _ _) 0 rfl (by with_reducible exact set_20 _ _ _) (by exact tu_s) (one_of rfl) (ble_le rfl) ?_ | refine H.store rfl (ty := 24) rfl rfl (cells_int _ _) 0 rfl (by with_reducible exact set_21 _ _ _) (by exact tu_s) (one_of rfl) (ble_le rfl) ?_ | refine H.store rfl (ty := 24) rfl rfl (cells_int _ _) 0 rfl (by with_reducible exact set_10 _ _) (by exact tu_s) (one_of rfl) (ble_le rfl) ?_ | refine H.store rfl (ty := 24) rfl rfl (cells_int _ _) 1 rfl (by with_reducible exact set_20 _ _ _) (by exact tu_s) (one_of rfl) (ble_le rfl) ?_ | refine H.store rfl (ty := 24) rfl rfl (cells_int _ _) 1 rfl (by with_reducible exact set_21 _ _ _) (by exact tu_s) (one_of rfl) (ble_le rfl) ?_ | refine H.store rfl (ty := 24) rfl rfl (cells_int _ _) 1 rfl (by with_reducible exact set_10 _ _) (by exact tu_s) (one_of rfl) (ble_le rfl) ?_); (intro w H; simp only [q2_, q3_] at H; simp only [Act.put, q1_, q2_, q3_, List.set_nil]))
    | (go_at_call 13; ((with_reducible refine (cI _).mono ?_); rintro e w ⟨rfl, hb⟩; replace H := H.call hb; clear hb))
    )
  (first | refine bodyPost_ret (results_c rfl rfl (H.result 0 rfl Tryd.underlying26 rfl (by exact tB_s) (ext_2 _ _))) rfl ⟨?_, H.below⟩ | refine bodyPost_ret (results_c rfl rfl (H.result 1 rfl Tryd.underlying26 rfl (by exact tB_s) (ext_2 _ _))) rfl ⟨?_, H.below⟩)
  exact rfl
theorem shapeGreatest_any (f : Nat) (neg : Bool) (w : World) (hf : f < 256) :
    Calls Tryd.prog 92 #[.int .u8 f, .bool neg] w fun e w' => e = .returned (BV (greatN f neg)) ∧ Below w.heap.size w w' := by
  rcases forms f with rfl | rfl | rfl | rfl | h
  · exact shapeGreatest_0 neg w
  · exact shapeGreatest_1 neg w
  · exact shapeGreatest_2 neg w
  · exact shapeGreatest_3 neg w
  · exact shapeGreatest_no f neg w hf (by omega)
theorem roundRight_no (f m : Nat) (w : World) (hf : f < 256) (h4 : ¬ f < 4) :
    Calls Tryd.prog 72 #[.int .u8 f, .int .u8 m] w fun e w' => e = .returned (.bool false) ∧ w = w' := by
  go_enter Tryd.func72, Tryd.ntmps72
  go_wp2_with (first | (go_at_call 16; ((with_reducible refine (shapeCheck_any f _ hf).mono ?_); rw [decide_eq_false h4]; rintro e w' ⟨rfl, rfl⟩)))
  go_ret
  exact ⟨rfl, rfl⟩
theorem roundRight_yes (f m : Nat) (w : World) (hf : f < 256) (hm : m < 256) (h4 : f < 4) :
    Calls Tryd.prog 72 #[.int .u8 f, .int .u8 m] w fun e w' => e = .returned (.bool (decide (m < 5))) ∧ w = w' := by
  by_cases h5 : m < 5
  · rw [decide_eq_true h5]
    go_enter Tryd.func72, Tryd.ntmps72
    go_wp2_with (first | (go_at_call 16; ((with_reducible refine (shapeCheck_any f _ hf).mono ?_); rw [decide_eq_true h4]; rintro e w' ⟨rfl, rfl⟩)) | (go_at_call 9; ((with_reducible refine (shapeCheckMode_any m _ hm).mono ?_); rw [decide_eq_true h5]; rintro e w' ⟨rfl, rfl⟩)))
    go_ret
    exact ⟨rfl, rfl⟩
  rw [decide_eq_false h5]
  go_enter Tryd.func72, Tryd.ntmps72
  go_wp2_with (first | (go_at_call 16; ((with_reducible refine (shapeCheck_any f _ hf).mono ?_); rw [decide_eq_true h4]; rintro e w' ⟨rfl, rfl⟩)) | (go_at_call 9; ((with_reducible refine (shapeCheckMode_any m _ hm).mono ?_); rw [decide_eq_false h5]; rintro e w' ⟨rfl, rfl⟩)))
  go_ret
  exact ⟨rfl, rfl⟩
theorem roundRight_any (f m : Nat) (w : World) (hf : f < 256) (hm : m < 256) :
    Calls Tryd.prog 72 #[.int .u8 f, .int .u8 m] w fun e w' => e = .returned (.bool (decide (f < 4) && decide (m < 5))) ∧ w = w' := by
  by_cases h4 : f < 4
  · rw [decide_eq_true h4, Bool.true_and]; exact roundRight_yes f m w hf hm h4
  · rw [decide_eq_false h4, Bool.false_and]; exact roundRight_no f m w hf h4
theorem roundOver_0 (f : Nat) (neg : Bool) (w : World) (hf : f < 256) (cR : ∀ w, Calls Tryd.prog 72 #[.int .u8 f, .int .u8 0] w fun e w' => e = .returned (.bool true) ∧ w = w') :
    Calls Tryd.prog 74 #[.int .u8 f, .int .u8 0, .bool neg] w fun e w' => e = .returned (.tuple #[BV (infN f neg), .int .u8 5, .int .i64 0]) ∧ Below w.heap.size w w' := by
  have H := Own.start w
  go_enter Tryd.func74, Tryd.ntmps74
  go_wp2_with (first
    | ((with_reducible show wpList _ _ _ (⟨_, .box _ _, _, _, _, _⟩ :: _) _ _); refine H.box rfl rfl (cells_agg _) ?_; (intro g w H; simp only [Act.put, q1_, q2_, q3_, List.set_nil]))
    | ((with_reducible show wpList _ _ _ (⟨_, .alloc 26, _, _, _, _⟩ :: _) _ _); refine H.new rfl (T := 26) rfl tB_z (cells_agg _) ?_; (intro g w H; simp only [Act.put, q1_, q2_, q3_, List.set_nil]))
    | ((with_reducible show wpList _ _ _ (⟨_, .load 26 _, _, _, _, _⟩ :: _) _ _); refine H.load rfl (ty := 26) rfl rfl 0 rfl Tryd.underlying26 rfl (by with_reducible exact ext_2 _ _) (by exact tB_s) ?_; simp only [Act.put, q1_, q2_, q3_, List.set_nil])
    | ((with_reducible show wpList _ _ _ (⟨_, .store 26 _ _, _, _, _, _⟩ :: _) _ _); refine H.store rfl (ty := 26) rfl rfl (cells_agg _) 0 rfl v2_ (by exact tB_s) (one_of rfl) (ble_le rfl) ?_; (intro w H; simp only [q2_, q3_] at H; simp only [Act.put, q1_, q2_, q3_, List.set_nil]))
    | (go_at_call 72; ((with_reducible refine (cR _).mono ?_); rintro e w' ⟨rfl, rfl⟩))
    | (go_at_call 92; ((with_reducible refine (shapeGreatest_any f neg _ hf).mono ?_); rintro e w ⟨rfl, hb⟩; replace H := H.call hb; clear hb))
    | (go_at_call 13; ((with_reducible refine (shapeInf_any f neg _ hf).mono ?_); rintro e w ⟨rfl, hb⟩; replace H := H.call hb; clear hb))
    )
  refine bodyPost_ret (results_ctt rfl rfl (H.result 0 rfl Tryd.underlying26 rfl (by exact tB_s) (ext_2 _ _))) rfl ⟨?_, H.below⟩
  exact rfl
theorem roundOver_1 (f : Nat) (neg : Bool) (w : World) (hf : f < 256) (cR : ∀ w, Calls Tryd.prog 72 #[.int .u8 f, .int .u8 1] w fun e w' => e = .returned (.bool true) ∧ w = w') :
    Calls Tryd.prog 74 #[.int .u8 f, .int .u8 1, .bool neg] w fun e w' => e = .returned (.tuple #[BV (greatN f neg), .int .u8 5, .int .i64 0]) ∧ Below w.heap.size w w' := by
  have H := Own.start w
  go_enter Tryd.func74, Tryd.ntmps74
  go_wp2_with (first
    | ((with_reducible show wpList _ _ _ (⟨_, .box _ _, _, _, _, _⟩ :: _) _ _); refine H.box rfl rfl (cells_agg _) ?_; (intro g w H; simp only [Act.put, q1_, q2_, q3_, List.set_nil]))
    | ((with_reducible show wpList _ _ _ (⟨_, .alloc 26, _, _, _, _⟩ :: _) _ _); refine H.new rfl (T := 26) rfl tB_z (cells_agg _) ?_; (intro g w H; simp only [Act.put, q1_, q2_, q3_, List.set_nil]))
    | ((with_reducible show wpList _ _ _ (⟨_, .load 26 _, _, _, _, _⟩ :: _) _ _); refine H.load rfl (ty := 26) rfl rfl 0 rfl Tryd.underlying26 rfl (by with_reducible exact ext_2 _ _) (by exact tB_s) ?_; simp only [Act.put, q1_, q2_, q3_, List.set_nil])
    | ((with_reducible show wpList _ _ _ (⟨_, .store 26 _ _, _, _, _, _⟩ :: _) _ _); refine H.store rfl (ty := 26) rfl rfl (cells_agg _) 0 rfl v2_ (by exact tB_s) (one_of rfl) (ble_le rfl) ?_; (intro w H; simp only [q2_, q3_] at H; simp only [Act.put, q1_, q2_, q3_, List.set_nil]))
    | (go_at_call 72; ((with_reducible refine (cR _).mono ?_); rintro e w' ⟨rfl, rfl⟩))
    | (go_at_call 92; ((with_reducible refine (shapeGreatest_any f neg _ hf).mono ?_); rintro e w ⟨rfl, hb⟩; replace H := H.call hb; clear hb))
    | (go_at_call 13; ((with_reducible refine (shapeInf_any f neg _ hf).mono ?_); rintro e w ⟨rfl, hb⟩; replace H := H.call hb; clear hb))
    )
  refine bodyPost_ret (results_ctt rfl rfl (H.result 0 rfl Tryd.underlying26 rfl (by exact tB_s) (ext_2 _ _))) rfl ⟨?_, H.below⟩
  exact rfl
theorem roundOver_2t (f : Nat) (w : World) (hf : f < 256) (cR : ∀ w, Calls Tryd.prog 72 #[.int .u8 f, .int .u8 2] w fun e w' => e = .returned (.bool true) ∧ w = w') :
    Calls Tryd.prog 74 #[.int .u8 f, .int .u8 2, .bool true] w fun e w' => e = .returned (.tuple #[BV (infN f true), .int .u8 5, .int .i64 0]) ∧ Below w.heap.size w w' := by
  have H := Own.start w
  go_enter Tryd.func74, Tryd.ntmps74
  go_wp2_with (first
    | ((with_reducible show wpList _ _ _ (⟨_, .box _ _, _, _, _, _⟩ :: _) _ _); refine H.box rfl rfl (cells_agg _) ?_; (intro g w H; simp only [Act.put, q1_, q2_, q3_, List.set_nil]))
    | ((with_reducible show wpList _ _ _ (⟨_, .alloc 26, _, _, _, _⟩ :: _) _ _); refine H.new rfl (T := 26) rfl tB_z (cells_agg _) ?_; (intro g w H; simp only [Act.put, q1_, q2_, q3_, List.set_nil]))
    | ((with_reducible show wpList _ _ _ (⟨_, .load 26 _, _, _, _, _⟩ :: _) _ _); refine H.load rfl (ty := 26) rfl rfl 0 rfl Tryd.underlying26 rfl (by with_reducible exact ext_2 _ _) (by exact tB_s) ?_; simp only [Act.put, q1_, q2_, q3_, List.set_nil])
    | ((with_reducible show wpList _ _ _ (⟨_, .store 26 _ _, _, _, _, _⟩ :: _) _ _); refine H.store rfl (ty := 26) rfl rfl (cells_agg _) 0 rfl v2_ (by exact tB_s) (one_of rfl) (ble_le rfl) ?_; (intro w H; simp only [q2_, q3_] at H; simp only [Act.put, q1_, q2_, q3_, List.set_nil]))
    | (go_at_call 72; ((with_reducible refine (cR _).mono ?_); rintro e w' ⟨rfl, rfl⟩))
    | (go_at_call 92; ((with_reducible refine (shapeGreatest_any f true _ hf).mono ?_); rintro e w ⟨rfl, hb⟩; replace H := H.call hb; clear hb))
    | (go_at_call 13; ((with_reducible refine (shapeInf_any f true _ hf).mono ?_); rintro e w ⟨rfl, hb⟩; replace H := H.call hb; clear hb))
    )
  refine bodyPost_ret (results_ctt rfl rfl (H.result 0 rfl Tryd.underlying26 rfl (by exact tB_s) (ext_2 _ _))) rfl ⟨?_, H.below⟩
  exact rfl
theorem roundOver_2f (f : Nat) (w : World) (hf : f < 256) (cR : ∀ w, Calls Tryd.prog 72 #[.int .u8 f, .int .u8 2] w fun e w' => e = .returned (.bool true) ∧ w = w') :
    Calls Tryd.prog 74 #[.int .u8 f, .int .u8 2, .bool false] w fun e w' => e = .returned (.tuple #[BV (greatN f false), .int .u8 5, .int .i64 0]) ∧ Below w.heap.size w w' := by
  have H := Own.start w
  go_enter Tryd.func74, Tryd.ntmps74
  go_wp2_with (first
    | ((with_reducible show wpList _ _ _ (⟨_, .box _ _, _, _, _, _⟩ :: _) _ _); refine H.box rfl rfl (cells_agg _) ?_; (intro g w H; simp only [Act.put, q1_, q2_, q3_, List.set_nil]))
    | ((with_reducible show wpList _ _ _ (⟨_, .alloc 26, _, _, _, _⟩ :: _) _ _); refine H.new rfl (T := 26) rfl tB_z (cells_agg _) ?_; (intro g w H; simp only [Act.put, q1_, q2_, q3_, List.set_nil]))
    | ((with_reducible show wpList _ _ _ (⟨_, .load 26 _, _, _, _, _⟩ :: _) _ _); refine H.load rfl (ty := 26) rfl rfl 0 rfl Tryd.underlying26 rfl (by with_reducible exact ext_2 _ _) (by exact tB_s) ?_; simp only [Act.put, q1_, q2_, q3_, List.set_nil])
    | ((with_reducible show wpList _ _ _ (⟨_, .store 26 _ _, _, _, _, _⟩ :: _) _ _); refine H.store rfl (ty := 26) rfl rfl (cells_agg _) 0 rfl v2_ (by exact tB_s) (one_of rfl) (ble_le rfl) ?_; (intro w H; simp only [q2_, q3_] at H; simp only [Act.put, q1_, q2_, q3_, List.set_nil]))
    | (go_at_call 72; ((with_reducible refine (cR _).mono ?_); rintro e w' ⟨rfl, rfl⟩))
    | (go_at_call 92; ((with_reducible refine (shapeGreatest_any f false _ hf).mono ?_); rintro e w ⟨rfl, hb⟩; replace H := H.call hb; clear hb))
    | (go_at_call 13; ((with_reducible refine (shapeInf_any f false _ hf).mono ?_); rintro e w ⟨rfl, hb⟩; replace H := H.call hb; clear hb))
    )
  refine bodyPost_ret (results_ctt rfl rfl (H.result 0 rfl Tryd.underlying26 rfl (by exact tB_s) (ext_2 _ _))) rfl ⟨?_, H.below⟩
  exact rfl
theorem roundOver_3t (f : Nat) (w : World) (hf : f < 256) (cR : ∀ w, Calls Tryd.prog 72 #[.int .u8 f, .int .u8 3] w fun e w' => e = .returned (.bool true) ∧ w = w') :
    Calls Tryd.prog 74 #[.int .u8 f, .int .u8 3, .bool true] w fun e w' => e = .returned (.tuple #[BV (greatN f true), .int .u8 5, .int .i64 0]) ∧ Below w.heap.size w w' := by
  have H := Own.start w
  go_enter Tryd.func74, Tryd.ntmps74
  go_wp2_with (first
    | ((with_reducible show wpList _ _ _ (⟨_, .box _ _, _, _, _, _⟩ :: _) _ _); refine H.box rfl rfl (cells_agg _) ?_; (intro g w H; simp only [Act.put, q1_, q2_, q3_, List.set_nil]))
    | ((with_reducible show wpList _ _ _ (⟨_, .alloc 26, _, _, _, _⟩ :: _) _ _); refine H.new rfl (T := 26) rfl tB_z (cells_agg _) ?_; (intro g w H; simp only [Act.put, q1_, q2_, q3_, List.set_nil]))
    | ((with_reducible show wpList _ _ _ (⟨_, .load 26 _, _, _, _, _⟩ :: _) _ _); refine H.load rfl (ty := 26) rfl rfl 0 rfl Tryd.underlying26 rfl (by with_reducible exact ext_2 _ _) (by exact tB_s) ?_; simp only [Act.put, q1_, q2_, q3_, List.set_nil])
    | ((with_reducible show wpList _ _ _ (⟨_, .store 26 _ _, _, _, _, _⟩ :: _) _ _); refine H.store rfl (ty := 26) rfl rfl (cells_agg _) 0 rfl v2_ (by exact tB_s) (one_of rfl) (ble_le rfl) ?_; (intro w H; simp only [q2_, q3_] at H; simp only [Act.put, q1_, q2_, q3_, List.set_nil]))
    | (go_at_call 72; ((with_reducible refine (cR _).mono ?_); rintro e w' ⟨rfl, rfl⟩))
    | (go_at_call 92; ((with_reducible refine (shapeGreatest_any f true _ hf).mono ?_); rintro e w ⟨rfl, hb⟩; replace H := H.call hb; clear hb))
    | (go_at_call 13; ((with_reducible refine (shapeInf_any f true _ hf).mono ?_); rintro e w ⟨rfl, hb⟩; replace H := H.call hb; clear hb))
    )
  refine bodyPost_ret (results_ctt rfl rfl (H.result 0 rfl Tryd.underlying26 rfl (by exact tB_s) (ext_2 _ _))) rfl ⟨?_, H.below⟩
  exact rfl
theorem roundOver_3f (f : Nat) (w : World) (hf : f < 256) (cR : ∀ w, Calls Tryd.prog 72 #[.int .u8 f, .int .u8 3] w fun e w' => e = .returned (.bool true) ∧ w = w') :
    Calls Tryd.prog 74 #[.int .u8 f, .int .u8 3, .bool false] w fun e w' => e = .returned (.tuple #[BV (infN f false), .int .u8 5, .int .i64 0]) ∧ Below w.heap.size w w' := by
  have H := Own.start w
  go_enter Tryd.func74, Tryd.ntmps74
  go_wp2_with (first
    | ((with_reducible show wpList _ _ _ (⟨_, .box _ _, _, _, _, _⟩ :: _) _ _); refine H.box rfl rfl (cells_agg _) ?_; (intro g w H; simp only [Act.put, q1_, q2_, q3_, List.set_nil]))
    | ((with_reducible show wpList _ _ _ (⟨_, .alloc 26, _, _, _, _⟩ :: _) _ _); refine H.new rfl (T := 26) rfl tB_z (cells_agg _) ?_; (intro g w H; simp only [Act.put, q1_, q2_, q3_, List.set_nil]))
    | ((with_reducible show wpList _ _ _ (⟨_, .load 26 _, _, _, _, _⟩ :: _) _ _); refine H.load rfl (ty := 26) rfl rfl 0 rfl Tryd.underlying26 rfl (by with_reducible exact ext_2 _ _) (by exact tB_s) ?_; simp only [Act.put, q1_, q2_, q3_, List.set_nil])
    | ((with_reducible show wpList _ _ _ (⟨_, .store 26 _ _, _, _, _, _⟩ :: _) _ _); refine H.store rfl (ty := 26) rfl rfl (cells_agg _) 0 rfl v2_ (by exact tB_s) (one_of rfl) (ble_le rfl) ?_; (intro w H; simp only [q2_, q3_] at H; simp only [Act.put, q1_, q2_, q3_, List.set_nil]))
    | (go_at_call 72; ((with_reducible refine (cR _).mono ?_); rintro e w' ⟨rfl, rfl⟩))
    | (go_at_call 92; ((with_reducible refine (shapeGreatest_any f false _ hf).mono ?_); rintro e w ⟨rfl, hb⟩; replace H := H.call hb; clear hb))
    | (go_at_call 13; ((with_reducible refine (shapeInf_any f false _ hf).mono ?_); rintro e w ⟨rfl, hb⟩; replace H := H.call hb; clear hb))
    )
  refine bodyPost_ret (results_ctt rfl rfl (H.result 0 rfl Tryd.underlying26 rfl (by exact tB_s) (ext_2 _ _))) rfl ⟨?_, H.below⟩
  exact rfl
theorem roundOver_4 (f : Nat) (neg : Bool) (w : World) (hf : f < 256) (cR : ∀ w, Calls Tryd.prog 72 #[.int .u8 f, .int .u8 4] w fun e w' => e = .returned (.bool true) ∧ w = w') :
    Calls Tryd.prog 74 #[.int .u8 f, .int .u8 4, .bool neg] w fun e w' => e = .returned (.tuple #[BV (infN f neg), .int .u8 5, .int .i64 0]) ∧ Below w.heap.size w w' := by
  have H := Own.start w
  go_enter Tryd.func74, Tryd.ntmps74
  go_wp2_with (first
    | ((with_reducible show wpList _ _ _ (⟨_, .box _ _, _, _, _, _⟩ :: _) _ _); refine H.box rfl rfl (cells_agg _) ?_; (intro g w H; simp only [Act.put, q1_, q2_, q3_, List.set_nil]))
    | ((with_reducible show wpList _ _ _ (⟨_, .alloc 26, _, _, _, _⟩ :: _) _ _); refine H.new rfl (T := 26) rfl tB_z (cells_agg _) ?_; (intro g w H; simp only [Act.put, q1_, q2_, q3_, List.set_nil]))
    | ((with_reducible show wpList _ _ _ (⟨_, .load 26 _, _, _, _, _⟩ :: _) _ _); refine H.load rfl (ty := 26) rfl rfl 0 rfl Tryd.underlying26 rfl (by with_reducible exact ext_2 _ _) (by exact tB_s) ?_; simp only [Act.put, q1_, q2_, q3_, List.set_nil])
    | ((with_reducible show wpList _ _ _ (⟨_, .store 26 _ _, _, _, _, _⟩ :: _) _ _); refine H.store rfl (ty := 26) rfl rfl (cells_agg _) 0 rfl v2_ (by exact tB_s) (one_of rfl) (ble_le rfl) ?_; (intro w H; simp only [q2_, q3_] at H; simp only [Act.put, q1_, q2_, q3_, List.set_nil]))
    | (go_at_call 72; ((with_reducible refine (cR _).mono ?_); rintro e w' ⟨rfl, rfl⟩))
    | (go_at_call 92; ((with_reducible refine (shapeGreatest_any f neg _ hf).mono ?_); rintro e w ⟨rfl, hb⟩; replace H := H.call hb; clear hb))
    | (go_at_call 13; ((with_reducible refine (shapeInf_any f neg _ hf).mono ?_); rintro e w ⟨rfl, hb⟩; replace H := H.call hb; clear hb))
    )
  refine bodyPost_ret (results_ctt rfl rfl (H.result 0 rfl Tryd.underlying26 rfl (by exact tB_s) (ext_2 _ _))) rfl ⟨?_, H.below⟩
  exact rfl
theorem roundOver_any (f m : Nat) (neg : Bool) (w : World) (hf : f < 4) (hm : m < 5) :
    Calls Tryd.prog 74 #[.int .u8 f, .int .u8 m, .bool neg] w fun e w' => e = .returned (.tuple #[BV (overN f m neg), .int .u8 5, .int .i64 0]) ∧ Below w.heap.size w w' := by
  have cR := fun w => roundRight_any f m w (by omega) (by omega)
  rw [decide_eq_true hf, decide_eq_true hm] at cR
  have : m = 0 ∨ m = 1 ∨ m = 2 ∨ m = 3 ∨ m = 4 := by omega
  rcases this with rfl | rfl | rfl | rfl | rfl
  · exact roundOver_0 f neg w (by omega) cR
  · exact roundOver_1 f neg w (by omega) cR
  · cases neg
    · exact roundOver_2f f w (by omega) cR
    · exact roundOver_2t f w (by omega) cR
  · cases neg
    · exact roundOver_3f f w (by omega) cR
    · exact roundOver_3t f w (by omega) cR
  · exact roundOver_4 f neg w (by omega) cR
open Go.RowKit
theorem set_bits (a b c d : Value) : setRow #[a, b] 0 (#[c, d] : Array Value).toList = #[c, d] := set_all _ _ rfl
theorem roundTiny_ne (f m s p : Nat) (e top lo : Int) (neg mo : Bool) (w : World) (hT : Tab w) (hp : p ≤ 113) (l1 : -20000 ≤ lo) (l2 : lo ≤ 20000) (t1 : -1100000 ≤ top) (t2 : top ≤ 1100000) (hne : (top == lo - 1) = false) (cE : ∀ w, Calls Tryd.prog 73 #[.int .u8 f] w fun e w' => e = .returned (.int .i64 lo) ∧ Below w.heap.size w w') (cP : ∀ w, Calls Tryd.prog 53 #[.int .u8 f] w fun e w' => e = .returned (.int .i64 (p : Nat)) ∧ Below w.heap.size w w') :
    Calls Tryd.prog 76 #[.int .u8 f, .int .u8 m, RV neg s e mo, .int .i64 top] w fun e w' => e = .returned (.bool (decide (top < lo))) ∧ Below w.heap.size w w' := by
  have H := Own.start w
  have HT := Lib.hid hT
  clear hT
  have hne2 : (top != lo - 1) = true := by rw [bne, hne]; rfl
  go_enter Tryd.func76, Tryd.ntmps76
  exact walk7
theorem roundTiny_eq (f m s p k lk : Nat) (e top lo at_ : Int) (neg mo ex : Bool) (w : World) (hT : Tab w) (hp : p ≤ 113) (l1 : -20000 ≤ lo) (l2 : lo ≤ 20000) (t1 : -1100000 ≤ top) (t2 : top ≤ 1100000) (heq : (top == lo - 1) = true) (ha : top - (p : Int) + 1 = at_) (cE : ∀ w, Calls Tryd.prog 73 #[.int .u8 f] w fun e w' => e = .returned (.int .i64 lo) ∧ Below w.heap.size w w') (cP : ∀ w, Calls Tryd.prog 53 #[.int .u8 f] w fun e w' => e = .returned (.int .i64 (p : Nat)) ∧ Below w.heap.size w w') (cG : ∀ w, Tab w → Calls Tryd.prog 75 #[.int .u8 m, RV neg s e mo, .int .i64 at_] w fun e w' => e = .returned (.tuple #[W k, .bool ex]) ∧ Below w.heap.size w w') (cK : ∀ w, Calls Tryd.prog 68 #[W k] w fun e w' => e = .returned (.int .i64 (lk : Nat)) ∧ Below w.heap.size w w') :
    Calls Tryd.prog 76 #[.int .u8 f, .int .u8 m, RV neg s e mo, .int .i64 top] w fun e w' => e = .returned (.bool (decide (lk ≤ p))) ∧ Below w.heap.size w w' := by
  have H := Own.start w
  have HT := Lib.hid hT
  clear hT
  have hne2 : (top != lo - 1) = false := by rw [bne, heq]; rfl
  go_enter Tryd.func76, Tryd.ntmps76
  exact walk7
theorem roundPack_right (f m s p : Nat) (e : Int) (neg mo : Bool) (w : World) (hp : p ≤ 113) (cP : ∀ w, Calls Tryd.prog 53 #[.int .u8 f] w fun e w' => e = .returned (.int .i64 (p : Nat)) ∧ Below w.heap.size w w') (cR : ∀ w, Calls Tryd.prog 72 #[.int .u8 f, .int .u8 m] w fun e w' => e = .returned (.bool false) ∧ w = w') :
    Calls Tryd.prog 39 #[.int .u8 f, .int .u8 m, RV neg s e mo] w fun e w' => e = .returned (.tuple #[BV 0, .int .u8 0, .int .i64 2]) ∧ Below w.heap.size w w' := by
  have H := Own.start w
  go_enter Tryd.func39, Tryd.ntmps39
  exact walk7
theorem roundPack_low (f m s p : Nat) (e : Int) (neg mo : Bool) (w : World) (hp : p ≤ 113) (he : e < -1048576) (cP : ∀ w, Calls Tryd.prog 53 #[.int .u8 f] w fun e w' => e = .returned (.int .i64 (p : Nat)) ∧ Below w.heap.size w w') (cR : ∀ w, Calls Tryd.prog 72 #[.int .u8 f, .int .u8 m] w fun e w' => e = .returned (.bool true) ∧ w = w') :
    Calls Tryd.prog 39 #[.int .u8 f, .int .u8 m, RV neg s e mo] w fun e w' => e = .returned (.tuple #[BV 0, .int .u8 0, .int .i64 2]) ∧ Below w.heap.size w w' := by
  have H := Own.start w
  have he2 : decide (e < -1048576) = true := by simpa using he
  go_enter Tryd.func39, Tryd.ntmps39
  exact walk7
theorem roundPack_high (f m s p : Nat) (e : Int) (neg mo : Bool) (w : World) (hp : p ≤ 113) (he : 1048576 < e) (cP : ∀ w, Calls Tryd.prog 53 #[.int .u8 f] w fun e w' => e = .returned (.int .i64 (p : Nat)) ∧ Below w.heap.size w w') (cR : ∀ w, Calls Tryd.prog 72 #[.int .u8 f, .int .u8 m] w fun e w' => e = .returned (.bool true) ∧ w = w') :
    Calls Tryd.prog 39 #[.int .u8 f, .int .u8 m, RV neg s e mo] w fun e w' => e = .returned (.tuple #[BV 0, .int .u8 0, .int .i64 2]) ∧ Below w.heap.size w w' := by
  have H := Own.start w
  have he2 : decide (e < -1048576) = false := by simp; omega
  have he3 : decide (1048576 < e) = true := by simpa using he
  go_enter Tryd.func39, Tryd.ntmps39
  exact walk7
theorem roundPack_more (f m s p l : Nat) (e : Int) (neg : Bool) (w : World) (hp : p ≤ 113) (h1 : -1048576 ≤ e) (h2 : e ≤ 1048576) (hl : l < p + 2) (hl4 : l ≤ 384) (cP : ∀ w, Calls Tryd.prog 53 #[.int .u8 f] w fun e w' => e = .returned (.int .i64 (p : Nat)) ∧ Below w.heap.size w w') (cR : ∀ w, Calls Tryd.prog 72 #[.int .u8 f, .int .u8 m] w fun e w' => e = .returned (.bool true) ∧ w = w') (cL : ∀ w, Calls Tryd.prog 68 #[W s] w fun e w' => e = .returned (.int .i64 (l : Nat)) ∧ Below w.heap.size w w') :
    Calls Tryd.prog 39 #[.int .u8 f, .int .u8 m, RV neg s e true] w fun e w' => e = .returned (.tuple #[BV 0, .int .u8 0, .int .i64 2]) ∧ Below w.heap.size w w' := by
  have H := Own.start w
  have he2 : decide (e < -1048576) = false := by simp; omega
  have he3 : decide (1048576 < e) = false := by simp; omega
  have hl2 : decide ((l : Int) < (p : Int) + 2) = true := by simp; omega
  go_enter Tryd.func39, Tryd.ntmps39
  exact walk7
theorem roundPack_zero_f (f m s p l z : Nat) (e : Int) (neg : Bool) (w : World) (hT : Tab w) (hp : p ≤ 113) (h1 : -1048576 ≤ e) (h2 : e ≤ 1048576) (hl4 : l ≤ 384) (cP : ∀ w, Calls Tryd.prog 53 #[.int .u8 f] w fun e w' => e = .returned (.int .i64 (p : Nat)) ∧ Below w.heap.size w w') (cR : ∀ w, Calls Tryd.prog 72 #[.int .u8 f, .int .u8 m] w fun e w' => e = .returned (.bool true) ∧ w = w') (cL : ∀ w, Calls Tryd.prog 68 #[W s] w fun e w' => e = .returned (.int .i64 (l : Nat)) ∧ Below w.heap.size w w') (hs : s < top6) (hs0 : decide (s = 0) = true) (cZ : ∀ w, Calls Tryd.prog 14 #[.int .u8 f, .bool neg] w fun e w' => e = .returned (BV z) ∧ Below w.heap.size w w') :
    Calls Tryd.prog 39 #[.int .u8 f, .int .u8 m, RV neg s e false] w fun e w' => e = .returned (.tuple #[BV z, .int .u8 0, .int .i64 0]) ∧ Below w.heap.size w w' := by
  have H := Own.start w
  have HT := Lib.hid hT
  clear hT
  have he2 : decide (e < -1048576) = false := by simp; omega
  have he3 : decide (1048576 < e) = false := by simp; omega
  have eq1 : ∀ w, (Op.equalIn 10000 46 (.agg (limbs s)) (.agg #[.int .u64 0, .int .u64 0, .int .u64 0, .int .u64 0, .int .u64 0, .int .u64 0])).run Tryd.prog w = .ok true w := fun w => (run_equal_zero w s hs).trans (by rw [hs0])
  clear hs hs0
  go_enter Tryd.func39, Tryd.ntmps39
  exact walk7
theorem roundPack_over_f (f m s p l E o : Nat) (e top lo : Int) (neg : Bool) (w : World) (hT : Tab w) (hp : p ≤ 113) (h1 : -1048576 ≤ e) (h2 : e ≤ 1048576) (hl4 : l ≤ 384) (cP : ∀ w, Calls Tryd.prog 53 #[.int .u8 f] w fun e w' => e = .returned (.int .i64 (p : Nat)) ∧ Below w.heap.size w w') (cR : ∀ w, Calls Tryd.prog 72 #[.int .u8 f, .int .u8 m] w fun e w' => e = .returned (.bool true) ∧ w = w') (cL : ∀ w, Calls Tryd.prog 68 #[W s] w fun e w' => e = .returned (.int .i64 (l : Nat)) ∧ Below w.heap.size w w') (hs : s < top6) (hs0 : decide (s = 0) = false) (htop : (l : Int) - 1 + e = top) (l1 : -20000 ≤ lo) (l2 : lo ≤ 20000) (t1 : -1100000 ≤ top) (t2 : top ≤ 1100000) (hE : E ≤ 16383) (cE : ∀ w, Calls Tryd.prog 73 #[.int .u8 f] w fun e w' => e = .returned (.int .i64 lo) ∧ Below w.heap.size w w') (cX : ∀ w, Calls Tryd.prog 43 #[.int .u8 f] w fun e w' => e = .returned (.int .i64 (E : Nat)) ∧ Below w.heap.size w w') (hov : (E : Int) < top) (cO : ∀ w, Calls Tryd.prog 74 #[.int .u8 f, .int .u8 m, .bool neg] w fun e w' => e = .returned (.tuple #[BV o, .int .u8 5, .int .i64 0]) ∧ Below w.heap.size w w') :
    Calls Tryd.prog 39 #[.int .u8 f, .int .u8 m, RV neg s e false] w fun e w' => e = .returned (.tuple #[BV o, .int .u8 5, .int .i64 0]) ∧ Below w.heap.size w w' := by
  have H := Own.start w
  have HT := Lib.hid hT
  clear hT
  have he2 : decide (e < -1048576) = false := by simp; omega
  have he3 : decide (1048576 < e) = false := by simp; omega
  have eq1 : ∀ w, (Op.equalIn 10000 46 (.agg (limbs s)) (.agg #[.int .u64 0, .int .u64 0, .int .u64 0, .int .u64 0, .int .u64 0, .int .u64 0])).run Tryd.prog w = .ok false w := fun w => (run_equal_zero w s hs).trans (by rw [hs0])
  have v1 : IntKind.i64.wrap ((l : Int) - 1) = (l : Int) - 1 := IntWalk.i64_in _ (by omega)
  have v2 : IntKind.i64.wrap ((l : Int) - 1 + e) = top := by rw [htop]; exact IntWalk.i64_in _ (by omega)
  clear hs hs0 htop
  go_enter Tryd.func39, Tryd.ntmps39
  exact walk6
theorem roundPack_zero_t (f m s p l z : Nat) (e : Int) (neg : Bool) (w : World) (hT : Tab w) (hp : p ≤ 113) (h1 : -1048576 ≤ e) (h2 : e ≤ 1048576) (hl4 : l ≤ 384) (hl : ¬ l < p + 2) (cP : ∀ w, Calls Tryd.prog 53 #[.int .u8 f] w fun e w' => e = .returned (.int .i64 (p : Nat)) ∧ Below w.heap.size w w') (cR : ∀ w, Calls Tryd.prog 72 #[.int .u8 f, .int .u8 m] w fun e w' => e = .returned (.bool true) ∧ w = w') (cL : ∀ w, Calls Tryd.prog 68 #[W s] w fun e w' => e = .returned (.int .i64 (l : Nat)) ∧ Below w.heap.size w w') (hs : s < top6) (hs0 : decide (s = 0) = true) (cZ : ∀ w, Calls Tryd.prog 14 #[.int .u8 f, .bool neg] w fun e w' => e = .returned (BV z) ∧ Below w.heap.size w w') :
    Calls Tryd.prog 39 #[.int .u8 f, .int .u8 m, RV neg s e true] w fun e w' => e = .returned (.tuple #[BV z, .int .u8 0, .int .i64 0]) ∧ Below w.heap.size w w' := by
  have H := Own.start w
  have HT := Lib.hid hT
  clear hT
  have he2 : decide (e < -1048576) = false := by simp; omega
  have he3 : decide (1048576 < e) = false := by simp; omega
  have hl2 : decide ((l : Int) < (p : Int) + 2) = false := by simp; omega
  have eq1 : ∀ w, (Op.equalIn 10000 46 (.agg (limbs s)) (.agg #[.int .u64 0, .int .u64 0, .int .u64 0, .int .u64 0, .int .u64 0, .int .u64 0])).run Tryd.prog w = .ok true w := fun w => (run_equal_zero w s hs).trans (by rw [hs0])
  clear hs hs0
  go_enter Tryd.func39, Tryd.ntmps39
  exact walk7
theorem roundPack_over_t (f m s p l E o : Nat) (e top lo : Int) (neg : Bool) (w : World) (hT : Tab w) (hp : p ≤ 113) (h1 : -1048576 ≤ e) (h2 : e ≤ 1048576) (hl4 : l ≤ 384) (hl : ¬ l < p + 2) (cP : ∀ w, Calls Tryd.prog 53 #[.int .u8 f] w fun e w' => e = .returned (.int .i64 (p : Nat)) ∧ Below w.heap.size w w') (cR : ∀ w, Calls Tryd.prog 72 #[.int .u8 f, .int .u8 m] w fun e w' => e = .returned (.bool true) ∧ w = w') (cL : ∀ w, Calls Tryd.prog 68 #[W s] w fun e w' => e = .returned (.int .i64 (l : Nat)) ∧ Below w.heap.size w w') (hs : s < top6) (hs0 : decide (s = 0) = false) (htop : (l : Int) - 1 + e = top) (l1 : -20000 ≤ lo) (l2 : lo ≤ 20000) (t1 : -1100000 ≤ top) (t2 : top ≤ 1100000) (hE : E ≤ 16383) (cE : ∀ w, Calls Tryd.prog 73 #[.int .u8 f] w fun e w' => e = .returned (.int .i64 lo) ∧ Below w.heap.size w w') (cX : ∀ w, Calls Tryd.prog 43 #[.int .u8 f] w fun e w' => e = .returned (.int .i64 (E : Nat)) ∧ Below w.heap.size w w') (hov : (E : Int) < top) (cO : ∀ w, Calls Tryd.prog 74 #[.int .u8 f, .int .u8 m, .bool neg] w fun e w' => e = .returned (.tuple #[BV o, .int .u8 5, .int .i64 0]) ∧ Below w.heap.size w w') :
    Calls Tryd.prog 39 #[.int .u8 f, .int .u8 m, RV neg s e true] w fun e w' => e = .returned (.tuple #[BV o, .int .u8 5, .int .i64 0]) ∧ Below w.heap.size w w' := by
  have H := Own.start w
  have HT := Lib.hid hT
  clear hT
  have he2 : decide (e < -1048576) = false := by simp; omega
  have he3 : decide (1048576 < e) = false := by simp; omega
  have hl2 : decide ((l : Int) < (p : Int) + 2) = false := by simp; omega
  have eq1 : ∀ w, (Op.equalIn 10000 46 (.agg (limbs s)) (.agg #[.int .u64 0, .int .u64 0, .int .u64 0, .int .u64 0, .int .u64 0, .int .u64 0])).run Tryd.prog w = .ok false w := fun w => (run_equal_zero w s hs).trans (by rw [hs0])
  have v1 : IntKind.i64.wrap ((l : Int) - 1) = (l : Int) - 1 := IntWalk.i64_in _ (by omega)
  have v2 : IntKind.i64.wrap ((l : Int) - 1 + e) = top := by rw [htop]; exact IntWalk.i64_in _ (by omega)
  clear hs hs0 htop
  go_enter Tryd.func39, Tryd.ntmps39
  exact walk6
open Go.RowKit
theorem app_get (p q r : Array Value) (hp : p.size = 14) (hq : q.size = 14) (hr : r.size = 14) (j : Nat) : (p ++ q ++ r)[j]? = if j < 14 then p[j]? else if j < 28 then q[j - 14]? else r[j - 28]? := by
  rw [Array.getElem?_append, Array.getElem?_append, Array.size_append, hp, hq]
  by_cases h1 : j < 14
  · rw [if_pos (by omega), if_pos h1, if_pos h1]
  · by_cases h2 : j < 28
    · rw [if_pos (by omega), if_neg h1, if_neg h1, if_pos h2]
    · rw [if_neg (by omega), if_neg h1, if_neg h2]
theorem app_size (p q r : Array Value) (hp : p.size = 14) (hq : q.size = 14) (hr : r.size = 14) : (p ++ q ++ r).size = 42 := by rw [Array.size_append, Array.size_append, hp, hq, hr]
theorem set_app0 (p q r v : Array Value) (hp : p.size = 14) (hq : q.size = 14) (hr : r.size = 14) (hv : v.size = 14) : setRow (p ++ q ++ r) 0 v.toList = v ++ q ++ r := by
  apply Array.ext_getElem?
  intro j
  rw [setRow_at _ _ _ _ (by rw [app_size p q r hp hq hr]; omega), app_get p q r hp hq hr, app_get v q r hv hq hr, hv, if_neg (by omega)]
  by_cases h1 : j < 14
  · rw [if_pos (by omega), if_pos h1]; rfl
  · rw [if_neg (by omega), if_neg h1, if_neg h1]
theorem set_app1 (p q r v : Array Value) (hp : p.size = 14) (hq : q.size = 14) (hr : r.size = 14) (hv : v.size = 14) : setRow (p ++ q ++ r) 14 v.toList = p ++ v ++ r := by
  apply Array.ext_getElem?
  intro j
  rw [setRow_at _ _ _ _ (by rw [app_size p q r hp hq hr]; omega), app_get p q r hp hq hr, app_get p v r hp hv hr, hv]
  by_cases h1 : j < 14
  · rw [if_pos (by omega), if_pos h1, if_pos h1]
  · by_cases h2 : j < 28
    · rw [if_neg (by omega), if_pos (by omega), if_neg h1, if_pos h2]
    · rw [if_neg (by omega), if_neg (by omega), if_neg h1, if_neg h2, if_neg h1, if_neg h2]
theorem set_app2 (p q r v : Array Value) (hp : p.size = 14) (hq : q.size = 14) (hr : r.size = 14) (hv : v.size = 14) : setRow (p ++ q ++ r) 28 v.toList = p ++ q ++ v := by
  apply Array.ext_getElem?
  intro j
  rw [setRow_at _ _ _ _ (by rw [app_size p q r hp hq hr]; omega), app_get p q r hp hq hr, app_get p q v hp hq hv, hv]
  by_cases h1 : j < 14
  · rw [if_pos (by omega), if_pos h1, if_pos h1]
  · by_cases h2 : j < 28
    · rw [if_pos (by omega), if_neg h1, if_pos h2, if_neg h1, if_pos h2]
    · rw [if_neg (by omega), if_neg h1, if_neg h2]
      by_cases h3 : j < 42
      · rw [if_pos (by omega), if_neg h1, if_neg h2]
      · rw [if_neg (by omega), if_neg h1, if_neg h2, Array.getElem?_eq_none (by omega), Array.getElem?_eq_none (by omega)]
/-- Three parts. -/
def tri (c1 s1 : Nat) (x1 : Int) (f1 : Nat) (c2 s2 : Nat) (x2 : Int) (f2 : Nat) (c3 s3 : Nat) (x3 : Int) (f3 : Nat) : Array Value := #[.int .u8 c1, .int .u64 (limb s1 0), .int .u64 (limb s1 1), .int .u64 (limb s1 2), .int .u64 (limb s1 3), .int .u64 (limb s1 4), .int .u64 (limb s1 5), .int .i64 x1, .int .u64 (limb f1 0), .int .u64 (limb f1 1), .int .u64 (limb f1 2), .int .u64 (limb f1 3), .int .u64 (limb f1 4), .int .u64 (limb f1 5), .int .u8 c2, .int .u64 (limb s2 0), .int .u64 (limb s2 1), .int .u64 (limb s2 2), .int .u64 (limb s2 3), .int .u64 (limb s2 4), .int .u64 (limb s2 5), .int .i64 x2, .int .u64 (limb f2 0), .int .u64 (limb f2 1), .int .u64 (limb f2 2), .int .u64 (limb f2 3), .int .u64 (limb f2 4), .int .u64 (limb f2 5), .int .u8 c3, .int .u64 (limb s3 0), .int .u64 (limb s3 1), .int .u64 (limb s3 2), .int .u64 (limb s3 3), .int .u64 (limb s3 4), .int .u64 (limb s3 5), .int .i64 x3, .int .u64 (limb f3 0), .int .u64 (limb f3 1), .int .u64 (limb f3 2), .int .u64 (limb f3 3), .int .u64 (limb f3 4), .int .u64 (limb f3 5)]
theorem ext_tri (c1 s1 : Nat) (x1 : Int) (f1 : Nat) (c2 s2 : Nat) (x2 : Int) (f2 : Nat) (c3 s3 : Nat) (x3 : Int) (f3 : Nat) : (tri c1 s1 x1 f1 c2 s2 x2 f2 c3 s3 x3 f3).extract 0 (0 + (tri c1 s1 x1 f1 c2 s2 x2 f2 c3 s3 x3 f3).size) = tri c1 s1 x1 f1 c2 s2 x2 f2 c3 s3 x3 f3 := by rw [Nat.zero_add]; exact Array.extract_size
theorem tri_app (c1 s1 : Nat) (x1 : Int) (f1 : Nat) (c2 s2 : Nat) (x2 : Int) (f2 : Nat) (c3 s3 : Nat) (x3 : Int) (f3 : Nat) : tri c1 s1 x1 f1 c2 s2 x2 f2 c3 s3 x3 f3 = parts c1 s1 x1 f1 ++ parts c2 s2 x2 f2 ++ parts c3 s3 x3 f3 := by unfold tri parts; simp only [List.append_toArray, List.cons_append, List.nil_append]
theorem ext_t0 (c1 s1 : Nat) (x1 : Int) (f1 : Nat) (c2 s2 : Nat) (x2 : Int) (f2 : Nat) (c3 s3 : Nat) (x3 : Int) (f3 : Nat) : (tri c1 s1 x1 f1 c2 s2 x2 f2 c3 s3 x3 f3).extract 0 (0 + (parts c1 s1 x1 f1).size) = parts c1 s1 x1 f1 := by rw [tri_app]; exact app3_0 _ _ _
theorem set_t0 (c1 s1 : Nat) (x1 : Int) (f1 : Nat) (c2 s2 : Nat) (x2 : Int) (f2 : Nat) (c3 s3 : Nat) (x3 : Int) (f3 : Nat) (c s : Nat) (x : Int) (f : Nat) : setRow (tri c1 s1 x1 f1 c2 s2 x2 f2 c3 s3 x3 f3) 0 (parts c s x f).toList = tri c s x f c2 s2 x2 f2 c3 s3 x3 f3 := by rw [tri_app, set_app0 _ _ _ _ rfl rfl rfl rfl, tri_app]
theorem ext_t1 (c1 s1 : Nat) (x1 : Int) (f1 : Nat) (c2 s2 : Nat) (x2 : Int) (f2 : Nat) (c3 s3 : Nat) (x3 : Int) (f3 : Nat) : (tri c1 s1 x1 f1 c2 s2 x2 f2 c3 s3 x3 f3).extract 14 (14 + (parts c2 s2 x2 f2).size) = parts c2 s2 x2 f2 := by rw [tri_app]; exact app3_1 _ _ _ rfl
theorem set_t1 (c1 s1 : Nat) (x1 : Int) (f1 : Nat) (c2 s2 : Nat) (x2 : Int) (f2 : Nat) (c3 s3 : Nat) (x3 : Int) (f3 : Nat) (c s : Nat) (x : Int) (f : Nat) : setRow (tri c1 s1 x1 f1 c2 s2 x2 f2 c3 s3 x3 f3) 14 (parts c s x f).toList = tri c1 s1 x1 f1 c s x f c3 s3 x3 f3 := by rw [tri_app, set_app1 _ _ _ _ rfl rfl rfl rfl, tri_app]
theorem ext_t2 (c1 s1 : Nat) (x1 : Int) (f1 : Nat) (c2 s2 : Nat) (x2 : Int) (f2 : Nat) (c3 s3 : Nat) (x3 : Int) (f3 : Nat) : (tri c1 s1 x1 f1 c2 s2 x2 f2 c3 s3 x3 f3).extract 28 (28 + (parts c3 s3 x3 f3).size) = parts c3 s3 x3 f3 := by rw [tri_app]; exact app3_2 _ _ _ rfl
theorem set_t2 (c1 s1 : Nat) (x1 : Int) (f1 : Nat) (c2 s2 : Nat) (x2 : Int) (f2 : Nat) (c3 s3 : Nat) (x3 : Int) (f3 : Nat) (c s : Nat) (x : Int) (f : Nat) : setRow (tri c1 s1 x1 f1 c2 s2 x2 f2 c3 s3 x3 f3) 28 (parts c s x f).toList = tri c1 s1 x1 f1 c2 s2 x2 f2 c s x f := by rw [tri_app, set_app2 _ _ _ _ rfl rfl rfl rfl, tri_app]
theorem tri_zero : tri 0 0 0 0 0 0 0 0 0 0 0 0 = #[.int .u8 0, .int .u64 0, .int .u64 0, .int .u64 0, .int .u64 0, .int .u64 0, .int .u64 0, .int .i64 0, .int .u64 0, .int .u64 0, .int .u64 0, .int .u64 0, .int .u64 0, .int .u64 0, .int .u8 0, .int .u64 0, .int .u64 0, .int .u64 0, .int .u64 0, .int .u64 0, .int .u64 0, .int .i64 0, .int .u64 0, .int .u64 0, .int .u64 0, .int .u64 0, .int .u64 0, .int .u64 0, .int .u8 0, .int .u64 0, .int .u64 0, .int .u64 0, .int .u64 0, .int .u64 0, .int .u64 0, .int .i64 0, .int .u64 0, .int .u64 0, .int .u64 0, .int .u64 0, .int .u64 0, .int .u64 0] := by
  unfold tri; simp only [limb_zero]; rfl
theorem t3_z : (Tryd.prog.info? 52).bind (·.zero) = some (.agg (tri 0 0 0 0 0 0 0 0 0 0 0 0)) := by rw [tri_zero]; kernel_rfl
theorem rQ : IsRow Tryd.prog 52 42 (tri 0 0 0 0 0 0 0 0 0 0 0 0) := ⟨⟨_, Tryd.underlying52, rfl⟩, t3_s, t3_z⟩
theorem set_tri (a1 a2 : Nat) (a3 : Int) (a4 a5 a6 : Nat) (a7 : Int) (a8 a9 a10 : Nat) (a11 : Int) (a12 c1 s1 : Nat) (x1 : Int) (f1 : Nat) (c2 s2 : Nat) (x2 : Int) (f2 : Nat) (c3 s3 : Nat) (x3 : Int) (f3 : Nat) : setRow (tri a1 a2 a3 a4 a5 a6 a7 a8 a9 a10 a11 a12) 0 (tri c1 s1 x1 f1 c2 s2 x2 f2 c3 s3 x3 f3).toList = tri c1 s1 x1 f1 c2 s2 x2 f2 c3 s3 x3 f3 := set_all _ _ rfl
theorem set_pw (a b : Nat) (x : Int) (d c s : Nat) (y : Int) (f : Nat) : setRow (parts a b x d) 0 (parts c s y f).toList = parts c s y f := set_all _ _ rfl
abbrev PZ : Array Value := parts 0 0 0 0
/-- The parts of an encoding. -/
abbrev PT (f b : Nat) : Array Value := parts (clsN f b) (sigN f b) (xpN f b) (frN f b)
abbrev bc (b : Nat) : Array Value := #[.int .u64 (limb b 1), .int .u64 (limb b 0)]
theorem flag_on (b c : Bool) (h : c = true) : Value.int .u8 (Go.bits .or .u8 (cond b 16 0) 16) = .int .u8 (cond c 16 0) := by
  subst h; have : Go.bits .or .u8 (cond b 16 0) 16 = 16 := by cases b <;> decide +kernel
  rw [this]; rfl
theorem flag_on0 (c : Bool) (h : c = true) : Value.int .u8 (Go.bits .or .u8 0 16) = .int .u8 (cond c 16 0) := by subst h; exact flag_on false true rfl
theorem flag_off0 (c : Bool) (h : c = false) : Value.int .u8 0 = .int .u8 (cond c 16 0) := by subst h; rfl
theorem flag_off (b c : Bool) (h : c = b) : Value.int .u8 (cond b 16 0) = .int .u8 (cond c 16 0) := by rw [h]
end Go.Proofs.YtbngedcblngnhaaDoor
