/- Part 2 of what is proved: Mem, Wleft, Mem3, Mem7, Pw, Px, Rb, R2, R2m, R7, R8f, R8, Lfi, Dor. -/
import Derived.WalkKit
import Derived.WalkSpells
import Derived.Handy
import Derived.Lib.Hide
import Derived.Below
import Derived.OrdersHeld
import Derived.Deep.MidRow
import Derived.BigQuiet
import Derived.Deep.QuietTactic
import Init
import Derived.RegionTactic
import Derived.Deep.RegionWith
import Derived.Outline
import Derived.ChangeKeysEq
import Derived.Lib.ItoaNum
import Derived.Test.YtbngedcblngnhaaDoorRows
import Derived.WalkLawsBesides
import Derived.Laws.BitsAllLaws
import Derived.Shelf.Strconv.Itoa0
import Derived.Shelf.Bits.Mul64
import Derived.Test.YtbngedcblngnhaaDoorProg
import Derived.Shelf.Spec.TrailingZeros
import Derived.Deep.RegionHeld3
import Derived.Deep.Cut
import Derived.StillTailTactics
import Derived.Test.YtbngedcblngnhaaDoorTie
import Derived.Test.YtbngedcblngnhaaDoorCards
import Derived.ProofKit
import Derived.LaidMore
import Derived.OpenShut
import Derived.Stop.Joined
import Derived.SevenTiedAt
import Derived.Lib.SmallJoins
import Derived.ChangeOld
import Derived.Carry
import Derived.Test.YtbngedcblngnhaaDoorHs35
import Derived.Test.YtbngedcblngnhaaDoorHs36
import Derived.Test.YtbngedcblngnhaaDoorHs0
import Derived.Test.YtbngedcblngnhaaDoorHs1
import Derived.Test.YtbngedcblngnhaaDoorHs2
import Derived.Test.YtbngedcblngnhaaDoorHs3
import Derived.Test.YtbngedcblngnhaaDoorHs4
import Derived.Test.YtbngedcblngnhaaDoorHs5
import Derived.Test.YtbngedcblngnhaaDoorHs6
import Derived.Test.YtbngedcblngnhaaDoorHs7
import Derived.Test.YtbngedcblngnhaaDoorHs8
import Derived.Test.YtbngedcblngnhaaDoorHs9
import Derived.Test.YtbngedcblngnhaaDoorHs10
import Derived.Test.YtbngedcblngnhaaDoorHs11
import Derived.Test.YtbngedcblngnhaaDoorHs12
import Derived.Test.YtbngedcblngnhaaDoorHs13
import Derived.Test.YtbngedcblngnhaaDoorHs14
import Derived.Test.YtbngedcblngnhaaDoorHs15
import Derived.Test.YtbngedcblngnhaaDoorHs16
import Derived.Test.YtbngedcblngnhaaDoorHs17
import Derived.Test.YtbngedcblngnhaaDoorHs18
import Derived.Test.YtbngedcblngnhaaDoorHs19
import Derived.Test.YtbngedcblngnhaaDoorHs20
import Derived.Test.YtbngedcblngnhaaDoorHs21
import Derived.Test.YtbngedcblngnhaaDoorHs22
import Derived.Test.YtbngedcblngnhaaDoorHs23
import Derived.Test.YtbngedcblngnhaaDoorHs24
import Derived.Test.YtbngedcblngnhaaDoorHs25
import Derived.Test.YtbngedcblngnhaaDoorHs26
import Derived.Test.YtbngedcblngnhaaDoorHs27
import Derived.Test.YtbngedcblngnhaaDoorHs28
import Derived.Test.YtbngedcblngnhaaDoorHs29
import Derived.Test.YtbngedcblngnhaaDoorHs30
import Derived.Test.YtbngedcblngnhaaDoorHs31
import Derived.Test.YtbngedcblngnhaaDoorHs32
import Derived.Test.YtbngedcblngnhaaDoorHs33
set_option linter.unusedSimpArgs false
set_option linter.unusedVariables false
set_option linter.unnecessarySimpa false
set_option maxRecDepth 100000
set_option maxHeartbeats 1600000
namespace Go.Proofs.YtbngedcblngnhaaDoor
open Go.RowKit
section
variable {T : TypeId} {w : World} {g : Nat} {cs : Array Value}
end
section
variable {w0 w w' : World} {L : List Bk}
variable {P : Program} {ops : Array Oper} {Q : Exit → Act → World → Prop} {rest : List Oper} {op : Oper} {a : Act}
variable {S : World → Prop}
theorem yields_off (hw : Region.wanted op (yielded ops a.tmps) = false) : YieldsIf P ops S op undef a := Or.inr ⟨hw, rfl⟩
end
open Go.RowKit
theorem clip_of (n : Nat) (h : n ≤ 384) : clip (n : Int) = n := by unfold clip; omega
open Go.RowKit
section
variable {P : Program} {w0 w : World} {L L' : List Bk} {op : Oper} {a : Act} {Q : Exit → Act → World → Prop} {ops : Array Oper} {S : World → Prop} {md : Region.Mode} {fuel : Nat} {listed : Array Bool}
theorem Own.takeOff (H : Own w0 w L) (hL : List.Sublist L' L) (i : Nat) (hi : ops[i]? = some op) (hs : Region.noSelect ops = true) (hf : Region.free md ops listed i = true) (hr : (Region.ready md ops listed).contains i = true)
    (hQ : ∀ v c a w, Q (.panic c) (a.put op.dst v) w → Q (.panic c) a w) (hw : Region.wanted op (yielded ops a.tmps) = false)
    (h : wpAnyH P md ops Q (fun w' => Own w0 w' L') fuel (listed.setIfInBounds i true) (a.put op.dst undef) w) : wpAnyH P md ops Q (fun w' => Own w0 w' L') (fuel + 1) listed a w :=
  wpAnyH_take hi hs hf hr (hQ undef) (yields_off hw) (H.sub hL) h
end
open Go.RowKit
section
variable {P : Program} {w0 w : World} {L L' : List Bk} {op : Oper} {a : Act} {Q : Exit → Act → World → Prop} {ops : Array Oper} {rest : List Oper} {K : Act → World → Prop} {md : Region.Mode} {fuel : Nat} {listed : Array Bool} {S : World → Prop}
  {t : TypeId} {n g o : Nat} {z cs cs' vs : Array Value} {v : Value} {r : Array Value} {x y : Operand} {T : TypeId} {op2 op3 : Oper}
theorem Own.zo (H : Own w0 w L) (i : Nat) (h : wpAnyH P md ops Q (fun w' => Own w0 w' L') fuel (listed.setIfInBounds i true) (a.put op.dst undef) w) (hL : List.Sublist L' L := by repeat (first | with_reducible exact List.Sublist.refl _ | with_reducible apply List.Sublist.cons_cons | with_reducible apply List.Sublist.cons)) (hi' : ops[i]? = some op := by exact rfl) (hs' : Region.noSelect ops = true := by kernel_rfl) (hf : Region.free md ops listed i = true := by kernel_rfl) (hr : (Region.ready md ops listed).contains i = true := by kernel_rfl) (hQ : ∀ v c a w, Q (.panic c) (a.put op.dst v) w → Q (.panic c) a w := by first | exact fun _ _ _ _ h => h | exact fun _ _ _ _ h => by cases h.1) (hw : Region.wanted op (yielded ops a.tmps) = false := by exact rfl) : wpAnyH P md ops Q (fun w' => Own w0 w' L') (fuel + 1) listed a w := H.takeOff hL i hi' hs' hf hr hQ hw h
end
/-- The special encodings. -/
theorem nan_parts (f : Nat) (hf : f < 4) : fitsB f (nanN f) = true ∧ clsN f (nanN f) = 9 := by
  have : f = 0 ∨ f = 1 ∨ f = 2 ∨ f = 3 := by omega
  rcases this with rfl | rfl | rfl | rfl <;> decide +kernel
theorem inf_parts (f : Nat) (neg : Bool) (hf : f < 4) : fitsB f (infN f neg) = true ∧ clsN f (infN f neg) = cond neg 0 7 := by
  rw [infN_mk f neg hf]
  obtain ⟨m1, m2, m3, m4⟩ := mkN_fields f hf neg (2 * eF f + 1) 0 (two_pos _) (by omega)
  refine ⟨m4, ?_⟩
  have h0 := (formK f hf).2.2.2.1
  rcases cls_cases f (mkN f neg (2 * eF f + 1) 0) with ⟨e1, e2, e3⟩ | ⟨e1, e2, e3⟩ | ⟨e1, e2, e3⟩ | ⟨e1, e2, e3⟩ | ⟨e1, e2, e3⟩
  · rw [e3]; unfold negN; rw [m3]
  · exact absurd m1 e2
  · omega
  · omega
  · exact absurd m2 e2
/-- Infinity times zero. -/
theorem fma_invalid (f m a b c : Nat) (h : (infB (clsN f a) && zerB (clsN f b) || infB (clsN f b) && zerB (clsN f a)) = true) : fmaR f m a b c = (nanN f, 16) := by
  unfold fmaR; rw [if_pos h]
open Go.RowKit
theorem bit_t (a i : Nat) (h : a.testBit i = true) : a % 2 ^ (i + 1) = a % 2 ^ i + 2 ^ i := by
  rw [mod_split]
  rw [Nat.testBit_eq_decide_div_mod_eq, decide_eq_true_iff] at h
  rw [h, Nat.mul_one]
theorem bit_f (a i : Nat) (h : a.testBit i = false) : a % 2 ^ (i + 1) = a % 2 ^ i := by
  rw [mod_split]
  rw [Nat.testBit_eq_decide_div_mod_eq, decide_eq_false_iff_not] at h
  have : a / 2 ^ i % 2 < 2 := Nat.mod_lt _ (by decide)
  rw [show a / 2 ^ i % 2 = 0 by omega, Nat.mul_zero, Nat.add_zero]
theorem pow_parts (i n : Nat) (h : n ≤ i) : 2 ^ i = 2 ^ (i - n) * 2 ^ n := by rw [← Nat.pow_add]; congr 1; omega
theorem right_t (a n i : Nat) (h : a.testBit i = true) (hn : n ≤ i) : a % 2 ^ (i + 1) / 2 ^ n = a % 2 ^ i / 2 ^ n + 2 ^ (i - n) ∧ a % 2 ^ i / 2 ^ n < 2 ^ (i - n) := by
  constructor
  · rw [bit_t a i h, pow_parts i n hn, Nat.add_mul_div_right _ _ (two_pos n)]
  · rw [Nat.div_lt_iff_lt_mul (two_pos n), ← pow_parts i n hn]; exact Nat.mod_lt _ (two_pos i)
theorem right_lo (a n i : Nat) (hn : i ≤ n) : a % 2 ^ i / 2 ^ n = 0 :=
  Nat.div_eq_of_lt (Nat.lt_of_lt_of_le (Nat.mod_lt _ (two_pos i)) (Nat.pow_le_pow_right (by decide) hn))
/-- What a shift to the right has lost so far. -/
def lostRi (a n i : Nat) : Bool := decide (a % 2 ^ min i n ≠ 0)
theorem lostRi_zero (a n : Nat) : lostRi a n 0 = false := by unfold lostRi; rw [Nat.zero_min, Nat.pow_zero, Nat.mod_one]; rfl
theorem lostRi_ge (a n i : Nat) (hn : n ≤ i) : lostRi a n (i + 1) = lostRi a n i := by unfold lostRi; rw [show min (i + 1) n = min i n by omega]
theorem lostRi_f (a n i : Nat) (h : a.testBit i = false) : lostRi a n (i + 1) = lostRi a n i := by
  rcases Nat.lt_or_ge i n with hi | hi
  · unfold lostRi; rw [show min (i + 1) n = i + 1 by omega, show min i n = i by omega, bit_f a i h]
  · exact lostRi_ge a n i hi
theorem lostRi_t (a n i : Nat) (h : a.testBit i = true) (hi : i < n) : lostRi a n (i + 1) = true := by
  unfold lostRi; rw [show min (i + 1) n = i + 1 by omega, bit_t a i h, decide_eq_true_iff]
  have := two_pos i; omega
theorem lostRi_all (a n i : Nat) (hn : n ≤ i) : lostRi a n i = decide (a % 2 ^ n ≠ 0) := by unfold lostRi; rw [Nat.min_eq_right hn]
theorem mod_384 (a k : Nat) (hk : k = 384) (ha : a < top6) : a % 2 ^ k = a := Nat.mod_eq_of_lt (by rw [hk, show 384 = 64 * 6 from rfl, ← top6.eq_1]; exact ha)
/-- Ones from below. -/
theorem mask_step (i : Nat) : 2 ^ (i + 1) - 1 = (2 ^ i - 1) + 2 ^ i ∧ 2 ^ i - 1 < 2 ^ i := by
  have := two_pos i
  rw [Nat.pow_succ]; omega
/-- A bit put in at a place. -/
theorem low_any (a n : Nat) (ha : a < top6) (hn : n ≤ 384) : decide (a % 2 ^ n ≠ 0) = lostR a n := by
  unfold lostR
  by_cases h : a = 0
  · subst h; simp
  · obtain ⟨m, h1, h2⟩ := lowN_spec a ha h
    generalize lowN a = l at *
    rw [decide_eq_false h, Bool.not_false, Bool.true_and, decide_eq_decide]
    rw [h1]
    constructor
    · intro h3
      rcases Nat.lt_or_ge l n with h4 | h4
      · exact h4
      · exfalso; apply h3
        rw [pow_parts l n h4, Nat.mul_comm (2 ^ (l - n)), Nat.mul_assoc, Nat.mul_mod_right]
    · intro h3 h4
      obtain ⟨d, rfl⟩ : ∃ d, n = l + (d + 1) := ⟨n - l - 1, by omega⟩
      rw [Nat.pow_add, Nat.mul_mod_mul_left] at h4
      have h5 := two_pos l
      have h6 : (2 * m + 1) % 2 ^ (d + 1) = 0 := by rcases Nat.mul_eq_zero.1 h4 with h | h; omega; exact h
      rw [Nat.pow_succ, Nat.mul_comm (2 ^ d), Nat.mod_mul] at h6
      have h7 : (2 * m + 1) % 2 = 1 := by omega
      omega
theorem set_bit_at (t p i s : Nat) (ht : t < 2 ^ p) (hp : p = 64 * i + s) (hs : s < 64) (hi : i < 6) :
    setRow (limbs t) i (#[.int .u64 (Go.bits .or .u64 (limb t i) (IntKind.u64.wrap (2 ^ s)))] : Array Value).toList = limbs (t + 2 ^ p) := by
  subst hp
  exact limbs_top t i s ht hs hi
open Go.RowKit
theorem set_limbsR (a b : Nat) : setRow (limbs a) 0 (limbs b).toList = limbs b := set_all _ _ rfl
theorem run_index_r (a k : Nat) (hk : k < 6) (w : World) : (Instr.index 46 (.agg (limbs a)) (.int .i64 (k : Int))).run Tryd.prog w = .ok (.int .u64 (limb a k)) w := run_index_wide w a k hk
theorem set_w0 (b : Nat) : setRow (limbs 0) 0 (#[.int .u64 (limb b 0)] : Array Value).toList = limbs (limbN b 0) := by
  have h := limbs_put 0 (limbN b 0) 0 (by decide) (by decide) (limbN_lt b 0)
  rw [Nat.zero_add, Nat.mul_zero, Nat.pow_zero, Nat.mul_one] at h
  exact h
theorem set_w1 (b : Nat) : setRow (limbs (limbN b 0)) 1 (#[.int .u64 (limb b 1)] : Array Value).toList = limbs (b % 2 ^ (64 * 2)) := by
  have h := limbs_put (limbN b 0) (limbN b 1) 1 (by decide) (by rw [Nat.mul_one, ← B64]; exact limbN_lt b 0) (limbN_lt b 1)
  rw [mod_low b 1, mod_low b 0, Nat.mul_zero, Nat.pow_zero, Nat.mod_one, Nat.zero_add, Nat.mul_one]
  exact h
theorem ofBits_ret (b : Nat) (hb : b < 2 ^ (64 * 2)) : W (b % 2 ^ (64 * 2)) = W b := by rw [Nat.mod_eq_of_lt hb]
theorem shr_test (x i : Nat) (hx : x < 18446744073709551616) (hi : i < 64) : (Go.bits .and .u64 (((x / 2 ^ i : Nat) : Int)) 1 == 1) = x.testBit i := by
  have hd : x / 2 ^ i < 18446744073709551616 := Nat.lt_of_le_of_lt (Nat.div_le_self _ _) hx
  have := u64_and_nat (x / 2 ^ i) 1 hd (by decide)
  rw [show ((1 : Nat) : Int) = 1 from rfl] at this
  rw [this, Nat.and_one_is_mod, Nat.testBit_eq_decide_div_mod_eq, Bool.eq_iff_iff, beq_iff_eq, decide_eq_true_iff]
  omega
theorem r1Bit_any (x i : Nat) (w : World) (hx : x < 18446744073709551616) (hi : i < 64) :
    Calls Tryd.prog 88 #[.int .u64 x, .int .i64 i] w fun e w' => e = .returned (.bool (x.testBit i)) ∧ Below w.heap.size w w' := by
  have H := Own.start w
  have e1 : (0 : Int) ≤ (i : Int) := by omega
  have e2 : (i : Int) < 64 := by omega
  have e3 : IntKind.u64.wrap (i : Int) = (i : Int) := by rw [IntKind.wrap_u64]; omega
  have e4 : min (i : Int).toNat 64 = i := by omega
  have HR := Lib.hid (shr_test x i hx hi)
  clear hx hi
  go_enter Tryd.func88, Tryd.ntmps88
  exact ywalk3
theorem r2Count_lo (x : Int) (w : World) (hx : x < 0) :
    Calls Tryd.prog 98 #[.int .i64 x] w fun e w' => e = .returned (.int .i64 0) ∧ Below w.heap.size w w' := by
  have H := Own.start w
  go_enter Tryd.func98, Tryd.ntmps98
  exact ywalk3
theorem r2Count_hi (x : Int) (w : World) (hx : 384 < x) :
    Calls Tryd.prog 98 #[.int .i64 x] w fun e w' => e = .returned (.int .i64 384) ∧ Below w.heap.size w w' := by
  have H := Own.start w
  go_enter Tryd.func98, Tryd.ntmps98
  exact ywalk3
theorem r2Count_in (x : Int) (w : World) (hx : 0 ≤ x) (hy : x ≤ 384) :
    Calls Tryd.prog 98 #[.int .i64 x] w fun e w' => e = .returned (.int .i64 x) ∧ Below w.heap.size w w' := by
  have H := Own.start w
  go_enter Tryd.func98, Tryd.ntmps98
  exact ywalk3
theorem r2Count_any (x : Int) (w : World) : Calls Tryd.prog 98 #[.int .i64 x] w fun e w' => e = .returned (.int .i64 (clip x : Nat)) ∧ Below w.heap.size w w' := by
  rcases Int.lt_or_le x 0 with h | h
  · rw [show ((clip x : Nat) : Int) = 0 by unfold clip; omega]; exact r2Count_lo x w h
  · rcases Int.lt_or_le 384 x with h2 | h2
    · rw [show ((clip x : Nat) : Int) = 384 by unfold clip; omega]; exact r2Count_hi x w h2
    · rw [show ((clip x : Nat) : Int) = x by unfold clip; omega]; exact r2Count_in x w h h2
theorem r2OfBits_any (b : Nat) (w : World) (hb : b < 2 ^ (64 * 2)) :
    Calls Tryd.prog 82 #[BV b] w fun e w' => e = .returned (W b) ∧ Below w.heap.size w w' := by
  have H := Own.start w
  have HR := Lib.hid (ofBits_ret b hb)
  clear hb
  go_enter Tryd.func82, Tryd.ntmps82
  exact ywalk3
theorem r2Bit_any (a i : Nat) (w : World) (hi : i < 384) :
    Calls Tryd.prog 64 #[W a, .int .i64 i] w fun e w' => e = .returned (.bool (a.testBit i)) ∧ Below w.heap.size w w' := by
  have H := Own.start w
  obtain ⟨q, hq⟩ : ∃ q : Nat, i / 64 = q := ⟨_, rfl⟩
  obtain ⟨r, hr⟩ : ∃ r : Nat, i % 64 = r := ⟨_, rfl⟩
  have h6 : q < 6 := by omega
  have h64 : r < 64 := by omega
  have e1 : (0 : Int) ≤ (i : Int) := by omega
  have e2 : (i : Int) < 384 := by omega
  have t1 : IntKind.i64.wrap ((i : Int).tdiv 64) = (q : Int) := by rw [Int.tdiv_eq_ediv_of_nonneg (by omega), show (i : Int) / 64 = (q : Int) by omega]; exact IntWalk.i64_in _ (by omega)
  have t2 : (i : Int).tmod 64 = (r : Int) := by rw [Int.tmod_eq_emod_of_nonneg (by omega)]; omega
  have t3 : (i : Int) / 64 = (q : Int) := by omega
  have t4 : (i : Int) % 64 = (r : Int) := by omega
  have cB := fun w => r1Bit_any (limbN a q) r w (limbN_lt a q) h64
  have hl : ((limbN a q : Nat) : Int) = limb a q := rfl
  rw [hl] at cB
  have HR := Lib.hid (show (limbN a q).testBit r = a.testBit i by rw [← hq, ← hr]; exact limb_bit a i)
  have ix := run_index_r a q h6
  have G : (limbs a)[q]? = some (.int .u64 (limb a q)) := limbs_get a q h6
  clear hq hr hi hl
  go_enter Tryd.func64, Tryd.ntmps64
  exact ywalk3
open Go.RowKit
theorem set_fill_and (a b k : Nat) : setRow (fillTo (limbs a) (fun i => .int .u64 (limb (a &&& b) i)) k) k (#[.int .u64 (Go.bits .and .u64 (limb a k) (limb b k))] : Array Value).toList = fillTo (limbs a) (fun i => .int .u64 (limb (a &&& b) i)) (k + 1) := by
  rw [limb_and]; rfl
set_option maxHeartbeats 3200000 in
theorem r2Mask_any (x : Int) (w0 : World) :
    Calls Tryd.prog 85 #[.int .i64 x] w0 fun e w' => e = .returned (W (2 ^ clip x - 1)) ∧ Below w0.heap.size w0 w' := by
  have H := Own.start w0
  have cC := fun w => r2Count_any x w
  obtain ⟨n, hn⟩ : ∃ n, clip x = n := ⟨_, rfl⟩
  have hn4 : n ≤ 384 := by unfold clip at hn; omega
  rw [hn] at cC ⊢
  clear hn
  go_enter Tryd.func85, Tryd.ntmps85
  go_wp2_with (first
    | ((with_reducible show wpList _ _ _ (⟨some 3, .alloc 46, _, _, _, _⟩ :: _) _ _); refine H.xa ?_; (intro gb w H; simp only [Act.put, yq1_, yq2_, yq3_]))
    | ((with_reducible show wpList _ _ _ (⟨some 2, .alloc 46, _, _, _, _⟩ :: _) _ _); refine H.xa ?_; (intro gr w H; simp only [Act.put, yq1_, yq2_, yq3_]))
    | ((with_reducible show wpList _ _ _ (⟨_, .box _ _, _, _, _, _⟩ :: _) _ _); refine H.xb ?_; (intro g w H; simp only [Act.put, yq1_, yq2_, yq3_]))
    | ((with_reducible show wpList _ _ _ (⟨_, .alloc _, _, _, _, _⟩ :: _) _ _); refine H.xa ?_; (intro g w H; simp only [Act.put, yq1_, yq2_, yq3_]))
    | ((with_reducible show wpList _ _ _ (⟨_, .load _ _, _, _, _, _⟩ :: _) _ _); (first | refine H.xl ?_ | refine H.xm ?_); simp only [Act.put, yq1_, yq2_, yq3_])
    | ((with_reducible show wpList _ _ _ (⟨_, .store _ _ _, _, _, _, _⟩ :: _) _ _); (first | refine H.xs ?_ | refine H.xt ?_); (intro w H; simp only [Act.put]))
    | (go_at_call 98; ((with_reducible refine (cC _).mono ?_); rintro e w ⟨rfl, hb⟩; replace H := H.call hb; clear hb))
    )
  go_loopw [4] (fun i wr => ∃ (k : Nat), k ≤ n ∧ i = .int .i64 k ∧ Own w0 wr [(gb, 46, limbs (2 ^ k - 1)), (gr, 46, limbs 0)]) (fun i _ => n - (intOf i).toNat)
  case atStart => exact ⟨0, by omega, rfl, H⟩
  case round =>
    clear H
    obtain ⟨k, hk, rfl, H⟩ := hrel
    by_cases hlt : k < n
    · have hd : decide ((k : Int) < (n : Int)) = true := by simp; omega
      have h1 := Lib.hid (mask_step k).1
      have h2 := Lib.hid (mask_step k).2
      obtain ⟨qi, hqi⟩ : ∃ qi : Nat, (k : Int) / 64 = qi := ⟨k / 64, by omega⟩
      obtain ⟨sh, hsh⟩ : ∃ sh : Nat, (k : Int) % 64 = sh := ⟨k % 64, by omega⟩
      have HM := Lib.hid (show k = 64 * qi + sh by omega)
      have hs64 : sh < 64 := by omega
      have hq6 : qi < 6 := by omega
      have hq6i : (qi : Int) < 6 := by omega
      have t1 : IntKind.i64.wrap ((k : Int).tdiv 64) = (qi : Int) := by rw [Int.tdiv_eq_ediv_of_nonneg (by omega), hqi]; exact IntWalk.i64_in _ (by omega)
      have t2 : (k : Int).tmod 64 = (sh : Int) := by rw [Int.tmod_eq_emod_of_nonneg (by omega), hsh]
      have t3 : IntKind.u64.wrap (sh : Int) = (sh : Int) := by rw [IntKind.wrap_u64]; omega
      have t4 : min sh 64 = sh := by omega
      obtain ⟨V, hV⟩ : ∃ V, 2 ^ k - 1 = V := ⟨_, rfl⟩
      rw [hV] at H h1 h2
      have G : (limbs V)[qi]? = some (.int .u64 (limb V qi)) := limbs_get V qi hq6
      clear hV cC
      go_wp2_with (first
    | ((with_reducible show wpList _ _ _ (⟨some 3, .alloc 46, _, _, _, _⟩ :: _) _ _); refine H.xa ?_; (intro gb w H; simp only [Act.put, yq1_, yq2_, yq3_]))
    | ((with_reducible show wpList _ _ _ (⟨some 2, .alloc 46, _, _, _, _⟩ :: _) _ _); refine H.xa ?_; (intro gr w H; simp only [Act.put, yq1_, yq2_, yq3_]))
    | ((with_reducible show wpList _ _ _ (⟨_, .load 24 _, _, _, _, _⟩ :: _) _ _); refine H.xm ?_ (hv := by first | with_reducible exact G); simp only [Act.put, yq1_, yq2_, yq3_])
    | ((with_reducible show wpList _ _ _ (⟨_, .store 24 _ _, _, _, _, _⟩ :: _) _ _); refine H.xt ?_ (hv := set_bit_at _ k _ _ h2.out HM.out hs64 hq6); (intro w H; simp only [Act.put]))
    | ((with_reducible show wpList _ _ _ (⟨_, .box _ _, _, _, _, _⟩ :: _) _ _); refine H.xb ?_; (intro g w H; simp only [Act.put, yq1_, yq2_, yq3_]))
    | ((with_reducible show wpList _ _ _ (⟨_, .alloc _, _, _, _, _⟩ :: _) _ _); refine H.xa ?_; (intro g w H; simp only [Act.put, yq1_, yq2_, yq3_]))
    | ((with_reducible show wpList _ _ _ (⟨_, .load _ _, _, _, _, _⟩ :: _) _ _); (first | refine H.xl ?_ | refine H.xm ?_); simp only [Act.put, yq1_, yq2_, yq3_])
    | ((with_reducible show wpList _ _ _ (⟨_, .store _ _ _, _, _, _, _⟩ :: _) _ _); (first | refine H.xs ?_ | refine H.xt ?_); (intro w H; simp only [Act.put]))
    | (go_at_call 98; ((with_reducible refine (cC _).mono ?_); rintro e w ⟨rfl, hb⟩; replace H := H.call hb; clear hb))
    )
      all_goals
        go_roundw
        case rel => exact ⟨k + 1, by omega, by go_num, by rw [h1.out]; exact H⟩
        case measure => simp [intOf] <;> omega
    · obtain rfl : k = n := by omega
      have hd : decide ((k : Int) < (k : Int)) = false := by simp
      clear hlt hk cC
      go_wp2_with (first
    | ((with_reducible show wpList _ _ _ (⟨some 3, .alloc 46, _, _, _, _⟩ :: _) _ _); refine H.xa ?_; (intro gb w H; simp only [Act.put, yq1_, yq2_, yq3_]))
    | ((with_reducible show wpList _ _ _ (⟨some 2, .alloc 46, _, _, _, _⟩ :: _) _ _); refine H.xa ?_; (intro gr w H; simp only [Act.put, yq1_, yq2_, yq3_]))
    | ((with_reducible show wpList _ _ _ (⟨_, .box _ _, _, _, _, _⟩ :: _) _ _); refine H.xb ?_; (intro g w H; simp only [Act.put, yq1_, yq2_, yq3_]))
    | ((with_reducible show wpList _ _ _ (⟨_, .alloc _, _, _, _, _⟩ :: _) _ _); refine H.xa ?_; (intro g w H; simp only [Act.put, yq1_, yq2_, yq3_]))
    | ((with_reducible show wpList _ _ _ (⟨_, .load _ _, _, _, _, _⟩ :: _) _ _); (first | refine H.xl ?_ | refine H.xm ?_); simp only [Act.put, yq1_, yq2_, yq3_])
    | ((with_reducible show wpList _ _ _ (⟨_, .store _ _ _, _, _, _, _⟩ :: _) _ _); (first | refine H.xs ?_ | refine H.xt ?_); (intro w H; simp only [Act.put]))
    | (go_at_call 98; ((with_reducible refine (cC _).mono ?_); rintro e w ⟨rfl, hb⟩; replace H := H.call hb; clear hb))
    )
      refine bodyPost_ret (results_c rfl rfl (H.res rW y1_ y2_ (by rfl))) rfl ⟨?_, H.below⟩
      rfl
set_option maxHeartbeats 3200000 in
theorem r2And_any (a b : Nat) (w0 : World) :
    Calls Tryd.prog 84 #[W a, W b] w0 fun e w' => e = .returned (W (a &&& b)) ∧ Below w0.heap.size w0 w' := by
  have H := Own.start w0
  go_enter Tryd.func84, Tryd.ntmps84
  go_wp2_with (first
    | ((with_reducible show wpList _ _ _ (⟨some 2, .box _ _, _, _, _, _⟩ :: _) _ _); refine H.xb ?_; (intro ga w H; simp only [Act.put, yq1_, yq2_, yq3_]))
    | ((with_reducible show wpList _ _ _ (⟨some 3, .box _ _, _, _, _, _⟩ :: _) _ _); refine H.xb ?_; (intro gb w H; simp only [Act.put, yq1_, yq2_, yq3_]))
    | ((with_reducible show wpList _ _ _ (⟨some 4, .alloc 46, _, _, _, _⟩ :: _) _ _); refine H.xa ?_; (intro gr w H; simp only [Act.put, yq1_, yq2_, yq3_]))
    | ((with_reducible show wpList _ _ _ (⟨_, .box _ _, _, _, _, _⟩ :: _) _ _); refine H.xb ?_; (intro g w H; simp only [Act.put, yq1_, yq2_, yq3_]))
    | ((with_reducible show wpList _ _ _ (⟨_, .alloc _, _, _, _, _⟩ :: _) _ _); refine H.xa ?_; (intro g w H; simp only [Act.put, yq1_, yq2_, yq3_]))
    | ((with_reducible show wpList _ _ _ (⟨_, .load _ _, _, _, _, _⟩ :: _) _ _); (first | refine H.xl ?_ | refine H.xm ?_); simp only [Act.put, yq1_, yq2_, yq3_])
    | ((with_reducible show wpList _ _ _ (⟨_, .store _ _ _, _, _, _, _⟩ :: _) _ _); (first | refine H.xs ?_ | refine H.xt ?_); (intro w H; simp only [Act.put]))
    )
  go_loopw [5] (fun i wr => ∃ (k : Nat), k ≤ 6 ∧ i = .int .i64 k ∧ Own w0 wr [(gr, 46, limbs 0), (gb, 46, limbs b), (ga, 46, fillTo (limbs a) (fun i => .int .u64 (limb (a &&& b) i)) k)]) (fun i _ => 6 - (intOf i).toNat)
  case atStart => exact ⟨0, by omega, rfl, H⟩
  case round =>
    clear H
    obtain ⟨k, hk, rfl, H⟩ := hrel
    by_cases hlt : k < 6
    · have hd : decide ((k : Int) < 6) = true := by simp; omega
      have G1 : (fillTo (limbs a) (fun i => .int .u64 (limb (a &&& b) i)) k)[k]? = some (.int .u64 (limb a k)) := (fillTo_hi _ _ _ _ (Nat.le_refl _)).trans (limbs_get a k hlt)
      have G2 : (limbs b)[k]? = some (.int .u64 (limb b k)) := limbs_get b k hlt
      have hlti : (k : Int) < 6 := by omega
      go_wp2_with (first
    | ((with_reducible show wpList _ _ _ (⟨some 2, .box _ _, _, _, _, _⟩ :: _) _ _); refine H.xb ?_; (intro ga w H; simp only [Act.put, yq1_, yq2_, yq3_]))
    | ((with_reducible show wpList _ _ _ (⟨some 3, .box _ _, _, _, _, _⟩ :: _) _ _); refine H.xb ?_; (intro gb w H; simp only [Act.put, yq1_, yq2_, yq3_]))
    | ((with_reducible show wpList _ _ _ (⟨some 4, .alloc 46, _, _, _, _⟩ :: _) _ _); refine H.xa ?_; (intro gr w H; simp only [Act.put, yq1_, yq2_, yq3_]))
    | ((with_reducible show wpList _ _ _ (⟨_, .load 24 _, _, _, _, _⟩ :: _) _ _); refine H.xm ?_ (hv := by first | with_reducible exact G1 | with_reducible exact G2); simp only [Act.put, yq1_, yq2_, yq3_])
    | ((with_reducible show wpList _ _ _ (⟨_, .store 24 _ _, _, _, _, _⟩ :: _) _ _); refine H.xt ?_ (hv := set_fill_and _ _ _); (intro w H; simp only [Act.put]))
    | ((with_reducible show wpList _ _ _ (⟨_, .box _ _, _, _, _, _⟩ :: _) _ _); refine H.xb ?_; (intro g w H; simp only [Act.put, yq1_, yq2_, yq3_]))
    | ((with_reducible show wpList _ _ _ (⟨_, .alloc _, _, _, _, _⟩ :: _) _ _); refine H.xa ?_; (intro g w H; simp only [Act.put, yq1_, yq2_, yq3_]))
    | ((with_reducible show wpList _ _ _ (⟨_, .load _ _, _, _, _, _⟩ :: _) _ _); (first | refine H.xl ?_ | refine H.xm ?_); simp only [Act.put, yq1_, yq2_, yq3_])
    | ((with_reducible show wpList _ _ _ (⟨_, .store _ _ _, _, _, _, _⟩ :: _) _ _); (first | refine H.xs ?_ | refine H.xt ?_); (intro w H; simp only [Act.put]))
    | ((with_reducible show Code.wp _ (.region 4 _ true) _ _ _); refine H.heldSub rfl (List.Sublist.cons_cons _ (List.Sublist.cons_cons _ (List.Sublist.cons _ (List.Sublist.refl _)))) ?_; intro H; refine H.zr 0 ?_; (try simp only [Act.put, yq1_, yq2_, yq3_]); (try simp only [yq4_, yq5_, yq6_]); refine H.zr 1 ?_; (try simp only [Act.put, yq1_, yq2_, yq3_]); (try simp only [yq4_, yq5_, yq6_]); refine H.zr 2 ?_; (try simp only [Act.put, yq1_, yq2_, yq3_]); (try simp only [yq4_, yq5_, yq6_]); refine H.zr 4 ?_; (try simp only [Act.put, yq1_, yq2_, yq3_]); (try simp only [yq4_, yq5_, yq6_]); refine H.zr 5 ?_; (try simp only [Act.put, yq1_, yq2_, yq3_]); (try simp only [yq4_, yq5_, yq6_]); (first | refine H.zm 6 ?_ (hv := by first | with_reducible exact G1 | with_reducible exact G2) | refine H.zl 6 ?_ | refine H.zm 6 ?_); (try simp only [Act.put, yq1_, yq2_, yq3_]); (try simp only [yq4_, yq5_, yq6_]); refine held1 3 ?_; (first | refine H.ym ?_ (hv := by first | with_reducible exact G1 | with_reducible exact G2) | refine H.yl ?_ | refine H.ym ?_); refine H.nx ?_; (try simp only [Act.put, yq1_, yq2_, yq3_]); (try simp only [yq4_, yq5_, yq6_]); refine H.zr 7 ?_; (try simp only [Act.put, yq1_, yq2_, yq3_]); (try simp only [yq4_, yq5_, yq6_]); refine H.zr 8 ?_; (try simp only [Act.put, yq1_, yq2_, yq3_]); (try simp only [yq4_, yq5_, yq6_]); refine held1 9 ?_; (first | refine H.yt ?_ (hv := set_fill_and _ _ _) | refine H.ys ?_ | refine H.yt ?_); intro w H; refine H.nx ?_; (try simp only [Act.put]); refine wpAnyH_done (by kernel_rfl) ?_ _)
    )
      all_goals
        go_roundw
        case rel => exact ⟨k + 1, by omega, by go_num, H⟩
        case measure => simp [intOf] <;> omega
    · obtain rfl : k = 6 := by omega
      rw [fillTo_all (limbs a) _ (a &&& b) (limbs_size a) (fun _ _ => rfl)] at H
      clear hlt hk
      go_wp2_with (first
    | ((with_reducible show wpList _ _ _ (⟨some 2, .box _ _, _, _, _, _⟩ :: _) _ _); refine H.xb ?_; (intro ga w H; simp only [Act.put, yq1_, yq2_, yq3_]))
    | ((with_reducible show wpList _ _ _ (⟨some 3, .box _ _, _, _, _, _⟩ :: _) _ _); refine H.xb ?_; (intro gb w H; simp only [Act.put, yq1_, yq2_, yq3_]))
    | ((with_reducible show wpList _ _ _ (⟨some 4, .alloc 46, _, _, _, _⟩ :: _) _ _); refine H.xa ?_; (intro gr w H; simp only [Act.put, yq1_, yq2_, yq3_]))
    | ((with_reducible show wpList _ _ _ (⟨_, .box _ _, _, _, _, _⟩ :: _) _ _); refine H.xb ?_; (intro g w H; simp only [Act.put, yq1_, yq2_, yq3_]))
    | ((with_reducible show wpList _ _ _ (⟨_, .alloc _, _, _, _, _⟩ :: _) _ _); refine H.xa ?_; (intro g w H; simp only [Act.put, yq1_, yq2_, yq3_]))
    | ((with_reducible show wpList _ _ _ (⟨_, .load _ _, _, _, _, _⟩ :: _) _ _); (first | refine H.xl ?_ | refine H.xm ?_); simp only [Act.put, yq1_, yq2_, yq3_])
    | ((with_reducible show wpList _ _ _ (⟨_, .store _ _ _, _, _, _, _⟩ :: _) _ _); (first | refine H.xs ?_ | refine H.xt ?_); (intro w H; simp only [Act.put]))
    )
      refine bodyPost_ret (results_c rfl rfl (H.res rW y1_ y2_ (by rfl))) rfl ⟨?_, H.below⟩
      rfl
set_option maxHeartbeats 3200000 in
theorem r2Right_any (a : Nat) (x : Int) (w0 : World) (ha : a < top6) :
    Calls Tryd.prog 86 #[W a, .int .i64 x] w0 fun e w' => e = .returned (.tuple #[W (a / 2 ^ clip x), .bool (lostR a (clip x))]) ∧ Below w0.heap.size w0 w' := by
  have H := Own.start w0
  have cC := fun w => r2Count_any x w
  obtain ⟨n, hn⟩ : ∃ n, clip x = n := ⟨_, rfl⟩
  have hn4 : n ≤ 384 := by unfold clip at hn; omega
  rw [hn] at cC ⊢
  clear hn
  have HA := Lib.hid ha
  clear ha
  go_enter Tryd.func86, Tryd.ntmps86
  go_wp2_with (first
    | ((with_reducible show wpList _ _ _ (⟨some 2, .box _ _, _, _, _, _⟩ :: _) _ _); refine H.xb ?_; (intro ga w H; simp only [Act.put, yq1_, yq2_, yq3_]))
    | ((with_reducible show wpList _ _ _ (⟨some 4, .alloc 46, _, _, _, _⟩ :: _) _ _); refine H.xa ?_; (intro gr w H; simp only [Act.put, yq1_, yq2_, yq3_]))
    | ((with_reducible show wpList _ _ _ (⟨some 6, .alloc 46, _, _, _, _⟩ :: _) _ _); refine H.xa ?_; (intro gb w H; simp only [Act.put, yq1_, yq2_, yq3_]))
    | ((with_reducible show wpList _ _ _ (⟨_, .box _ _, _, _, _, _⟩ :: _) _ _); refine H.xb ?_; (intro g w H; simp only [Act.put, yq1_, yq2_, yq3_]))
    | ((with_reducible show wpList _ _ _ (⟨_, .alloc _, _, _, _, _⟩ :: _) _ _); refine H.xa ?_; (intro g w H; simp only [Act.put, yq1_, yq2_, yq3_]))
    | ((with_reducible show wpList _ _ _ (⟨_, .load _ _, _, _, _, _⟩ :: _) _ _); (first | refine H.xl ?_ | refine H.xm ?_); simp only [Act.put, yq1_, yq2_, yq3_])
    | ((with_reducible show wpList _ _ _ (⟨_, .store _ _ _, _, _, _, _⟩ :: _) _ _); (first | refine H.xs ?_ | refine H.xt ?_); (intro w H; simp only [Act.put]))
    | (go_at_call 98; ((with_reducible refine (cC _).mono ?_); rintro e w ⟨rfl, hb⟩; replace H := H.call hb; clear hb))
    | (go_at_call 64; ((with_reducible refine (cB _).mono ?_); rintro e w ⟨rfl, hb⟩; replace H := H.call hb; clear hb))
    )
  go_loopw [7, 8] (fun l i wr => ∃ (k : Nat), k ≤ 384 ∧ i = .int .i64 k ∧ l = .bool (lostRi a n k) ∧ Own w0 wr [(gb, 46, limbs (a % 2 ^ k / 2 ^ n)), (gr, 46, limbs 0), (ga, 46, limbs a)]) (fun _ i _ => 384 - (intOf i).toNat)
  case atStart => exact ⟨0, by omega, rfl, by rw [lostRi_zero], by rw [Nat.pow_zero, Nat.mod_one, Nat.zero_div]; exact H⟩
  case round =>
    clear H
    obtain ⟨k, hk, rfl, rfl, H⟩ := hrel
    by_cases hlt : k < 384
    · have hd : decide ((k : Int) < 384) = true := by simp; omega
      have hlti : (k : Int) < 384 := by omega
      have cB := fun w => r2Bit_any a k w hlt
      cases hb : a.testBit k
      · rw [hb] at cB
        have h1 := Lib.hid (lostRi_f a n k hb)
        have h2 := Lib.hid (bit_f a k hb)
        clear hb cC
        go_wp2_with (first
    | ((with_reducible show wpList _ _ _ (⟨some 2, .box _ _, _, _, _, _⟩ :: _) _ _); refine H.xb ?_; (intro ga w H; simp only [Act.put, yq1_, yq2_, yq3_]))
    | ((with_reducible show wpList _ _ _ (⟨some 4, .alloc 46, _, _, _, _⟩ :: _) _ _); refine H.xa ?_; (intro gr w H; simp only [Act.put, yq1_, yq2_, yq3_]))
    | ((with_reducible show wpList _ _ _ (⟨some 6, .alloc 46, _, _, _, _⟩ :: _) _ _); refine H.xa ?_; (intro gb w H; simp only [Act.put, yq1_, yq2_, yq3_]))
    | ((with_reducible show wpList _ _ _ (⟨_, .box _ _, _, _, _, _⟩ :: _) _ _); refine H.xb ?_; (intro g w H; simp only [Act.put, yq1_, yq2_, yq3_]))
    | ((with_reducible show wpList _ _ _ (⟨_, .alloc _, _, _, _, _⟩ :: _) _ _); refine H.xa ?_; (intro g w H; simp only [Act.put, yq1_, yq2_, yq3_]))
    | ((with_reducible show wpList _ _ _ (⟨_, .load _ _, _, _, _, _⟩ :: _) _ _); (first | refine H.xl ?_ | refine H.xm ?_); simp only [Act.put, yq1_, yq2_, yq3_])
    | ((with_reducible show wpList _ _ _ (⟨_, .store _ _ _, _, _, _, _⟩ :: _) _ _); (first | refine H.xs ?_ | refine H.xt ?_); (intro w H; simp only [Act.put]))
    | (go_at_call 98; ((with_reducible refine (cC _).mono ?_); rintro e w ⟨rfl, hb⟩; replace H := H.call hb; clear hb))
    | (go_at_call 64; ((with_reducible refine (cB _).mono ?_); rintro e w ⟨rfl, hb⟩; replace H := H.call hb; clear hb))
    )
        all_goals
          go_roundw
          case rel => exact ⟨k + 1, by omega, by go_num, by rw [h1.out], by rw [h2.out]; exact H⟩
          case measure => simp [intOf] <;> omega
      · rw [hb] at cB
        by_cases hnk : n ≤ k
        · have h1 := Lib.hid (lostRi_ge a n k hnk)
          have h2 := Lib.hid (right_t a n k hb hnk).1
          have h3 := Lib.hid (right_t a n k hb hnk).2
          obtain ⟨j, hj⟩ : ∃ j, k - n = j := ⟨_, rfl⟩
          have e0 : (k : Int) - (n : Int) = (j : Int) := by omega
          have e1 : IntKind.i64.wrap ((k : Int) - (n : Int)) = (j : Int) := by rw [e0]; exact IntWalk.i64_in _ (by omega)
          have hge : (n : Int) ≤ (k : Int) := by omega
          have hdg : decide ((n : Int) ≤ (k : Int)) = true := by simp; omega
          obtain ⟨qi, hqi⟩ : ∃ qi : Nat, (j : Int) / 64 = qi := ⟨j / 64, by omega⟩
          obtain ⟨sh, hsh⟩ : ∃ sh : Nat, (j : Int) % 64 = sh := ⟨j % 64, by omega⟩
          have HM := Lib.hid (show j = 64 * qi + sh by omega)
          have hs64 : sh < 64 := by omega
          have hq6 : qi < 6 := by omega
          have hq6i : (qi : Int) < 6 := by omega
          have t1 : IntKind.i64.wrap ((j : Int).tdiv 64) = (qi : Int) := by rw [Int.tdiv_eq_ediv_of_nonneg (by omega), hqi]; exact IntWalk.i64_in _ (by omega)
          have t2 : (j : Int).tmod 64 = (sh : Int) := by rw [Int.tmod_eq_emod_of_nonneg (by omega), hsh]
          have t3 : IntKind.u64.wrap (sh : Int) = (sh : Int) := by rw [IntKind.wrap_u64]; omega
          have t4 : min sh 64 = sh := by omega
          rw [hj] at h2 h3
          obtain ⟨V, hV⟩ : ∃ V, a % 2 ^ k / 2 ^ n = V := ⟨_, rfl⟩
          rw [hV] at H h2 h3
          have G : (limbs V)[qi]? = some (.int .u64 (limb V qi)) := limbs_get V qi hq6
          clear hV cC hb hj hnk
          go_wp2_with (first
    | ((with_reducible show wpList _ _ _ (⟨some 2, .box _ _, _, _, _, _⟩ :: _) _ _); refine H.xb ?_; (intro ga w H; simp only [Act.put, yq1_, yq2_, yq3_]))
    | ((with_reducible show wpList _ _ _ (⟨some 4, .alloc 46, _, _, _, _⟩ :: _) _ _); refine H.xa ?_; (intro gr w H; simp only [Act.put, yq1_, yq2_, yq3_]))
    | ((with_reducible show wpList _ _ _ (⟨some 6, .alloc 46, _, _, _, _⟩ :: _) _ _); refine H.xa ?_; (intro gb w H; simp only [Act.put, yq1_, yq2_, yq3_]))
    | ((with_reducible show wpList _ _ _ (⟨_, .load 24 _, _, _, _, _⟩ :: _) _ _); refine H.xm ?_ (hv := by first | with_reducible exact G); simp only [Act.put, yq1_, yq2_, yq3_])
    | ((with_reducible show wpList _ _ _ (⟨_, .store 24 _ _, _, _, _, _⟩ :: _) _ _); refine H.xt ?_ (hv := set_bit_at _ _ _ _ h3.out HM.out hs64 hq6); (intro w H; simp only [Act.put]))
    | ((with_reducible show wpList _ _ _ (⟨_, .box _ _, _, _, _, _⟩ :: _) _ _); refine H.xb ?_; (intro g w H; simp only [Act.put, yq1_, yq2_, yq3_]))
    | ((with_reducible show wpList _ _ _ (⟨_, .alloc _, _, _, _, _⟩ :: _) _ _); refine H.xa ?_; (intro g w H; simp only [Act.put, yq1_, yq2_, yq3_]))
    | ((with_reducible show wpList _ _ _ (⟨_, .load _ _, _, _, _, _⟩ :: _) _ _); (first | refine H.xl ?_ | refine H.xm ?_); simp only [Act.put, yq1_, yq2_, yq3_])
    | ((with_reducible show wpList _ _ _ (⟨_, .store _ _ _, _, _, _, _⟩ :: _) _ _); (first | refine H.xs ?_ | refine H.xt ?_); (intro w H; simp only [Act.put]))
    | (go_at_call 98; ((with_reducible refine (cC _).mono ?_); rintro e w ⟨rfl, hb⟩; replace H := H.call hb; clear hb))
    | (go_at_call 64; ((with_reducible refine (cB _).mono ?_); rintro e w ⟨rfl, hb⟩; replace H := H.call hb; clear hb))
    )
          all_goals
            go_roundw
            case rel => exact ⟨k + 1, by omega, by go_num, by rw [h1.out], by rw [h2.out]; exact H⟩
            case measure => simp [intOf] <;> omega
        · have h1 := Lib.hid (lostRi_t a n k hb (by omega))
          have h2 := Lib.hid (show a % 2 ^ (k + 1) / 2 ^ n = a % 2 ^ k / 2 ^ n by rw [right_lo a n (k + 1) (by omega), right_lo a n k (by omega)])
          have hge : (k : Int) < (n : Int) := by omega
          have hdg : decide ((n : Int) ≤ (k : Int)) = false := by simp; omega
          clear cC hb hnk
          go_wp2_with (first
    | ((with_reducible show wpList _ _ _ (⟨some 2, .box _ _, _, _, _, _⟩ :: _) _ _); refine H.xb ?_; (intro ga w H; simp only [Act.put, yq1_, yq2_, yq3_]))
    | ((with_reducible show wpList _ _ _ (⟨some 4, .alloc 46, _, _, _, _⟩ :: _) _ _); refine H.xa ?_; (intro gr w H; simp only [Act.put, yq1_, yq2_, yq3_]))
    | ((with_reducible show wpList _ _ _ (⟨some 6, .alloc 46, _, _, _, _⟩ :: _) _ _); refine H.xa ?_; (intro gb w H; simp only [Act.put, yq1_, yq2_, yq3_]))
    | ((with_reducible show wpList _ _ _ (⟨_, .box _ _, _, _, _, _⟩ :: _) _ _); refine H.xb ?_; (intro g w H; simp only [Act.put, yq1_, yq2_, yq3_]))
    | ((with_reducible show wpList _ _ _ (⟨_, .alloc _, _, _, _, _⟩ :: _) _ _); refine H.xa ?_; (intro g w H; simp only [Act.put, yq1_, yq2_, yq3_]))
    | ((with_reducible show wpList _ _ _ (⟨_, .load _ _, _, _, _, _⟩ :: _) _ _); (first | refine H.xl ?_ | refine H.xm ?_); simp only [Act.put, yq1_, yq2_, yq3_])
    | ((with_reducible show wpList _ _ _ (⟨_, .store _ _ _, _, _, _, _⟩ :: _) _ _); (first | refine H.xs ?_ | refine H.xt ?_); (intro w H; simp only [Act.put]))
    | (go_at_call 98; ((with_reducible refine (cC _).mono ?_); rintro e w ⟨rfl, hb⟩; replace H := H.call hb; clear hb))
    | (go_at_call 64; ((with_reducible refine (cB _).mono ?_); rintro e w ⟨rfl, hb⟩; replace H := H.call hb; clear hb))
    )
          all_goals
            go_roundw
            case rel => exact ⟨k + 1, by omega, by go_num, by rw [h1.out], by rw [h2.out]; exact H⟩
            case measure => simp [intOf] <;> omega
    · have hk384 : k = 384 := by omega
      rw [mod_384 a k hk384 HA.out] at H
      have h1 := Lib.hid (show lostRi a n k = lostR a n by rw [lostRi_all a n k (by omega)]; exact low_any a n HA.out hn4)
      generalize lostRi a n k = l at *
      subst hk384
      clear cC hlt hk
      go_wp2_with (first
    | ((with_reducible show wpList _ _ _ (⟨some 2, .box _ _, _, _, _, _⟩ :: _) _ _); refine H.xb ?_; (intro ga w H; simp only [Act.put, yq1_, yq2_, yq3_]))
    | ((with_reducible show wpList _ _ _ (⟨some 4, .alloc 46, _, _, _, _⟩ :: _) _ _); refine H.xa ?_; (intro gr w H; simp only [Act.put, yq1_, yq2_, yq3_]))
    | ((with_reducible show wpList _ _ _ (⟨some 6, .alloc 46, _, _, _, _⟩ :: _) _ _); refine H.xa ?_; (intro gb w H; simp only [Act.put, yq1_, yq2_, yq3_]))
    | ((with_reducible show wpList _ _ _ (⟨_, .box _ _, _, _, _, _⟩ :: _) _ _); refine H.xb ?_; (intro g w H; simp only [Act.put, yq1_, yq2_, yq3_]))
    | ((with_reducible show wpList _ _ _ (⟨_, .alloc _, _, _, _, _⟩ :: _) _ _); refine H.xa ?_; (intro g w H; simp only [Act.put, yq1_, yq2_, yq3_]))
    | ((with_reducible show wpList _ _ _ (⟨_, .load _ _, _, _, _, _⟩ :: _) _ _); (first | refine H.xl ?_ | refine H.xm ?_); simp only [Act.put, yq1_, yq2_, yq3_])
    | ((with_reducible show wpList _ _ _ (⟨_, .store _ _ _, _, _, _, _⟩ :: _) _ _); (first | refine H.xs ?_ | refine H.xt ?_); (intro w H; simp only [Act.put]))
    | (go_at_call 98; ((with_reducible refine (cC _).mono ?_); rintro e w ⟨rfl, hb⟩; replace H := H.call hb; clear hb))
    | (go_at_call 64; ((with_reducible refine (cB _).mono ?_); rintro e w ⟨rfl, hb⟩; replace H := H.call hb; clear hb))
    )
      refine bodyPost_ret (results_ct rfl rfl (H.res rW y1_ (ext_limbs _) (by rfl))) rfl ⟨?_, H.below⟩
      rw [h1.out]; rfl
open Go.RowKit
theorem r7Width_0 (w : World) :
    Calls Tryd.prog 83 #[.int .u8 0] w fun e w' => e = .returned (.int .i64 32) ∧ Below w.heap.size w w' := by
  have H := Own.start w
  go_enter Tryd.func83, Tryd.ntmps83
  exact ywalk3
theorem r7Width_1 (w : World) :
    Calls Tryd.prog 83 #[.int .u8 1] w fun e w' => e = .returned (.int .i64 64) ∧ Below w.heap.size w w' := by
  have H := Own.start w
  go_enter Tryd.func83, Tryd.ntmps83
  exact ywalk3
theorem r7Width_2 (w : World) :
    Calls Tryd.prog 83 #[.int .u8 2] w fun e w' => e = .returned (.int .i64 16) ∧ Below w.heap.size w w' := by
  have H := Own.start w
  go_enter Tryd.func83, Tryd.ntmps83
  exact ywalk3
theorem r7Width_3 (w : World) :
    Calls Tryd.prog 83 #[.int .u8 3] w fun e w' => e = .returned (.int .i64 128) ∧ Below w.heap.size w w' := by
  have H := Own.start w
  go_enter Tryd.func83, Tryd.ntmps83
  exact ywalk3
theorem r7Width_o (f : Nat) (w : World) (h2 : ((f : Int) == 2) = false) (h0 : ((f : Int) == 0) = false) (h1 : ((f : Int) == 1) = false) (h3 : ((f : Int) == 3) = false) :
    Calls Tryd.prog 83 #[.int .u8 f] w fun e w' => e = .returned (.int .i64 0) ∧ Below w.heap.size w w' := by
  have H := Own.start w
  go_enter Tryd.func83, Tryd.ntmps83
  exact ywalk3
theorem r7Width_any (f : Nat) (w : World) : Calls Tryd.prog 83 #[.int .u8 f] w fun e w' => e = .returned (.int .i64 (wF f : Nat)) ∧ Below w.heap.size w w' := by
  rcases forms f with rfl | rfl | rfl | rfl | h
  · exact r7Width_0 w
  · exact r7Width_1 w
  · exact r7Width_2 w
  · exact r7Width_3 w
  · have := r7Width_o f w (int_eq_false f 2 (by omega)) (int_eq_false f 0 (by omega)) (int_eq_false f 1 (by omega)) (int_eq_false f 3 (by omega))
    rw [show wF f = 0 by have := wF_big f h; simp [this]]
    exact this
theorem r7Precision_0 (w : World) :
    Calls Tryd.prog 65 #[.int .u8 0] w fun e w' => e = .returned (.int .i64 24) ∧ Below w.heap.size w w' := by
  have H := Own.start w
  go_enter Tryd.func65, Tryd.ntmps65
  exact ywalk3
theorem r7Precision_1 (w : World) :
    Calls Tryd.prog 65 #[.int .u8 1] w fun e w' => e = .returned (.int .i64 53) ∧ Below w.heap.size w w' := by
  have H := Own.start w
  go_enter Tryd.func65, Tryd.ntmps65
  exact ywalk3
theorem r7Precision_2 (w : World) :
    Calls Tryd.prog 65 #[.int .u8 2] w fun e w' => e = .returned (.int .i64 11) ∧ Below w.heap.size w w' := by
  have H := Own.start w
  go_enter Tryd.func65, Tryd.ntmps65
  exact ywalk3
theorem r7Precision_3 (w : World) :
    Calls Tryd.prog 65 #[.int .u8 3] w fun e w' => e = .returned (.int .i64 113) ∧ Below w.heap.size w w' := by
  have H := Own.start w
  go_enter Tryd.func65, Tryd.ntmps65
  exact ywalk3
theorem r7Precision_o (f : Nat) (w : World) (h2 : ((f : Int) == 2) = false) (h0 : ((f : Int) == 0) = false) (h1 : ((f : Int) == 1) = false) (h3 : ((f : Int) == 3) = false) :
    Calls Tryd.prog 65 #[.int .u8 f] w fun e w' => e = .returned (.int .i64 0) ∧ Below w.heap.size w w' := by
  have H := Own.start w
  go_enter Tryd.func65, Tryd.ntmps65
  exact ywalk3
theorem r7Precision_any (f : Nat) (w : World) : Calls Tryd.prog 65 #[.int .u8 f] w fun e w' => e = .returned (.int .i64 (pF f : Nat)) ∧ Below w.heap.size w w' := by
  rcases forms f with rfl | rfl | rfl | rfl | h
  · exact r7Precision_0 w
  · exact r7Precision_1 w
  · exact r7Precision_2 w
  · exact r7Precision_3 w
  · have := r7Precision_o f w (int_eq_false f 2 (by omega)) (int_eq_false f 0 (by omega)) (int_eq_false f 1 (by omega)) (int_eq_false f 3 (by omega))
    rw [show pF f = 0 by have := wF_big f h; simp [this]]
    exact this
theorem r7Emax_0 (w : World) :
    Calls Tryd.prog 87 #[.int .u8 0] w fun e w' => e = .returned (.int .i64 127) ∧ Below w.heap.size w w' := by
  have H := Own.start w
  go_enter Tryd.func87, Tryd.ntmps87
  exact ywalk3
theorem r7Emax_1 (w : World) :
    Calls Tryd.prog 87 #[.int .u8 1] w fun e w' => e = .returned (.int .i64 1023) ∧ Below w.heap.size w w' := by
  have H := Own.start w
  go_enter Tryd.func87, Tryd.ntmps87
  exact ywalk3
theorem r7Emax_2 (w : World) :
    Calls Tryd.prog 87 #[.int .u8 2] w fun e w' => e = .returned (.int .i64 15) ∧ Below w.heap.size w w' := by
  have H := Own.start w
  go_enter Tryd.func87, Tryd.ntmps87
  exact ywalk3
theorem r7Emax_3 (w : World) :
    Calls Tryd.prog 87 #[.int .u8 3] w fun e w' => e = .returned (.int .i64 16383) ∧ Below w.heap.size w w' := by
  have H := Own.start w
  go_enter Tryd.func87, Tryd.ntmps87
  exact ywalk3
theorem r7Emax_o (f : Nat) (w : World) (h2 : ((f : Int) == 2) = false) (h0 : ((f : Int) == 0) = false) (h1 : ((f : Int) == 1) = false) (h3 : ((f : Int) == 3) = false) :
    Calls Tryd.prog 87 #[.int .u8 f] w fun e w' => e = .returned (.int .i64 0) ∧ Below w.heap.size w w' := by
  have H := Own.start w
  go_enter Tryd.func87, Tryd.ntmps87
  exact ywalk3
theorem r7Emax_any (f : Nat) (w : World) : Calls Tryd.prog 87 #[.int .u8 f] w fun e w' => e = .returned (.int .i64 (eF f : Nat)) ∧ Below w.heap.size w w' := by
  rcases forms f with rfl | rfl | rfl | rfl | h
  · exact r7Emax_0 w
  · exact r7Emax_1 w
  · exact r7Emax_2 w
  · exact r7Emax_3 w
  · have := r7Emax_o f w (int_eq_false f 2 (by omega)) (int_eq_false f 0 (by omega)) (int_eq_false f 1 (by omega)) (int_eq_false f 3 (by omega))
    rw [show eF f = 0 by have := wF_big f h; simp [this]]
    exact this
theorem r7Ones_any (f : Nat) (w : World) :
    Calls Tryd.prog 63 #[.int .u8 f] w fun e w' => e = .returned (.int .i64 (2 * eF f + 1 : Nat)) ∧ Below w.heap.size w w' := by
  have H := Own.start w
  have he := eF_le f
  have HR := Lib.hid (show (2 * (eF f : Int) + 1) = ((2 * eF f + 1 : Nat) : Int) by omega)
  go_enter Tryd.func63, Tryd.ntmps63
  exact ywalk3
open Go.RowKit
theorem results_ttc {P : Program} {w : World} {fn : Func} {tmps : Array Value} {s t u : Tmp} {T : TypeId} (h : fn.results = #[.tmp s, .tmp u, .cell t T]) {A : Addr} (ha : tmps.getD t undef = .pointer (some A)) {v : Value} (hr : (loadVar T A).run P w = .ok v w) :
    (results fn tmps).run P w = .ok (.tuple #[tmps.getD s undef, tmps.getD u undef, v]) w := by
  rw [Array.getD_eq_getD_getElem?] at ha
  simp [results, h, ha, asAddr, hr]
theorem exp_ones (y d : Nat) (hd : d ≤ 15) : Go.bits .and .i64 (IntKind.i64.wrap (limb y 0)) ((2 ^ d - 1 : Nat) : Int) = ((y % 2 ^ d : Nat) : Int) := by
  have h := field_exp y d hd
  have y1 : 2 ^ d ≤ 2 ^ 15 := Nat.pow_le_pow_right (by decide) hd
  have e : IntKind.i64.wrap (IntKind.i64.wrap ((2 : Int) ^ d) - 1) = ((2 ^ d - 1 : Nat) : Int) := by
    have y0 := Nat.two_pow_pos d
    rw [show (2 : Int) ^ d = ((2 ^ d : Nat) : Int) by simp, IntKind.wrap_i64, IntKind.wrap_i64]
    generalize 2 ^ d = y at *
    omega
  rw [e] at h; exact h
set_option maxHeartbeats 6400000 in
theorem r7Fields_w (f b q r p n o y m t : Nat) (tb lo : Bool) (w : World) (hq : IntKind.i64.wrap ((p : Int) - 1) = (q : Int)) (hr : IntKind.i64.wrap ((n : Int) - 1) = (r : Int)) (cF : ∀ w, Calls Tryd.prog 82 #[BV b] w fun e w' => e = .returned (W b) ∧ Below w.heap.size w w') (cW : ∀ w, Calls Tryd.prog 83 #[.int .u8 f] w fun e w' => e = .returned (.int .i64 (n : Nat)) ∧ Below w.heap.size w w') (cP : ∀ w, Calls Tryd.prog 65 #[.int .u8 f] w fun e w' => e = .returned (.int .i64 (p : Nat)) ∧ Below w.heap.size w w') (cB : ∀ w, Calls Tryd.prog 64 #[W b, .int .i64 (r : Nat)] w fun e w' => e = .returned (.bool tb) ∧ Below w.heap.size w w') (cM : ∀ w, Calls Tryd.prog 85 #[.int .i64 (q : Nat)] w fun e w' => e = .returned (W m) ∧ Below w.heap.size w w') (cA : ∀ w, Calls Tryd.prog 84 #[W b, W m] w fun e w' => e = .returned (W t) ∧ Below w.heap.size w w') (cR : ∀ w, Calls Tryd.prog 86 #[W b, .int .i64 (q : Nat)] w fun e w' => e = .returned (.tuple #[W y, .bool lo]) ∧ Below w.heap.size w w') (cO : ∀ w, Calls Tryd.prog 63 #[.int .u8 f] w fun e w' => e = .returned (.int .i64 (o : Nat)) ∧ Below w.heap.size w w') :
    Calls Tryd.prog 62 #[.int .u8 f, BV b] w fun e w' => e = .returned (.tuple #[.bool tb, .int .i64 (Go.bits .and .i64 (IntKind.i64.wrap (limb y 0)) (o : Nat)), W t]) ∧ Below w.heap.size w w' := by
  have H := Own.start w
  go_enter Tryd.func62, Tryd.ntmps62
  go_wp2_with (first
    | ((with_reducible show wpList _ _ _ (⟨_, .box _ _, _, _, _, _⟩ :: _) _ _); refine H.xb ?_; (intro g w H; simp only [Act.put, yq1_, yq2_, yq3_]))
    | ((with_reducible show wpList _ _ _ (⟨_, .alloc _, _, _, _, _⟩ :: _) _ _); refine H.xa ?_; (intro g w H; simp only [Act.put, yq1_, yq2_, yq3_]))
    | ((with_reducible show wpList _ _ _ (⟨_, .load _ _, _, _, _, _⟩ :: _) _ _); (first | refine H.xl ?_ | refine H.xm ?_); simp only [Act.put, yq1_, yq2_, yq3_])
    | ((with_reducible show wpList _ _ _ (⟨_, .store _ _ _, _, _, _, _⟩ :: _) _ _); (first | refine H.xs ?_ | refine H.xt ?_); (intro w H; simp only [Act.put]))
    | ((with_reducible show Code.wp _ (.region 2 _ true) _ _ _); refine H.heldSub rfl (List.Sublist.refl _) ?_; intro H; (first | refine H.zl 0 ?_ | refine H.zm 0 ?_); (try simp only [Act.put, yq1_, yq2_, yq3_]); (try simp only [yq4_, yq5_, yq6_]); refine H.zr 1 ?_; (try simp only [Act.put, yq1_, yq2_, yq3_]); (try simp only [yq4_, yq5_, yq6_]); refine held1 2 ?_; unfold Oper.wp; go_simp; (first | (go_at_call 82; ((with_reducible refine (cF _).mono ?_); rintro e w ⟨rfl, hb⟩; replace H := H.call hb; clear hb)) | (go_at_call 83; ((with_reducible refine (cW _).mono ?_); rintro e w ⟨rfl, hb⟩; replace H := H.call hb; clear hb)) | (go_at_call 65; ((with_reducible refine (cP _).mono ?_); rintro e w ⟨rfl, hb⟩; replace H := H.call hb; clear hb)) | (go_at_call 64; ((with_reducible refine (cB _).mono ?_); rintro e w ⟨rfl, hb⟩; replace H := H.call hb; clear hb)) | (go_at_call 85; ((with_reducible refine (cM _).mono ?_); rintro e w ⟨rfl, hb⟩; replace H := H.call hb; clear hb)) | (go_at_call 84; ((with_reducible refine (cA _).mono ?_); rintro e w ⟨rfl, hb⟩; replace H := H.call hb; clear hb)) | (go_at_call 86; ((with_reducible refine (cR _).mono ?_); rintro e w ⟨rfl, hb⟩; replace H := H.call hb; clear hb)) | (go_at_call 63; ((with_reducible refine (cO _).mono ?_); rintro e w ⟨rfl, hb⟩; replace H := H.call hb; clear hb))); refine H.nx ?_; (try simp only [Act.put, yq1_, yq2_, yq3_]); (try simp only [yq4_, yq5_, yq6_]); refine H.zr 3 ?_; (try simp only [Act.put, yq1_, yq2_, yq3_]); (try simp only [yq4_, yq5_, yq6_]); refine held1 4 ?_; unfold Oper.wp; go_simp; (first | (go_at_call 82; ((with_reducible refine (cF _).mono ?_); rintro e w ⟨rfl, hb⟩; replace H := H.call hb; clear hb)) | (go_at_call 83; ((with_reducible refine (cW _).mono ?_); rintro e w ⟨rfl, hb⟩; replace H := H.call hb; clear hb)) | (go_at_call 65; ((with_reducible refine (cP _).mono ?_); rintro e w ⟨rfl, hb⟩; replace H := H.call hb; clear hb)) | (go_at_call 64; ((with_reducible refine (cB _).mono ?_); rintro e w ⟨rfl, hb⟩; replace H := H.call hb; clear hb)) | (go_at_call 85; ((with_reducible refine (cM _).mono ?_); rintro e w ⟨rfl, hb⟩; replace H := H.call hb; clear hb)) | (go_at_call 84; ((with_reducible refine (cA _).mono ?_); rintro e w ⟨rfl, hb⟩; replace H := H.call hb; clear hb)) | (go_at_call 86; ((with_reducible refine (cR _).mono ?_); rintro e w ⟨rfl, hb⟩; replace H := H.call hb; clear hb)) | (go_at_call 63; ((with_reducible refine (cO _).mono ?_); rintro e w ⟨rfl, hb⟩; replace H := H.call hb; clear hb))); refine H.nx ?_; (try simp only [Act.put, yq1_, yq2_, yq3_]); (try simp only [yq4_, yq5_, yq6_]); refine H.zr 5 ?_; (try simp only [Act.put, yq1_, yq2_, yq3_]); (try simp only [yq4_, yq5_, yq6_]); refine wpAnyH_done (by kernel_rfl) ?_ _)
    | ((with_reducible show Code.wp _ (.region 3 _ true) _ _ _); apply H.join1; refine H.heldSub rfl (List.Sublist.refl _) ?_; intro H; (first | refine H.zl 0 ?_ | refine H.zm 0 ?_); (try simp only [Act.put, yq1_, yq2_, yq3_]); (try simp only [yq4_, yq5_, yq6_]); refine H.zr 1 ?_; (try simp only [Act.put, yq1_, yq2_, yq3_]); (try simp only [yq4_, yq5_, yq6_]); refine held2 2 6 ?_ ?_; (unfold Oper.wp; go_simp; (first | (go_at_call 82; ((with_reducible refine (cF _).mono ?_); rintro e w ⟨rfl, hb⟩; replace H := H.call hb; clear hb)) | (go_at_call 83; ((with_reducible refine (cW _).mono ?_); rintro e w ⟨rfl, hb⟩; replace H := H.call hb; clear hb)) | (go_at_call 65; ((with_reducible refine (cP _).mono ?_); rintro e w ⟨rfl, hb⟩; replace H := H.call hb; clear hb)) | (go_at_call 64; ((with_reducible refine (cB _).mono ?_); rintro e w ⟨rfl, hb⟩; replace H := H.call hb; clear hb)) | (go_at_call 85; ((with_reducible refine (cM _).mono ?_); rintro e w ⟨rfl, hb⟩; replace H := H.call hb; clear hb)) | (go_at_call 84; ((with_reducible refine (cA _).mono ?_); rintro e w ⟨rfl, hb⟩; replace H := H.call hb; clear hb)) | (go_at_call 86; ((with_reducible refine (cR _).mono ?_); rintro e w ⟨rfl, hb⟩; replace H := H.call hb; clear hb)) | (go_at_call 63; ((with_reducible refine (cO _).mono ?_); rintro e w ⟨rfl, hb⟩; replace H := H.call hb; clear hb))); refine H.nx ?_; (try simp only [Act.put, yq1_, yq2_, yq3_]); (try simp only [yq4_, yq5_, yq6_]); refine H.zr 3 ?_; (try simp only [Act.put, yq1_, yq2_, yq3_]); (try simp only [yq4_, yq5_, yq6_]); refine held2 4 6 ?_ ?_; (unfold Oper.wp; go_simp; (first | (go_at_call 82; ((with_reducible refine (cF _).mono ?_); rintro e w ⟨rfl, hb⟩; replace H := H.call hb; clear hb)) | (go_at_call 83; ((with_reducible refine (cW _).mono ?_); rintro e w ⟨rfl, hb⟩; replace H := H.call hb; clear hb)) | (go_at_call 65; ((with_reducible refine (cP _).mono ?_); rintro e w ⟨rfl, hb⟩; replace H := H.call hb; clear hb)) | (go_at_call 64; ((with_reducible refine (cB _).mono ?_); rintro e w ⟨rfl, hb⟩; replace H := H.call hb; clear hb)) | (go_at_call 85; ((with_reducible refine (cM _).mono ?_); rintro e w ⟨rfl, hb⟩; replace H := H.call hb; clear hb)) | (go_at_call 84; ((with_reducible refine (cA _).mono ?_); rintro e w ⟨rfl, hb⟩; replace H := H.call hb; clear hb)) | (go_at_call 86; ((with_reducible refine (cR _).mono ?_); rintro e w ⟨rfl, hb⟩; replace H := H.call hb; clear hb)) | (go_at_call 63; ((with_reducible refine (cO _).mono ?_); rintro e w ⟨rfl, hb⟩; replace H := H.call hb; clear hb))); refine H.nx ?_; (try simp only [Act.put, yq1_, yq2_, yq3_]); (try simp only [yq4_, yq5_, yq6_]); refine held2 5 6 ?_ ?_; (unfold Oper.wp; go_simp; (first | (go_at_call 82; ((with_reducible refine (cF _).mono ?_); rintro e w ⟨rfl, hb⟩; replace H := H.call hb; clear hb)) | (go_at_call 83; ((with_reducible refine (cW _).mono ?_); rintro e w ⟨rfl, hb⟩; replace H := H.call hb; clear hb)) | (go_at_call 65; ((with_reducible refine (cP _).mono ?_); rintro e w ⟨rfl, hb⟩; replace H := H.call hb; clear hb)) | (go_at_call 64; ((with_reducible refine (cB _).mono ?_); rintro e w ⟨rfl, hb⟩; replace H := H.call hb; clear hb)) | (go_at_call 85; ((with_reducible refine (cM _).mono ?_); rintro e w ⟨rfl, hb⟩; replace H := H.call hb; clear hb)) | (go_at_call 84; ((with_reducible refine (cA _).mono ?_); rintro e w ⟨rfl, hb⟩; replace H := H.call hb; clear hb)) | (go_at_call 86; ((with_reducible refine (cR _).mono ?_); rintro e w ⟨rfl, hb⟩; replace H := H.call hb; clear hb)) | (go_at_call 63; ((with_reducible refine (cO _).mono ?_); rintro e w ⟨rfl, hb⟩; replace H := H.call hb; clear hb))); refine H.nx ?_; (try simp only [Act.put, yq1_, yq2_, yq3_]); (try simp only [yq4_, yq5_, yq6_]); refine held1 6 ?_; refine H.ya ?_; intro g6 w H; refine H.nx ?_; (try simp only [Act.put, yq1_, yq2_, yq3_]); (try simp only [yq4_, yq5_, yq6_]); refine held1 7 ?_; (first | refine H.ys ?_ | refine H.yt ?_); intro w H; refine H.nx ?_; (try simp only [Act.put]); refine wpAnyH_done (by kernel_rfl) ?_ _; (first | exact ⟨rfl, g6, rfl, H⟩ | exact ⟨rfl, g6, rfl, (H.perm (List.Perm.swap _ _ _))⟩ | exact ⟨rfl, g6, rfl, (H.perm (List.Perm.cons _ (List.Perm.swap _ _ _)))⟩ | exact ⟨rfl, g6, rfl, (H.perm ((List.Perm.swap _ _ _).trans (List.Perm.cons _ (List.Perm.swap _ _ _))))⟩ | exact ⟨rfl, g6, rfl, (H.perm ((List.Perm.cons _ (List.Perm.swap _ _ _)).trans (List.Perm.swap _ _ _)))⟩ | exact ⟨rfl, g6, rfl, (H.perm (((List.Perm.swap _ _ _).trans (List.Perm.cons _ (List.Perm.swap _ _ _))).trans (List.Perm.swap _ _ _)))⟩)); (refine H.ya ?_; intro g6 w H; refine H.nx ?_; (try simp only [Act.put, yq1_, yq2_, yq3_]); (try simp only [yq4_, yq5_, yq6_]); refine held1 5 ?_; unfold Oper.wp; go_simp; (first | (go_at_call 82; ((with_reducible refine (cF _).mono ?_); rintro e w ⟨rfl, hb⟩; replace H := H.call hb; clear hb)) | (go_at_call 83; ((with_reducible refine (cW _).mono ?_); rintro e w ⟨rfl, hb⟩; replace H := H.call hb; clear hb)) | (go_at_call 65; ((with_reducible refine (cP _).mono ?_); rintro e w ⟨rfl, hb⟩; replace H := H.call hb; clear hb)) | (go_at_call 64; ((with_reducible refine (cB _).mono ?_); rintro e w ⟨rfl, hb⟩; replace H := H.call hb; clear hb)) | (go_at_call 85; ((with_reducible refine (cM _).mono ?_); rintro e w ⟨rfl, hb⟩; replace H := H.call hb; clear hb)) | (go_at_call 84; ((with_reducible refine (cA _).mono ?_); rintro e w ⟨rfl, hb⟩; replace H := H.call hb; clear hb)) | (go_at_call 86; ((with_reducible refine (cR _).mono ?_); rintro e w ⟨rfl, hb⟩; replace H := H.call hb; clear hb)) | (go_at_call 63; ((with_reducible refine (cO _).mono ?_); rintro e w ⟨rfl, hb⟩; replace H := H.call hb; clear hb))); refine H.nx ?_; (try simp only [Act.put, yq1_, yq2_, yq3_]); (try simp only [yq4_, yq5_, yq6_]); refine held1 7 ?_; (first | refine H.ys ?_ | refine H.yt ?_); intro w H; refine H.nx ?_; (try simp only [Act.put]); refine wpAnyH_done (by kernel_rfl) ?_ _; (first | exact ⟨rfl, g6, rfl, H⟩ | exact ⟨rfl, g6, rfl, (H.perm (List.Perm.swap _ _ _))⟩ | exact ⟨rfl, g6, rfl, (H.perm (List.Perm.cons _ (List.Perm.swap _ _ _)))⟩ | exact ⟨rfl, g6, rfl, (H.perm ((List.Perm.swap _ _ _).trans (List.Perm.cons _ (List.Perm.swap _ _ _))))⟩ | exact ⟨rfl, g6, rfl, (H.perm ((List.Perm.cons _ (List.Perm.swap _ _ _)).trans (List.Perm.swap _ _ _)))⟩ | exact ⟨rfl, g6, rfl, (H.perm (((List.Perm.swap _ _ _).trans (List.Perm.cons _ (List.Perm.swap _ _ _))).trans (List.Perm.swap _ _ _)))⟩))); (refine H.ya ?_; intro g6 w H; refine H.nx ?_; (try simp only [Act.put, yq1_, yq2_, yq3_]); (try simp only [yq4_, yq5_, yq6_]); refine held1 4 ?_; unfold Oper.wp; go_simp; (first | (go_at_call 82; ((with_reducible refine (cF _).mono ?_); rintro e w ⟨rfl, hb⟩; replace H := H.call hb; clear hb)) | (go_at_call 83; ((with_reducible refine (cW _).mono ?_); rintro e w ⟨rfl, hb⟩; replace H := H.call hb; clear hb)) | (go_at_call 65; ((with_reducible refine (cP _).mono ?_); rintro e w ⟨rfl, hb⟩; replace H := H.call hb; clear hb)) | (go_at_call 64; ((with_reducible refine (cB _).mono ?_); rintro e w ⟨rfl, hb⟩; replace H := H.call hb; clear hb)) | (go_at_call 85; ((with_reducible refine (cM _).mono ?_); rintro e w ⟨rfl, hb⟩; replace H := H.call hb; clear hb)) | (go_at_call 84; ((with_reducible refine (cA _).mono ?_); rintro e w ⟨rfl, hb⟩; replace H := H.call hb; clear hb)) | (go_at_call 86; ((with_reducible refine (cR _).mono ?_); rintro e w ⟨rfl, hb⟩; replace H := H.call hb; clear hb)) | (go_at_call 63; ((with_reducible refine (cO _).mono ?_); rintro e w ⟨rfl, hb⟩; replace H := H.call hb; clear hb))); refine H.nx ?_; (try simp only [Act.put, yq1_, yq2_, yq3_]); (try simp only [yq4_, yq5_, yq6_]); refine held1 5 ?_; unfold Oper.wp; go_simp; (first | (go_at_call 82; ((with_reducible refine (cF _).mono ?_); rintro e w ⟨rfl, hb⟩; replace H := H.call hb; clear hb)) | (go_at_call 83; ((with_reducible refine (cW _).mono ?_); rintro e w ⟨rfl, hb⟩; replace H := H.call hb; clear hb)) | (go_at_call 65; ((with_reducible refine (cP _).mono ?_); rintro e w ⟨rfl, hb⟩; replace H := H.call hb; clear hb)) | (go_at_call 64; ((with_reducible refine (cB _).mono ?_); rintro e w ⟨rfl, hb⟩; replace H := H.call hb; clear hb)) | (go_at_call 85; ((with_reducible refine (cM _).mono ?_); rintro e w ⟨rfl, hb⟩; replace H := H.call hb; clear hb)) | (go_at_call 84; ((with_reducible refine (cA _).mono ?_); rintro e w ⟨rfl, hb⟩; replace H := H.call hb; clear hb)) | (go_at_call 86; ((with_reducible refine (cR _).mono ?_); rintro e w ⟨rfl, hb⟩; replace H := H.call hb; clear hb)) | (go_at_call 63; ((with_reducible refine (cO _).mono ?_); rintro e w ⟨rfl, hb⟩; replace H := H.call hb; clear hb))); refine H.nx ?_; (try simp only [Act.put, yq1_, yq2_, yq3_]); (try simp only [yq4_, yq5_, yq6_]); refine held1 7 ?_; (first | refine H.ys ?_ | refine H.yt ?_); intro w H; refine H.nx ?_; (try simp only [Act.put]); refine wpAnyH_done (by kernel_rfl) ?_ _; (first | exact ⟨rfl, g6, rfl, H⟩ | exact ⟨rfl, g6, rfl, (H.perm (List.Perm.swap _ _ _))⟩ | exact ⟨rfl, g6, rfl, (H.perm (List.Perm.cons _ (List.Perm.swap _ _ _)))⟩ | exact ⟨rfl, g6, rfl, (H.perm ((List.Perm.swap _ _ _).trans (List.Perm.cons _ (List.Perm.swap _ _ _))))⟩ | exact ⟨rfl, g6, rfl, (H.perm ((List.Perm.cons _ (List.Perm.swap _ _ _)).trans (List.Perm.swap _ _ _)))⟩ | exact ⟨rfl, g6, rfl, (H.perm (((List.Perm.swap _ _ _).trans (List.Perm.cons _ (List.Perm.swap _ _ _))).trans (List.Perm.swap _ _ _)))⟩))); (refine H.ya ?_; intro g6 w H; refine H.nx ?_; (try simp only [Act.put, yq1_, yq2_, yq3_]); (try simp only [yq4_, yq5_, yq6_]); refine held1 2 ?_; unfold Oper.wp; go_simp; (first | (go_at_call 82; ((with_reducible refine (cF _).mono ?_); rintro e w ⟨rfl, hb⟩; replace H := H.call hb; clear hb)) | (go_at_call 83; ((with_reducible refine (cW _).mono ?_); rintro e w ⟨rfl, hb⟩; replace H := H.call hb; clear hb)) | (go_at_call 65; ((with_reducible refine (cP _).mono ?_); rintro e w ⟨rfl, hb⟩; replace H := H.call hb; clear hb)) | (go_at_call 64; ((with_reducible refine (cB _).mono ?_); rintro e w ⟨rfl, hb⟩; replace H := H.call hb; clear hb)) | (go_at_call 85; ((with_reducible refine (cM _).mono ?_); rintro e w ⟨rfl, hb⟩; replace H := H.call hb; clear hb)) | (go_at_call 84; ((with_reducible refine (cA _).mono ?_); rintro e w ⟨rfl, hb⟩; replace H := H.call hb; clear hb)) | (go_at_call 86; ((with_reducible refine (cR _).mono ?_); rintro e w ⟨rfl, hb⟩; replace H := H.call hb; clear hb)) | (go_at_call 63; ((with_reducible refine (cO _).mono ?_); rintro e w ⟨rfl, hb⟩; replace H := H.call hb; clear hb))); refine H.nx ?_; (try simp only [Act.put, yq1_, yq2_, yq3_]); (try simp only [yq4_, yq5_, yq6_]); refine H.zr 3 ?_; (try simp only [Act.put, yq1_, yq2_, yq3_]); (try simp only [yq4_, yq5_, yq6_]); refine held1 4 ?_; unfold Oper.wp; go_simp; (first | (go_at_call 82; ((with_reducible refine (cF _).mono ?_); rintro e w ⟨rfl, hb⟩; replace H := H.call hb; clear hb)) | (go_at_call 83; ((with_reducible refine (cW _).mono ?_); rintro e w ⟨rfl, hb⟩; replace H := H.call hb; clear hb)) | (go_at_call 65; ((with_reducible refine (cP _).mono ?_); rintro e w ⟨rfl, hb⟩; replace H := H.call hb; clear hb)) | (go_at_call 64; ((with_reducible refine (cB _).mono ?_); rintro e w ⟨rfl, hb⟩; replace H := H.call hb; clear hb)) | (go_at_call 85; ((with_reducible refine (cM _).mono ?_); rintro e w ⟨rfl, hb⟩; replace H := H.call hb; clear hb)) | (go_at_call 84; ((with_reducible refine (cA _).mono ?_); rintro e w ⟨rfl, hb⟩; replace H := H.call hb; clear hb)) | (go_at_call 86; ((with_reducible refine (cR _).mono ?_); rintro e w ⟨rfl, hb⟩; replace H := H.call hb; clear hb)) | (go_at_call 63; ((with_reducible refine (cO _).mono ?_); rintro e w ⟨rfl, hb⟩; replace H := H.call hb; clear hb))); refine H.nx ?_; (try simp only [Act.put, yq1_, yq2_, yq3_]); (try simp only [yq4_, yq5_, yq6_]); refine held1 5 ?_; unfold Oper.wp; go_simp; (first | (go_at_call 82; ((with_reducible refine (cF _).mono ?_); rintro e w ⟨rfl, hb⟩; replace H := H.call hb; clear hb)) | (go_at_call 83; ((with_reducible refine (cW _).mono ?_); rintro e w ⟨rfl, hb⟩; replace H := H.call hb; clear hb)) | (go_at_call 65; ((with_reducible refine (cP _).mono ?_); rintro e w ⟨rfl, hb⟩; replace H := H.call hb; clear hb)) | (go_at_call 64; ((with_reducible refine (cB _).mono ?_); rintro e w ⟨rfl, hb⟩; replace H := H.call hb; clear hb)) | (go_at_call 85; ((with_reducible refine (cM _).mono ?_); rintro e w ⟨rfl, hb⟩; replace H := H.call hb; clear hb)) | (go_at_call 84; ((with_reducible refine (cA _).mono ?_); rintro e w ⟨rfl, hb⟩; replace H := H.call hb; clear hb)) | (go_at_call 86; ((with_reducible refine (cR _).mono ?_); rintro e w ⟨rfl, hb⟩; replace H := H.call hb; clear hb)) | (go_at_call 63; ((with_reducible refine (cO _).mono ?_); rintro e w ⟨rfl, hb⟩; replace H := H.call hb; clear hb))); refine H.nx ?_; (try simp only [Act.put, yq1_, yq2_, yq3_]); (try simp only [yq4_, yq5_, yq6_]); refine held1 7 ?_; (first | refine H.ys ?_ | refine H.yt ?_); intro w H; refine H.nx ?_; (try simp only [Act.put]); refine wpAnyH_done (by kernel_rfl) ?_ _; (first | exact ⟨rfl, g6, rfl, H⟩ | exact ⟨rfl, g6, rfl, (H.perm (List.Perm.swap _ _ _))⟩ | exact ⟨rfl, g6, rfl, (H.perm (List.Perm.cons _ (List.Perm.swap _ _ _)))⟩ | exact ⟨rfl, g6, rfl, (H.perm ((List.Perm.swap _ _ _).trans (List.Perm.cons _ (List.Perm.swap _ _ _))))⟩ | exact ⟨rfl, g6, rfl, (H.perm ((List.Perm.cons _ (List.Perm.swap _ _ _)).trans (List.Perm.swap _ _ _)))⟩ | exact ⟨rfl, g6, rfl, (H.perm (((List.Perm.swap _ _ _).trans (List.Perm.cons _ (List.Perm.swap _ _ _))).trans (List.Perm.swap _ _ _)))⟩)); clear H; intro ga w H)
    | ((with_reducible show Code.wp _ (.region 4 _ true) _ _ _); apply H.join1; refine H.heldSub rfl (List.Sublist.refl _) ?_; intro H; (first | refine H.zl 0 ?_ | refine H.zm 0 ?_); (try simp only [Act.put, yq1_, yq2_, yq3_]); (try simp only [yq4_, yq5_, yq6_]); refine H.zr 1 ?_; (try simp only [Act.put, yq1_, yq2_, yq3_]); (try simp only [yq4_, yq5_, yq6_]); refine held2 2 8 ?_ ?_; (unfold Oper.wp; go_simp; (first | (go_at_call 82; ((with_reducible refine (cF _).mono ?_); rintro e w ⟨rfl, hb⟩; replace H := H.call hb; clear hb)) | (go_at_call 83; ((with_reducible refine (cW _).mono ?_); rintro e w ⟨rfl, hb⟩; replace H := H.call hb; clear hb)) | (go_at_call 65; ((with_reducible refine (cP _).mono ?_); rintro e w ⟨rfl, hb⟩; replace H := H.call hb; clear hb)) | (go_at_call 64; ((with_reducible refine (cB _).mono ?_); rintro e w ⟨rfl, hb⟩; replace H := H.call hb; clear hb)) | (go_at_call 85; ((with_reducible refine (cM _).mono ?_); rintro e w ⟨rfl, hb⟩; replace H := H.call hb; clear hb)) | (go_at_call 84; ((with_reducible refine (cA _).mono ?_); rintro e w ⟨rfl, hb⟩; replace H := H.call hb; clear hb)) | (go_at_call 86; ((with_reducible refine (cR _).mono ?_); rintro e w ⟨rfl, hb⟩; replace H := H.call hb; clear hb)) | (go_at_call 63; ((with_reducible refine (cO _).mono ?_); rintro e w ⟨rfl, hb⟩; replace H := H.call hb; clear hb))); refine H.nx ?_; (try simp only [Act.put, yq1_, yq2_, yq3_]); (try simp only [yq4_, yq5_, yq6_]); refine H.zr 3 ?_; (try simp only [Act.put, yq1_, yq2_, yq3_]); (try simp only [yq4_, yq5_, yq6_]); refine held2 4 8 ?_ ?_; (unfold Oper.wp; go_simp; (first | (go_at_call 82; ((with_reducible refine (cF _).mono ?_); rintro e w ⟨rfl, hb⟩; replace H := H.call hb; clear hb)) | (go_at_call 83; ((with_reducible refine (cW _).mono ?_); rintro e w ⟨rfl, hb⟩; replace H := H.call hb; clear hb)) | (go_at_call 65; ((with_reducible refine (cP _).mono ?_); rintro e w ⟨rfl, hb⟩; replace H := H.call hb; clear hb)) | (go_at_call 64; ((with_reducible refine (cB _).mono ?_); rintro e w ⟨rfl, hb⟩; replace H := H.call hb; clear hb)) | (go_at_call 85; ((with_reducible refine (cM _).mono ?_); rintro e w ⟨rfl, hb⟩; replace H := H.call hb; clear hb)) | (go_at_call 84; ((with_reducible refine (cA _).mono ?_); rintro e w ⟨rfl, hb⟩; replace H := H.call hb; clear hb)) | (go_at_call 86; ((with_reducible refine (cR _).mono ?_); rintro e w ⟨rfl, hb⟩; replace H := H.call hb; clear hb)) | (go_at_call 63; ((with_reducible refine (cO _).mono ?_); rintro e w ⟨rfl, hb⟩; replace H := H.call hb; clear hb))); refine H.nx ?_; (try simp only [Act.put, yq1_, yq2_, yq3_]); (try simp only [yq4_, yq5_, yq6_]); refine H.zr 5 ?_; (try simp only [Act.put, yq1_, yq2_, yq3_]); (try simp only [yq4_, yq5_, yq6_]); refine H.zr 6 ?_; (try simp only [Act.put, yq1_, yq2_, yq3_]); (try simp only [yq4_, yq5_, yq6_]); refine H.zr 7 ?_; (try simp only [Act.put, yq1_, yq2_, yq3_]); (try simp only [yq4_, yq5_, yq6_]); refine held1 8 ?_; refine H.ya ?_; intro g8 w H; refine H.nx ?_; (try simp only [Act.put, yq1_, yq2_, yq3_]); (try simp only [yq4_, yq5_, yq6_]); refine held1 9 ?_; (first | refine H.ys ?_ | refine H.yt ?_); intro w H; refine H.nx ?_; (try simp only [Act.put]); refine H.zr 10 ?_; (try simp only [Act.put, yq1_, yq2_, yq3_]); (try simp only [yq4_, yq5_, yq6_]); refine wpAnyH_done (by kernel_rfl) ?_ _; (first | exact ⟨rfl, g8, rfl, H⟩ | exact ⟨rfl, g8, rfl, (H.perm (List.Perm.swap _ _ _))⟩ | exact ⟨rfl, g8, rfl, (H.perm (List.Perm.cons _ (List.Perm.swap _ _ _)))⟩ | exact ⟨rfl, g8, rfl, (H.perm ((List.Perm.swap _ _ _).trans (List.Perm.cons _ (List.Perm.swap _ _ _))))⟩ | exact ⟨rfl, g8, rfl, (H.perm ((List.Perm.cons _ (List.Perm.swap _ _ _)).trans (List.Perm.swap _ _ _)))⟩ | exact ⟨rfl, g8, rfl, (H.perm (((List.Perm.swap _ _ _).trans (List.Perm.cons _ (List.Perm.swap _ _ _))).trans (List.Perm.swap _ _ _)))⟩)); (refine H.ya ?_; intro g8 w H; refine H.nx ?_; (try simp only [Act.put, yq1_, yq2_, yq3_]); (try simp only [yq4_, yq5_, yq6_]); refine held1 4 ?_; unfold Oper.wp; go_simp; (first | (go_at_call 82; ((with_reducible refine (cF _).mono ?_); rintro e w ⟨rfl, hb⟩; replace H := H.call hb; clear hb)) | (go_at_call 83; ((with_reducible refine (cW _).mono ?_); rintro e w ⟨rfl, hb⟩; replace H := H.call hb; clear hb)) | (go_at_call 65; ((with_reducible refine (cP _).mono ?_); rintro e w ⟨rfl, hb⟩; replace H := H.call hb; clear hb)) | (go_at_call 64; ((with_reducible refine (cB _).mono ?_); rintro e w ⟨rfl, hb⟩; replace H := H.call hb; clear hb)) | (go_at_call 85; ((with_reducible refine (cM _).mono ?_); rintro e w ⟨rfl, hb⟩; replace H := H.call hb; clear hb)) | (go_at_call 84; ((with_reducible refine (cA _).mono ?_); rintro e w ⟨rfl, hb⟩; replace H := H.call hb; clear hb)) | (go_at_call 86; ((with_reducible refine (cR _).mono ?_); rintro e w ⟨rfl, hb⟩; replace H := H.call hb; clear hb)) | (go_at_call 63; ((with_reducible refine (cO _).mono ?_); rintro e w ⟨rfl, hb⟩; replace H := H.call hb; clear hb))); refine H.nx ?_; (try simp only [Act.put, yq1_, yq2_, yq3_]); (try simp only [yq4_, yq5_, yq6_]); refine H.zr 5 ?_; (try simp only [Act.put, yq1_, yq2_, yq3_]); (try simp only [yq4_, yq5_, yq6_]); refine H.zr 6 ?_; (try simp only [Act.put, yq1_, yq2_, yq3_]); (try simp only [yq4_, yq5_, yq6_]); refine H.zr 7 ?_; (try simp only [Act.put, yq1_, yq2_, yq3_]); (try simp only [yq4_, yq5_, yq6_]); refine held1 9 ?_; (first | refine H.ys ?_ | refine H.yt ?_); intro w H; refine H.nx ?_; (try simp only [Act.put]); refine H.zr 10 ?_; (try simp only [Act.put, yq1_, yq2_, yq3_]); (try simp only [yq4_, yq5_, yq6_]); refine wpAnyH_done (by kernel_rfl) ?_ _; (first | exact ⟨rfl, g8, rfl, H⟩ | exact ⟨rfl, g8, rfl, (H.perm (List.Perm.swap _ _ _))⟩ | exact ⟨rfl, g8, rfl, (H.perm (List.Perm.cons _ (List.Perm.swap _ _ _)))⟩ | exact ⟨rfl, g8, rfl, (H.perm ((List.Perm.swap _ _ _).trans (List.Perm.cons _ (List.Perm.swap _ _ _))))⟩ | exact ⟨rfl, g8, rfl, (H.perm ((List.Perm.cons _ (List.Perm.swap _ _ _)).trans (List.Perm.swap _ _ _)))⟩ | exact ⟨rfl, g8, rfl, (H.perm (((List.Perm.swap _ _ _).trans (List.Perm.cons _ (List.Perm.swap _ _ _))).trans (List.Perm.swap _ _ _)))⟩))); (refine H.ya ?_; intro g8 w H; refine H.nx ?_; (try simp only [Act.put, yq1_, yq2_, yq3_]); (try simp only [yq4_, yq5_, yq6_]); refine held1 2 ?_; unfold Oper.wp; go_simp; (first | (go_at_call 82; ((with_reducible refine (cF _).mono ?_); rintro e w ⟨rfl, hb⟩; replace H := H.call hb; clear hb)) | (go_at_call 83; ((with_reducible refine (cW _).mono ?_); rintro e w ⟨rfl, hb⟩; replace H := H.call hb; clear hb)) | (go_at_call 65; ((with_reducible refine (cP _).mono ?_); rintro e w ⟨rfl, hb⟩; replace H := H.call hb; clear hb)) | (go_at_call 64; ((with_reducible refine (cB _).mono ?_); rintro e w ⟨rfl, hb⟩; replace H := H.call hb; clear hb)) | (go_at_call 85; ((with_reducible refine (cM _).mono ?_); rintro e w ⟨rfl, hb⟩; replace H := H.call hb; clear hb)) | (go_at_call 84; ((with_reducible refine (cA _).mono ?_); rintro e w ⟨rfl, hb⟩; replace H := H.call hb; clear hb)) | (go_at_call 86; ((with_reducible refine (cR _).mono ?_); rintro e w ⟨rfl, hb⟩; replace H := H.call hb; clear hb)) | (go_at_call 63; ((with_reducible refine (cO _).mono ?_); rintro e w ⟨rfl, hb⟩; replace H := H.call hb; clear hb))); refine H.nx ?_; (try simp only [Act.put, yq1_, yq2_, yq3_]); (try simp only [yq4_, yq5_, yq6_]); refine H.zr 3 ?_; (try simp only [Act.put, yq1_, yq2_, yq3_]); (try simp only [yq4_, yq5_, yq6_]); refine held1 4 ?_; unfold Oper.wp; go_simp; (first | (go_at_call 82; ((with_reducible refine (cF _).mono ?_); rintro e w ⟨rfl, hb⟩; replace H := H.call hb; clear hb)) | (go_at_call 83; ((with_reducible refine (cW _).mono ?_); rintro e w ⟨rfl, hb⟩; replace H := H.call hb; clear hb)) | (go_at_call 65; ((with_reducible refine (cP _).mono ?_); rintro e w ⟨rfl, hb⟩; replace H := H.call hb; clear hb)) | (go_at_call 64; ((with_reducible refine (cB _).mono ?_); rintro e w ⟨rfl, hb⟩; replace H := H.call hb; clear hb)) | (go_at_call 85; ((with_reducible refine (cM _).mono ?_); rintro e w ⟨rfl, hb⟩; replace H := H.call hb; clear hb)) | (go_at_call 84; ((with_reducible refine (cA _).mono ?_); rintro e w ⟨rfl, hb⟩; replace H := H.call hb; clear hb)) | (go_at_call 86; ((with_reducible refine (cR _).mono ?_); rintro e w ⟨rfl, hb⟩; replace H := H.call hb; clear hb)) | (go_at_call 63; ((with_reducible refine (cO _).mono ?_); rintro e w ⟨rfl, hb⟩; replace H := H.call hb; clear hb))); refine H.nx ?_; (try simp only [Act.put, yq1_, yq2_, yq3_]); (try simp only [yq4_, yq5_, yq6_]); refine H.zr 5 ?_; (try simp only [Act.put, yq1_, yq2_, yq3_]); (try simp only [yq4_, yq5_, yq6_]); refine H.zr 6 ?_; (try simp only [Act.put, yq1_, yq2_, yq3_]); (try simp only [yq4_, yq5_, yq6_]); refine H.zr 7 ?_; (try simp only [Act.put, yq1_, yq2_, yq3_]); (try simp only [yq4_, yq5_, yq6_]); refine held1 9 ?_; (first | refine H.ys ?_ | refine H.yt ?_); intro w H; refine H.nx ?_; (try simp only [Act.put]); refine H.zr 10 ?_; (try simp only [Act.put, yq1_, yq2_, yq3_]); (try simp only [yq4_, yq5_, yq6_]); refine wpAnyH_done (by kernel_rfl) ?_ _; (first | exact ⟨rfl, g8, rfl, H⟩ | exact ⟨rfl, g8, rfl, (H.perm (List.Perm.swap _ _ _))⟩ | exact ⟨rfl, g8, rfl, (H.perm (List.Perm.cons _ (List.Perm.swap _ _ _)))⟩ | exact ⟨rfl, g8, rfl, (H.perm ((List.Perm.swap _ _ _).trans (List.Perm.cons _ (List.Perm.swap _ _ _))))⟩ | exact ⟨rfl, g8, rfl, (H.perm ((List.Perm.cons _ (List.Perm.swap _ _ _)).trans (List.Perm.swap _ _ _)))⟩ | exact ⟨rfl, g8, rfl, (H.perm (((List.Perm.swap _ _ _).trans (List.Perm.cons _ (List.Perm.swap _ _ _))).trans (List.Perm.swap _ _ _)))⟩)); clear H; intro ga w H)
    | ((with_reducible show Code.wp _ (.region 5 _ true) _ _ _); refine H.heldSub rfl (List.Sublist.cons_cons _ (List.Sublist.cons_cons _ (List.Sublist.cons_cons _ (List.Sublist.cons _ (List.Sublist.refl _))))) ?_; intro H; refine H.zr 0 ?_; (try simp only [Act.put, yq1_, yq2_, yq3_]); (try simp only [yq4_, yq5_, yq6_]); refine H.zr 1 ?_; (try simp only [Act.put, yq1_, yq2_, yq3_]); (try simp only [yq4_, yq5_, yq6_]); (first | refine H.zl 2 ?_ | refine H.zm 2 ?_); (try simp only [Act.put, yq1_, yq2_, yq3_]); (try simp only [yq4_, yq5_, yq6_]); refine H.zr 3 ?_; (try simp only [Act.put, yq1_, yq2_, yq3_]); (try simp only [yq4_, yq5_, yq6_]); refine H.zr 4 ?_; (try simp only [Act.put, yq1_, yq2_, yq3_]); (try simp only [yq4_, yq5_, yq6_]); (first | refine H.zl 7 ?_ | refine H.zm 7 ?_); (try simp only [Act.put, yq1_, yq2_, yq3_]); (try simp only [yq4_, yq5_, yq6_]); refine held1 5 ?_; unfold Oper.wp; go_simp; (first | (go_at_call 82; ((with_reducible refine (cF _).mono ?_); rintro e w ⟨rfl, hb⟩; replace H := H.call hb; clear hb)) | (go_at_call 83; ((with_reducible refine (cW _).mono ?_); rintro e w ⟨rfl, hb⟩; replace H := H.call hb; clear hb)) | (go_at_call 65; ((with_reducible refine (cP _).mono ?_); rintro e w ⟨rfl, hb⟩; replace H := H.call hb; clear hb)) | (go_at_call 64; ((with_reducible refine (cB _).mono ?_); rintro e w ⟨rfl, hb⟩; replace H := H.call hb; clear hb)) | (go_at_call 85; ((with_reducible refine (cM _).mono ?_); rintro e w ⟨rfl, hb⟩; replace H := H.call hb; clear hb)) | (go_at_call 84; ((with_reducible refine (cA _).mono ?_); rintro e w ⟨rfl, hb⟩; replace H := H.call hb; clear hb)) | (go_at_call 86; ((with_reducible refine (cR _).mono ?_); rintro e w ⟨rfl, hb⟩; replace H := H.call hb; clear hb)) | (go_at_call 63; ((with_reducible refine (cO _).mono ?_); rintro e w ⟨rfl, hb⟩; replace H := H.call hb; clear hb))); refine H.nx ?_; (try simp only [Act.put, yq1_, yq2_, yq3_]); (try simp only [yq4_, yq5_, yq6_]); refine H.zr 6 ?_; (try simp only [Act.put, yq1_, yq2_, yq3_]); (try simp only [yq4_, yq5_, yq6_]); refine H.zr 8 ?_; (try simp only [Act.put, yq1_, yq2_, yq3_]); (try simp only [yq4_, yq5_, yq6_]); refine H.zr 9 ?_; (try simp only [Act.put, yq1_, yq2_, yq3_]); (try simp only [yq4_, yq5_, yq6_]); refine held1 10 ?_; (first | refine H.ys ?_ | refine H.yt ?_); intro w H; refine H.nx ?_; (try simp only [Act.put]); refine wpAnyH_done (by kernel_rfl) ?_ _)
    | (go_at_call 82; ((with_reducible refine (cF _).mono ?_); rintro e w ⟨rfl, hb⟩; replace H := H.call hb; clear hb))
    | (go_at_call 83; ((with_reducible refine (cW _).mono ?_); rintro e w ⟨rfl, hb⟩; replace H := H.call hb; clear hb))
    | (go_at_call 65; ((with_reducible refine (cP _).mono ?_); rintro e w ⟨rfl, hb⟩; replace H := H.call hb; clear hb))
    | (go_at_call 64; ((with_reducible refine (cB _).mono ?_); rintro e w ⟨rfl, hb⟩; replace H := H.call hb; clear hb))
    | (go_at_call 85; ((with_reducible refine (cM _).mono ?_); rintro e w ⟨rfl, hb⟩; replace H := H.call hb; clear hb))
    | (go_at_call 84; ((with_reducible refine (cA _).mono ?_); rintro e w ⟨rfl, hb⟩; replace H := H.call hb; clear hb))
    | (go_at_call 86; ((with_reducible refine (cR _).mono ?_); rintro e w ⟨rfl, hb⟩; replace H := H.call hb; clear hb))
    | (go_at_call 63; ((with_reducible refine (cO _).mono ?_); rintro e w ⟨rfl, hb⟩; replace H := H.call hb; clear hb))
    )
  all_goals
    refine bodyPost_ret (results_ttc rfl rfl (H.res rW y1_ y2_ (by rfl))) rfl ⟨?_, H.below⟩
    exact rfl
theorem r7Fields_any (f b : Nat) (w : World) (hf : f < 4) (hb : b < 2 ^ (64 * 2)) :
    Calls Tryd.prog 62 #[.int .u8 f, BV b] w fun e w' => e = .returned (.tuple #[.bool (negN f b), .int .i64 (expN f b : Nat), W (b % 2 ^ (pF f - 1))]) ∧ Below w.heap.size w w' := by
  obtain ⟨p1, p2, n1, n2, np1, np2⟩ := formB f hf
  obtain ⟨-, -, k3, k4, k5, -, -⟩ := formK f hf
  have cW := fun w => r7Width_any f w
  have cP := fun w => r7Precision_any f w
  have cO := fun w => r7Ones_any f w
  have hbt := lt_top_bits b hb
  have e1 := exp_ones (b / 2 ^ (pF f - 1)) (wF f - pF f) (by omega)
  rw [k3, show 2 * eF f + 2 - 1 = 2 * eF f + 1 by omega] at e1
  have cM := fun w => r2Mask_any ((pF f - 1 : Nat) : Int) w
  have cA := fun w => r2And_any b (2 ^ (pF f - 1) - 1) w
  have cR := fun w => r2Right_any b ((pF f - 1 : Nat) : Int) w hbt
  rw [clip_of _ (by omega)] at cM cR
  rw [Nat.and_two_pow_sub_one_eq_mod] at cA
  have h := r7Fields_w f b (pF f - 1) (wF f - 1) (pF f) (wF f) (2 * eF f + 1) _ _ _ _ _ w
    (by rw [show (pF f : Int) - 1 = ((pF f - 1 : Nat) : Int) by omega]; exact IntWalk.i64_in _ (by omega))
    (by rw [show (wF f : Int) - 1 = ((wF f - 1 : Nat) : Int) by omega]; exact IntWalk.i64_in _ (by omega))
    (fun w => r2OfBits_any b w hb) cW cP (fun w => r2Bit_any b (wF f - 1) w (by omega)) cM cA cR cO
  rw [e1, ← k3] at h
  exact h
open Go.RowKit
theorem r8Class_nan_true (f b e0 o t p2 p : Nat) (neg qb : Bool) (w : World) (cF : ∀ w, Calls Tryd.prog 62 #[.int .u8 f, BV b] w fun e w' => e = .returned (.tuple #[.bool neg, .int .i64 (e0 : Nat), W t]) ∧ Below w.heap.size w w') (cO : ∀ w, Calls Tryd.prog 63 #[.int .u8 f] w fun e w' => e = .returned (.int .i64 (o : Nat)) ∧ Below w.heap.size w w') (eq1 : ∀ w, (Op.equalIn 10000 46 (.agg (limbs t)) (.agg #[.int .u64 0, .int .u64 0, .int .u64 0, .int .u64 0, .int .u64 0, .int .u64 0])).run Tryd.prog w = .ok false w) (hx : ((e0 : Int) == (o : Int)) = true) (hp : IntKind.i64.wrap ((p : Int) - 2) = (p2 : Int)) (cP : ∀ w, Calls Tryd.prog 65 #[.int .u8 f] w fun e w' => e = .returned (.int .i64 (p : Nat)) ∧ Below w.heap.size w w') (cB : ∀ w, Calls Tryd.prog 64 #[W t, .int .i64 (p2 : Nat)] w fun e w' => e = .returned (.bool true) ∧ Below w.heap.size w w')  :
    Calls Tryd.prog 27 #[.int .u8 f, BV b] w fun e w' => e = .returned (.int .u8 9) ∧ Below w.heap.size w w' := by
  have H := Own.start w
  go_enter Tryd.func27, Tryd.ntmps27
  exact ywalk2
theorem r8Class_nan_false (f b e0 o t p2 p : Nat) (neg qb : Bool) (w : World) (cF : ∀ w, Calls Tryd.prog 62 #[.int .u8 f, BV b] w fun e w' => e = .returned (.tuple #[.bool neg, .int .i64 (e0 : Nat), W t]) ∧ Below w.heap.size w w') (cO : ∀ w, Calls Tryd.prog 63 #[.int .u8 f] w fun e w' => e = .returned (.int .i64 (o : Nat)) ∧ Below w.heap.size w w') (eq1 : ∀ w, (Op.equalIn 10000 46 (.agg (limbs t)) (.agg #[.int .u64 0, .int .u64 0, .int .u64 0, .int .u64 0, .int .u64 0, .int .u64 0])).run Tryd.prog w = .ok false w) (hx : ((e0 : Int) == (o : Int)) = true) (hp : IntKind.i64.wrap ((p : Int) - 2) = (p2 : Int)) (cP : ∀ w, Calls Tryd.prog 65 #[.int .u8 f] w fun e w' => e = .returned (.int .i64 (p : Nat)) ∧ Below w.heap.size w w') (cB : ∀ w, Calls Tryd.prog 64 #[W t, .int .i64 (p2 : Nat)] w fun e w' => e = .returned (.bool false) ∧ Below w.heap.size w w')  :
    Calls Tryd.prog 27 #[.int .u8 f, BV b] w fun e w' => e = .returned (.int .u8 8) ∧ Below w.heap.size w w' := by
  have H := Own.start w
  go_enter Tryd.func27, Tryd.ntmps27
  exact ywalk2
theorem r8Class_inf_true (f b e0 o t p2 p : Nat) (neg qb : Bool) (w : World) (cF : ∀ w, Calls Tryd.prog 62 #[.int .u8 f, BV b] w fun e w' => e = .returned (.tuple #[.bool true, .int .i64 (e0 : Nat), W t]) ∧ Below w.heap.size w w') (cO : ∀ w, Calls Tryd.prog 63 #[.int .u8 f] w fun e w' => e = .returned (.int .i64 (o : Nat)) ∧ Below w.heap.size w w') (eq1 : ∀ w, (Op.equalIn 10000 46 (.agg (limbs t)) (.agg #[.int .u64 0, .int .u64 0, .int .u64 0, .int .u64 0, .int .u64 0, .int .u64 0])).run Tryd.prog w = .ok true w) (hx : ((e0 : Int) == (o : Int)) = true)  :
    Calls Tryd.prog 27 #[.int .u8 f, BV b] w fun e w' => e = .returned (.int .u8 0) ∧ Below w.heap.size w w' := by
  have H := Own.start w
  go_enter Tryd.func27, Tryd.ntmps27
  exact ywalk3
theorem r8Class_nor_true (f b e0 o t p2 p : Nat) (neg qb : Bool) (w : World) (cF : ∀ w, Calls Tryd.prog 62 #[.int .u8 f, BV b] w fun e w' => e = .returned (.tuple #[.bool true, .int .i64 (e0 : Nat), W t]) ∧ Below w.heap.size w w') (cO : ∀ w, Calls Tryd.prog 63 #[.int .u8 f] w fun e w' => e = .returned (.int .i64 (o : Nat)) ∧ Below w.heap.size w w') (hx : ((e0 : Int) == (o : Int)) = false) (hy : ((e0 : Int) != 0) = true)  :
    Calls Tryd.prog 27 #[.int .u8 f, BV b] w fun e w' => e = .returned (.int .u8 1) ∧ Below w.heap.size w w' := by
  have H := Own.start w
  go_enter Tryd.func27, Tryd.ntmps27
  exact ywalk3
theorem r8Class_sub_true (f b e0 o t p2 p : Nat) (neg qb : Bool) (w : World) (cF : ∀ w, Calls Tryd.prog 62 #[.int .u8 f, BV b] w fun e w' => e = .returned (.tuple #[.bool true, .int .i64 (e0 : Nat), W t]) ∧ Below w.heap.size w w') (cO : ∀ w, Calls Tryd.prog 63 #[.int .u8 f] w fun e w' => e = .returned (.int .i64 (o : Nat)) ∧ Below w.heap.size w w') (hx : ((e0 : Int) == (o : Int)) = false) (hy : ((e0 : Int) != 0) = false) (eq1 : ∀ w, (Op.equalIn 10000 46 (.agg (limbs t)) (.agg #[.int .u64 0, .int .u64 0, .int .u64 0, .int .u64 0, .int .u64 0, .int .u64 0])).run Tryd.prog w = .ok false w)  :
    Calls Tryd.prog 27 #[.int .u8 f, BV b] w fun e w' => e = .returned (.int .u8 2) ∧ Below w.heap.size w w' := by
  have H := Own.start w
  go_enter Tryd.func27, Tryd.ntmps27
  exact ywalk3
theorem r8Class_zer_true (f b e0 o t p2 p : Nat) (neg qb : Bool) (w : World) (cF : ∀ w, Calls Tryd.prog 62 #[.int .u8 f, BV b] w fun e w' => e = .returned (.tuple #[.bool true, .int .i64 (e0 : Nat), W t]) ∧ Below w.heap.size w w') (cO : ∀ w, Calls Tryd.prog 63 #[.int .u8 f] w fun e w' => e = .returned (.int .i64 (o : Nat)) ∧ Below w.heap.size w w') (hx : ((e0 : Int) == (o : Int)) = false) (hy : ((e0 : Int) != 0) = false) (eq1 : ∀ w, (Op.equalIn 10000 46 (.agg (limbs t)) (.agg #[.int .u64 0, .int .u64 0, .int .u64 0, .int .u64 0, .int .u64 0, .int .u64 0])).run Tryd.prog w = .ok true w)  :
    Calls Tryd.prog 27 #[.int .u8 f, BV b] w fun e w' => e = .returned (.int .u8 3) ∧ Below w.heap.size w w' := by
  have H := Own.start w
  go_enter Tryd.func27, Tryd.ntmps27
  exact ywalk3
theorem r8Class_inf_false (f b e0 o t p2 p : Nat) (neg qb : Bool) (w : World) (cF : ∀ w, Calls Tryd.prog 62 #[.int .u8 f, BV b] w fun e w' => e = .returned (.tuple #[.bool false, .int .i64 (e0 : Nat), W t]) ∧ Below w.heap.size w w') (cO : ∀ w, Calls Tryd.prog 63 #[.int .u8 f] w fun e w' => e = .returned (.int .i64 (o : Nat)) ∧ Below w.heap.size w w') (eq1 : ∀ w, (Op.equalIn 10000 46 (.agg (limbs t)) (.agg #[.int .u64 0, .int .u64 0, .int .u64 0, .int .u64 0, .int .u64 0, .int .u64 0])).run Tryd.prog w = .ok true w) (hx : ((e0 : Int) == (o : Int)) = true)  :
    Calls Tryd.prog 27 #[.int .u8 f, BV b] w fun e w' => e = .returned (.int .u8 7) ∧ Below w.heap.size w w' := by
  have H := Own.start w
  go_enter Tryd.func27, Tryd.ntmps27
  exact ywalk3
theorem r8Class_nor_false (f b e0 o t p2 p : Nat) (neg qb : Bool) (w : World) (cF : ∀ w, Calls Tryd.prog 62 #[.int .u8 f, BV b] w fun e w' => e = .returned (.tuple #[.bool false, .int .i64 (e0 : Nat), W t]) ∧ Below w.heap.size w w') (cO : ∀ w, Calls Tryd.prog 63 #[.int .u8 f] w fun e w' => e = .returned (.int .i64 (o : Nat)) ∧ Below w.heap.size w w') (hx : ((e0 : Int) == (o : Int)) = false) (hy : ((e0 : Int) != 0) = true)  :
    Calls Tryd.prog 27 #[.int .u8 f, BV b] w fun e w' => e = .returned (.int .u8 6) ∧ Below w.heap.size w w' := by
  have H := Own.start w
  go_enter Tryd.func27, Tryd.ntmps27
  exact ywalk3
theorem r8Class_sub_false (f b e0 o t p2 p : Nat) (neg qb : Bool) (w : World) (cF : ∀ w, Calls Tryd.prog 62 #[.int .u8 f, BV b] w fun e w' => e = .returned (.tuple #[.bool false, .int .i64 (e0 : Nat), W t]) ∧ Below w.heap.size w w') (cO : ∀ w, Calls Tryd.prog 63 #[.int .u8 f] w fun e w' => e = .returned (.int .i64 (o : Nat)) ∧ Below w.heap.size w w') (hx : ((e0 : Int) == (o : Int)) = false) (hy : ((e0 : Int) != 0) = false) (eq1 : ∀ w, (Op.equalIn 10000 46 (.agg (limbs t)) (.agg #[.int .u64 0, .int .u64 0, .int .u64 0, .int .u64 0, .int .u64 0, .int .u64 0])).run Tryd.prog w = .ok false w)  :
    Calls Tryd.prog 27 #[.int .u8 f, BV b] w fun e w' => e = .returned (.int .u8 5) ∧ Below w.heap.size w w' := by
  have H := Own.start w
  go_enter Tryd.func27, Tryd.ntmps27
  exact ywalk3
theorem r8Class_zer_false (f b e0 o t p2 p : Nat) (neg qb : Bool) (w : World) (cF : ∀ w, Calls Tryd.prog 62 #[.int .u8 f, BV b] w fun e w' => e = .returned (.tuple #[.bool false, .int .i64 (e0 : Nat), W t]) ∧ Below w.heap.size w w') (cO : ∀ w, Calls Tryd.prog 63 #[.int .u8 f] w fun e w' => e = .returned (.int .i64 (o : Nat)) ∧ Below w.heap.size w w') (hx : ((e0 : Int) == (o : Int)) = false) (hy : ((e0 : Int) != 0) = false) (eq1 : ∀ w, (Op.equalIn 10000 46 (.agg (limbs t)) (.agg #[.int .u64 0, .int .u64 0, .int .u64 0, .int .u64 0, .int .u64 0, .int .u64 0])).run Tryd.prog w = .ok true w)  :
    Calls Tryd.prog 27 #[.int .u8 f, BV b] w fun e w' => e = .returned (.int .u8 4) ∧ Below w.heap.size w w' := by
  have H := Own.start w
  go_enter Tryd.func27, Tryd.ntmps27
  exact ywalk3
theorem r8Class_any (f b : Nat) (w : World) (hf : f < 4) (hb : b < 2 ^ (64 * 2)) :
    Calls Tryd.prog 27 #[.int .u8 f, BV b] w fun e w' => e = .returned (.int .u8 (clsN f b : Nat)) ∧ Below w.heap.size w w' := by
  have cF := fun w => r7Fields_any f b w hf hb
  have cO := fun w => r7Ones_any f w
  have cP := fun w => r7Precision_any f w
  obtain ⟨p1, p2, -, -, -, -⟩ := formB f hf
  have ht : b % 2 ^ (pF f - 1) < top6 := Nat.lt_of_le_of_lt (Nat.mod_le _ _) (lt_top_bits b hb)
  have eq1 : ∀ w, (Op.equalIn 10000 46 (.agg (limbs (b % 2 ^ (pF f - 1)))) (.agg #[.int .u64 0, .int .u64 0, .int .u64 0, .int .u64 0, .int .u64 0, .int .u64 0])).run Tryd.prog w = .ok (decide (b % 2 ^ (pF f - 1) = 0)) w := fun w => run_equal_zero w _ ht
  unfold clsN
  unfold negN at cF
  generalize b % 2 ^ (pF f - 1) = t at *
  generalize expN f b = e at *
  generalize b.testBit (wF f - 1) = neg at *
  generalize eF f = m at *
  have cB := fun w => r2Bit_any t (pF f - 2) w (by omega)
  have hp : IntKind.i64.wrap ((pF f : Int) - 2) = ((pF f - 2 : Nat) : Int) := by rw [show (pF f : Int) - 2 = ((pF f - 2 : Nat) : Int) by omega]; exact IntWalk.i64_in _ (by omega)
  generalize pF f = p at *
  by_cases hx : e = 2 * m + 1
  · have hxb : ((e : Int) == ((2 * m + 1 : Nat) : Int)) = true := int_eq_true _ _ hx
    rw [if_pos hx]
    by_cases hz : t = 0
    · rw [decide_eq_true hz] at eq1
      rw [if_pos hz]
      cases neg
      · exact r8Class_inf_false f b e _ t 0 0 false false w cF cO eq1 hxb
      · exact r8Class_inf_true f b e _ t 0 0 false false w cF cO eq1 hxb
    · rw [decide_eq_false hz] at eq1
      rw [if_neg hz]
      cases hq : t.testBit (p - 2) <;> rw [hq] at cB
      · exact r8Class_nan_false f b e _ t (p - 2) p neg false w cF cO eq1 hxb hp cP cB
      · exact r8Class_nan_true f b e _ t (p - 2) p neg false w cF cO eq1 hxb hp cP cB
  · have hxb : ((e : Int) == ((2 * m + 1 : Nat) : Int)) = false := int_eq_false _ _ hx
    rw [if_neg hx]
    by_cases hy : e = 0
    · have hyb : ((e : Int) != 0) = false := by rw [hy]; rfl
      rw [if_pos hy]
      by_cases hz : t = 0
      · rw [decide_eq_true hz] at eq1
        rw [if_pos hz]
        cases neg
        · exact r8Class_zer_false f b e _ t 0 0 false false w cF cO hxb hyb eq1
        · exact r8Class_zer_true f b e _ t 0 0 false false w cF cO hxb hyb eq1
      · rw [decide_eq_false hz] at eq1
        rw [if_neg hz]
        cases neg
        · exact r8Class_sub_false f b e _ t 0 0 false false w cF cO hxb hyb eq1
        · exact r8Class_sub_true f b e _ t 0 0 false false w cF cO hxb hyb eq1
    · have hyb : ((e : Int) != 0) = true := by have := int_eq_false e 0 hy; rw [bne]; rw [show (0 : Int) = ((0 : Nat) : Int) from rfl, this]; rfl
      rw [if_neg hy]
      cases neg
      · exact r8Class_nor_false f b e _ t 0 0 false false w cF cO hxb hyb
      · exact r8Class_nor_true f b e _ t 0 0 false false w cF cO hxb hyb
theorem r8IsInf_t (f b c : Nat) (w : World) (hc : c = 0) (cC : ∀ w, Calls Tryd.prog 27 #[.int .u8 f, BV b] w fun e w' => e = .returned (.int .u8 (c : Nat)) ∧ Below w.heap.size w w')  :
    Calls Tryd.prog 20 #[.int .u8 f, BV b] w fun e w' => e = .returned (.bool (infB c)) ∧ Below w.heap.size w w' := by
  have H := Own.start w
  have e1 : ((c : Int) == 0) = true := int_eq_true c 0 hc
  have HR := Lib.hid (show true = infB c by rw [hc]; rfl)
  clear hc
  go_enter Tryd.func20, Tryd.ntmps20
  exact ywalk3
theorem r8IsInf_f (f b c : Nat) (w : World) (hc : c ≠ 0) (cC : ∀ w, Calls Tryd.prog 27 #[.int .u8 f, BV b] w fun e w' => e = .returned (.int .u8 (c : Nat)) ∧ Below w.heap.size w w')  :
    Calls Tryd.prog 20 #[.int .u8 f, BV b] w fun e w' => e = .returned (.bool (infB c)) ∧ Below w.heap.size w w' := by
  have H := Own.start w
  have e1 : ((c : Int) == 0) = false := int_eq_false c 0 hc
  have HR := Lib.hid (show ∀ b : Bool, b = decide (c = 7) → b = infB c by intro b hb; unfold infB; rw [decide_eq_false hc]; exact hb)
  clear hc
  go_enter Tryd.func20, Tryd.ntmps20
  exact ywalk3
theorem r8IsInf_any (f b : Nat) (w : World) (hf : f < 4) (hb : b < 2 ^ (64 * 2)) (_ : Tab w) :
    Calls Tryd.prog 20 #[.int .u8 f, BV b] w fun e w' => e = .returned (.bool (infB (clsN f b))) ∧ Below w.heap.size w w' := by
  by_cases hc : clsN f b = 0
  · exact r8IsInf_t f b _ w hc (fun w => r8Class_any f b w hf hb)
  · exact r8IsInf_f f b _ w hc (fun w => r8Class_any f b w hf hb)
open Go.RowKit
theorem fmaInvalid_f_true (f m c i z x : Nat) (fl : Int) (neg too : Bool) (w : World) (hT : Tab w) (cI : ∀ w, Calls Tryd.prog 13 #[.int .u8 f, .bool neg] w fun e w' => e = .returned (BV i) ∧ Below w.heap.size w w') (cZ : ∀ w, Calls Tryd.prog 14 #[.int .u8 f, .bool too] w fun e w' => e = .returned (BV z) ∧ Below w.heap.size w w') (cA : ∀ w, Tab w → Calls Tryd.prog 15 #[.int .u8 f, .int .u8 m, BV z, BV i, BV c] w fun e w' => e = .returned (.tuple #[BV x, .int .u8 fl, .int .i64 2]) ∧ Below w.heap.size w w') (cF : ∀ w, Calls Tryd.prog 16 #[.int .u8 f] w fun e w' => e = .returned (.int .i64 2) ∧ w = w')  :
    Calls Tryd.prog 4 #[.int .u8 f, .int .u8 m, .bool neg, .bool too, .bool true, BV c] w fun e w' => e = .returned (.bool true) ∧ Below w.heap.size w w' := by
  have H := Own.start w
  have HT := Lib.hid hT
  clear hT
  go_enter Tryd.func4, Tryd.ntmps4
  exact ywalk3
theorem fmaInvalid_m_true (f m c i z x : Nat) (fl : Int) (neg too : Bool) (w : World) (hT : Tab w) (cI : ∀ w, Calls Tryd.prog 13 #[.int .u8 f, .bool neg] w fun e w' => e = .returned (BV i) ∧ Below w.heap.size w w') (cZ : ∀ w, Calls Tryd.prog 14 #[.int .u8 f, .bool too] w fun e w' => e = .returned (BV z) ∧ Below w.heap.size w w') (cA : ∀ w, Tab w → Calls Tryd.prog 15 #[.int .u8 f, .int .u8 m, BV z, BV i, BV c] w fun e w' => e = .returned (.tuple #[BV x, .int .u8 fl, .int .i64 2]) ∧ Below w.heap.size w w') (cF : ∀ w, Calls Tryd.prog 16 #[.int .u8 f] w fun e w' => e = .returned (.int .i64 0) ∧ w = w') (cM : ∀ w, Calls Tryd.prog 9 #[.int .u8 m] w fun e w' => e = .returned (.int .i64 2) ∧ w = w')  :
    Calls Tryd.prog 4 #[.int .u8 f, .int .u8 m, .bool neg, .bool too, .bool true, BV c] w fun e w' => e = .returned (.bool true) ∧ Below w.heap.size w w' := by
  have H := Own.start w
  have HT := Lib.hid hT
  clear hT
  go_enter Tryd.func4, Tryd.ntmps4
  exact ywalk3
theorem fmaInvalid_c_true (f m c i z x : Nat) (fl : Int) (neg too : Bool) (w : World) (hT : Tab w) (cI : ∀ w, Calls Tryd.prog 13 #[.int .u8 f, .bool neg] w fun e w' => e = .returned (BV i) ∧ Below w.heap.size w w') (cZ : ∀ w, Calls Tryd.prog 14 #[.int .u8 f, .bool too] w fun e w' => e = .returned (BV z) ∧ Below w.heap.size w w') (cA : ∀ w, Tab w → Calls Tryd.prog 15 #[.int .u8 f, .int .u8 m, BV z, BV i, BV c] w fun e w' => e = .returned (.tuple #[BV x, .int .u8 fl, .int .i64 2]) ∧ Below w.heap.size w w') (cF : ∀ w, Calls Tryd.prog 16 #[.int .u8 f] w fun e w' => e = .returned (.int .i64 0) ∧ w = w') (cM : ∀ w, Calls Tryd.prog 9 #[.int .u8 m] w fun e w' => e = .returned (.int .i64 0) ∧ w = w') (cT : ∀ w, Calls Tryd.prog 17 #[.int .u8 f, BV c] w fun e w' => e = .returned (.bool false) ∧ Below w.heap.size w w')  :
    Calls Tryd.prog 4 #[.int .u8 f, .int .u8 m, .bool neg, .bool too, .bool true, BV c] w fun e w' => e = .returned (.bool true) ∧ Below w.heap.size w w' := by
  have H := Own.start w
  have HT := Lib.hid hT
  clear hT
  go_enter Tryd.func4, Tryd.ntmps4
  exact ywalk3
theorem fmaInvalid_ok_true (f m c i z x : Nat) (fl : Int) (neg too : Bool) (w : World) (hT : Tab w) (cI : ∀ w, Calls Tryd.prog 13 #[.int .u8 f, .bool neg] w fun e w' => e = .returned (BV i) ∧ Below w.heap.size w w') (cZ : ∀ w, Calls Tryd.prog 14 #[.int .u8 f, .bool too] w fun e w' => e = .returned (BV z) ∧ Below w.heap.size w w') (cA : ∀ w, Tab w → Calls Tryd.prog 15 #[.int .u8 f, .int .u8 m, BV z, BV i, BV c] w fun e w' => e = .returned (.tuple #[BV x, .int .u8 16, .int .i64 0]) ∧ Below w.heap.size w w') (cN : ∀ w, Calls Tryd.prog 19 #[.int .u8 f] w fun e w' => e = .returned (BV x) ∧ Below w.heap.size w w') (cX : ∀ w, Tab w → Calls Tryd.prog 20 #[.int .u8 f, BV x] w fun e w' => e = .returned (.bool false) ∧ Below w.heap.size w w') :
    Calls Tryd.prog 4 #[.int .u8 f, .int .u8 m, .bool neg, .bool too, .bool true, BV c] w fun e w' => e = .returned (.bool true) ∧ Below w.heap.size w w' := by
  have H := Own.start w
  have HT := Lib.hid hT
  clear hT
  go_enter Tryd.func4, Tryd.ntmps4
  exact ywalk1
theorem fmaInvalid_f_false (f m c i z x : Nat) (fl : Int) (neg too : Bool) (w : World) (hT : Tab w) (cI : ∀ w, Calls Tryd.prog 13 #[.int .u8 f, .bool neg] w fun e w' => e = .returned (BV i) ∧ Below w.heap.size w w') (cZ : ∀ w, Calls Tryd.prog 14 #[.int .u8 f, .bool too] w fun e w' => e = .returned (BV z) ∧ Below w.heap.size w w') (cA : ∀ w, Tab w → Calls Tryd.prog 15 #[.int .u8 f, .int .u8 m, BV i, BV z, BV c] w fun e w' => e = .returned (.tuple #[BV x, .int .u8 fl, .int .i64 2]) ∧ Below w.heap.size w w') (cF : ∀ w, Calls Tryd.prog 16 #[.int .u8 f] w fun e w' => e = .returned (.int .i64 2) ∧ w = w')  :
    Calls Tryd.prog 4 #[.int .u8 f, .int .u8 m, .bool neg, .bool too, .bool false, BV c] w fun e w' => e = .returned (.bool true) ∧ Below w.heap.size w w' := by
  have H := Own.start w
  have HT := Lib.hid hT
  clear hT
  go_enter Tryd.func4, Tryd.ntmps4
  exact ywalk3
theorem fmaInvalid_m_false (f m c i z x : Nat) (fl : Int) (neg too : Bool) (w : World) (hT : Tab w) (cI : ∀ w, Calls Tryd.prog 13 #[.int .u8 f, .bool neg] w fun e w' => e = .returned (BV i) ∧ Below w.heap.size w w') (cZ : ∀ w, Calls Tryd.prog 14 #[.int .u8 f, .bool too] w fun e w' => e = .returned (BV z) ∧ Below w.heap.size w w') (cA : ∀ w, Tab w → Calls Tryd.prog 15 #[.int .u8 f, .int .u8 m, BV i, BV z, BV c] w fun e w' => e = .returned (.tuple #[BV x, .int .u8 fl, .int .i64 2]) ∧ Below w.heap.size w w') (cF : ∀ w, Calls Tryd.prog 16 #[.int .u8 f] w fun e w' => e = .returned (.int .i64 0) ∧ w = w') (cM : ∀ w, Calls Tryd.prog 9 #[.int .u8 m] w fun e w' => e = .returned (.int .i64 2) ∧ w = w')  :
    Calls Tryd.prog 4 #[.int .u8 f, .int .u8 m, .bool neg, .bool too, .bool false, BV c] w fun e w' => e = .returned (.bool true) ∧ Below w.heap.size w w' := by
  have H := Own.start w
  have HT := Lib.hid hT
  clear hT
  go_enter Tryd.func4, Tryd.ntmps4
  exact ywalk3
theorem fmaInvalid_c_false (f m c i z x : Nat) (fl : Int) (neg too : Bool) (w : World) (hT : Tab w) (cI : ∀ w, Calls Tryd.prog 13 #[.int .u8 f, .bool neg] w fun e w' => e = .returned (BV i) ∧ Below w.heap.size w w') (cZ : ∀ w, Calls Tryd.prog 14 #[.int .u8 f, .bool too] w fun e w' => e = .returned (BV z) ∧ Below w.heap.size w w') (cA : ∀ w, Tab w → Calls Tryd.prog 15 #[.int .u8 f, .int .u8 m, BV i, BV z, BV c] w fun e w' => e = .returned (.tuple #[BV x, .int .u8 fl, .int .i64 2]) ∧ Below w.heap.size w w') (cF : ∀ w, Calls Tryd.prog 16 #[.int .u8 f] w fun e w' => e = .returned (.int .i64 0) ∧ w = w') (cM : ∀ w, Calls Tryd.prog 9 #[.int .u8 m] w fun e w' => e = .returned (.int .i64 0) ∧ w = w') (cT : ∀ w, Calls Tryd.prog 17 #[.int .u8 f, BV c] w fun e w' => e = .returned (.bool false) ∧ Below w.heap.size w w')  :
    Calls Tryd.prog 4 #[.int .u8 f, .int .u8 m, .bool neg, .bool too, .bool false, BV c] w fun e w' => e = .returned (.bool true) ∧ Below w.heap.size w w' := by
  have H := Own.start w
  have HT := Lib.hid hT
  clear hT
  go_enter Tryd.func4, Tryd.ntmps4
  exact ywalk3
theorem fmaInvalid_ok_false (f m c i z x : Nat) (fl : Int) (neg too : Bool) (w : World) (hT : Tab w) (cI : ∀ w, Calls Tryd.prog 13 #[.int .u8 f, .bool neg] w fun e w' => e = .returned (BV i) ∧ Below w.heap.size w w') (cZ : ∀ w, Calls Tryd.prog 14 #[.int .u8 f, .bool too] w fun e w' => e = .returned (BV z) ∧ Below w.heap.size w w') (cA : ∀ w, Tab w → Calls Tryd.prog 15 #[.int .u8 f, .int .u8 m, BV i, BV z, BV c] w fun e w' => e = .returned (.tuple #[BV x, .int .u8 16, .int .i64 0]) ∧ Below w.heap.size w w') (cN : ∀ w, Calls Tryd.prog 19 #[.int .u8 f] w fun e w' => e = .returned (BV x) ∧ Below w.heap.size w w') (cX : ∀ w, Tab w → Calls Tryd.prog 20 #[.int .u8 f, BV x] w fun e w' => e = .returned (.bool false) ∧ Below w.heap.size w w') :
    Calls Tryd.prog 4 #[.int .u8 f, .int .u8 m, .bool neg, .bool too, .bool false, BV c] w fun e w' => e = .returned (.bool true) ∧ Below w.heap.size w w' := by
  have H := Own.start w
  have HT := Lib.hid hT
  clear hT
  go_enter Tryd.func4, Tryd.ntmps4
  exact ywalk1
theorem fmaInvalid_any (f m : Nat) (neg too r : Bool) (c : Nat) (w : World) (hf : f < 256) (hm : m < 256) (hc : c < 2 ^ (64 * 2)) (hT : Tab w) :
    Calls Tryd.prog 4 #[.int .u8 f, .int .u8 m, .bool neg, .bool too, .bool r, BV c] w fun e w' => e = .returned (.bool true) ∧ Below w.heap.size w w' := by
  have cI := fun w => shapeInf_any f neg w hf
  have cZ := fun w => shapeZero_any f too w hf
  have cF := fun w => shapeCheck_any f w hf
  have cM := fun w => shapeCheckMode_any m w hm
  have cT := fun w => shapeFits_any f c w hc
  have cN := fun w => shapeNaN_any f w hf
  by_cases hf4 : f < 4
  case neg =>
    have li : infN f neg < 2 ^ (64 * 2) := by unfold infN; rw [decide_eq_false hf4]; exact (by decide : (0 : Nat) < 2 ^ (64 * 2))
    have lz : zeroN f too < 2 ^ (64 * 2) := by unfold zeroN; rw [decide_eq_false hf4]; exact (by decide : (0 : Nat) < 2 ^ (64 * 2))
    rw [decide_eq_false hf4] at cF
    have key : ∀ a b, fmaN f m a b c = (0, 0, 2) := fun a b => by unfold fmaN triOk; rw [decide_eq_false hf4]; rfl
    cases r
    · have cA := fun w hT => fmaMulAdd_any f m (infN f neg) (zeroN f too) c w hf hm li lz hc hT
      rw [key] at cA
      exact fmaInvalid_f_false f m c _ _ _ _ neg too w hT cI cZ cA cF
    · have cA := fun w hT => fmaMulAdd_any f m (zeroN f too) (infN f neg) c w hf hm lz li hc hT
      rw [key] at cA
      exact fmaInvalid_f_true f m c _ _ _ _ neg too w hT cI cZ cA cF
  obtain ⟨i1, i2⟩ := inf_parts f neg hf4
  obtain ⟨z1, z2⟩ := zero_parts f too hf4
  obtain ⟨n1, n2⟩ := nan_parts f hf4
  have li := below_fits f _ i1
  have lz := below_fits f _ z1
  rw [decide_eq_true hf4] at cF
  have cA1 := fun w hT => fmaMulAdd_any f m (infN f neg) (zeroN f too) c w hf hm li lz hc hT
  have cA2 := fun w hT => fmaMulAdd_any f m (zeroN f too) (infN f neg) c w hf hm lz li hc hT
  by_cases hm5 : m < 5
  case neg =>
    rw [decide_eq_false hm5] at cM
    have key : ∀ a b, fmaN f m a b c = (0, 0, 2) := fun a b => by unfold fmaN triOk; rw [decide_eq_false hm5]; simp
    rw [key] at cA1 cA2
    cases r
    · exact fmaInvalid_m_false f m c _ _ _ _ neg too w hT cI cZ cA1 cF cM
    · exact fmaInvalid_m_true f m c _ _ _ _ neg too w hT cI cZ cA2 cF cM
  rw [decide_eq_true hm5] at cM
  cases hfc : fitsB f c
  · rw [hfc] at cT
    have key : ∀ a b, fmaN f m a b c = (0, 0, 2) := fun a b => by unfold fmaN triOk; rw [hfc]; simp
    rw [key] at cA1 cA2
    cases r
    · exact fmaInvalid_c_false f m c _ _ _ _ neg too w hT cI cZ cA1 cF cM cT
    · exact fmaInvalid_c_true f m c _ _ _ _ neg too w hT cI cZ cA2 cF cM cT
  · have ii : infB (clsN f (infN f neg)) = true := by rw [i2]; cases neg <;> rfl
    have zz : zerB (clsN f (zeroN f too)) = true := by rw [z2]; cases too <;> rfl
    have k1 : fmaN f m (infN f neg) (zeroN f too) c = (nanN f, 16, 0) := by
      unfold fmaN triOk
      rw [decide_eq_true hf4, decide_eq_true hm5, i1, z1, hfc, fma_invalid f m _ _ c (by rw [ii, zz]; rfl)]; rfl
    have k2 : fmaN f m (zeroN f too) (infN f neg) c = (nanN f, 16, 0) := by
      unfold fmaN triOk
      rw [decide_eq_true hf4, decide_eq_true hm5, i1, z1, hfc, fma_invalid f m _ _ c (by rw [ii, zz]; simp)]; rfl
    rw [k1] at cA1
    rw [k2] at cA2
    have cX := fun w hT => r8IsInf_any f (nanN f) w hf4 (below_fits f _ n1) hT
    rw [n2] at cX
    cases r
    · exact fmaInvalid_ok_false f m c _ _ _ 0 neg too w hT cI cZ cA1 cN cX
    · exact fmaInvalid_ok_true f m c _ _ _ 0 neg too w hT cI cZ cA2 cN cX
open Go.ChangeShapes Go.WideShapes Go.ChangeAt Go.RowKit
theorem own : ownKnob Tryd.prog.godebug = none := by kernel_rfl
theorem laidOut : laidOutB Tryd.prog = true := by kernel_rfl
/-- What every row of this seat lists. -/
def laidL : List (String × DataW Unit) := [("math/bits.deBruijn64tab", Rows.laid_math_bits_deBruijn64tab)]
theorem gTab : Tryd.prog.globalNamed "math/bits.deBruijn64tab" = some 0 := by kernel_rfl
theorem tTab : (Tryd.prog.globals[0]?).map (·.type) = some 107 := by kernel_rfl
theorem ren1 : Tryd.lays29_ren.g 1 = 0 := rfl
theorem door_met (os : Os) (args : Array Value) : laidMetH Tryd.prog laidL ((World.doorLaid Tryd.prog 400 os).forCall (fun _ _ => 0) ⟨#[], args, []⟩).memory :=
  laidMetH_of_parts3 (fuel := 8) (laidMet_of_run' 8 (by kernel_rfl) (by kernel_rfl)) (by kernel_rfl) (by kernel_rfl)
theorem datum_map {H : Type} : (Rows.laid_math_bits_deBruijn64tab : DataW H) = .agg (Lib.deBruijn64tab.map fun x => .lit (.int .u8 (x : Nat))) := rfl
theorem tab_len : Lib.deBruijn64tab.length = 64 := by decide
theorem tab_of_laid {W : World} (h : laidMetH Tryd.prog laidL W) : Tab W := by
  rw [MakeChecks.laidMetH_plain _ _ _ (by kernel_rfl)] at h
  obtain ⟨ps, ⟨g0, t0, cs0, f0, p0, q0, hg0, ht0, hv0, hd0, _, _⟩, _, _⟩ := h
  obtain rfl := Option.some.inj (gTab.symm.trans hg0)
  obtain rfl := Option.some.inj (tTab.symm.trans ht0)
  obtain ⟨xs, m1, rfl, hx1, hlen, hn, hel⟩ := DataW.trod_array Tryd.underlying107 hd0
  have c1 : Tryd.prog.cellsOf 5 = 1 := by kernel_rfl
  rw [c1] at hel
  simp only [Prod.mk.injEq, datum_map, DataW.agg.injEq] at hx1
  intro j hj
  rw [ren1]
  have hj64 : j < 64 := by rw [tab_len] at hj; exact hj
  have hcell := World.var?_cell hg0 hv0 j
  rw [hcell]
  have h1 := hel j hj64
  have hxj : xs[j]? = some xs[j] := List.getElem?_eq_getElem (by omega)
  rw [hxj, Nat.mul_one] at h1
  obtain ⟨n, e1, e2, _⟩ := DataW.trod_int Tryd.underlying5 h1
  have hm : (xs.map (·.1))[j]? = some (.lit (.int .u8 n)) := by rw [List.getElem?_map, hxj, e2]; rfl
  rw [← hx1.1, List.getElem?_map, List.getElem?_eq_getElem hj] at hm
  simp only [Option.map_some, Option.some.injEq, DataW.lit.injEq, Lit.int.injEq, true_and] at hm
  have hget : cs0[j]? = some (.int .u8 n) := by
    have h2 : ((cs0.toList.drop j).take 1)[0]? = some (.int .u8 n) := by rw [e1]; rfl
    rw [List.getElem?_take_of_lt (by decide), List.getElem?_drop, Nat.add_zero, Array.getElem?_toList] at h2
    exact h2
  rw [hget, ← hm, List.getD_eq_getElem?_getD, List.getElem?_eq_getElem hj]; rfl
theorem two_words (x y : Nat) (hx : x < 18446744073709551616) (hy : y < 18446744073709551616) : ∃ b : Nat, Value.agg #[.int .u64 (x : Nat), .int .u64 (y : Nat)] = BV b ∧ b < 2 ^ (64 * 2) := by
  refine ⟨x * 18446744073709551616 + y, ?_, by omega⟩
  have h1 : limb (x * 18446744073709551616 + y) 1 = (x : Nat) := by
    show ((limbN (x * 18446744073709551616 + y) 1 : Nat) : Int) = x
    unfold limbN; rw [show 2 ^ (64 * 1) = 18446744073709551616 from rfl]; omega
  have h0 : limb (x * 18446744073709551616 + y) 0 = (y : Nat) := by
    show ((limbN (x * 18446744073709551616 + y) 0 : Nat) : Int) = y
    unfold limbN; rw [show 2 ^ (64 * 0) = 1 from rfl]; omega
  show Value.agg #[_, _] = .agg #[.int .u64 (limb _ 1), .int .u64 (limb _ 0)]
  rw [h1, h0]
theorem bits_cells : Tryd.prog.cellsOf 26 = 2 := by kernel_rfl
/-- An argument of 128 bits is the encoding of a number. -/
theorem open_bits {H : Type} {enc : TypeId × Value → H} {W : World} {r : Reach} {base b0 : Nat} {spare : Nat → Bool} {held : Bool} {v : Value} {d : DataW H} {p : List MemPlace}
    (hv : Value.okWide Tryd.prog W r b0 26 v) (h : DataW.Trod enc Tryd.prog W base spare held 26 v d p) : ∃ b : Nat, v = BV b ∧ b < 2 ^ (64 * 2) := by
  obtain ⟨c0, c1, y0, y1, m, rfl, rfl, rfl, hy0, hy1⟩ := Go.Joins.open_agg2 Tryd.underlying26 (by kernel_rfl) bits_cells hv h
  obtain ⟨x, e0, rfl, wx⟩ := DataW.trod_int Tryd.underlying24 hy0
  obtain ⟨y, e1, rfl, wy⟩ := DataW.trod_int Tryd.underlying24 hy1
  simp at e0 e1
  subst e0 e1
  have bx := bounds_u64 wx
  have bY := bounds_u64 wy
  obtain ⟨x, rfl⟩ := Int.eq_ofNat_of_zero_le bx.1
  obtain ⟨y, rfl⟩ := Int.eq_ofNat_of_zero_le bY.1
  exact two_words x y (by omega) (by omega)
theorem nat_u8 {x : Int} (h : (Lit.int .u8 x).wf = true) : ∃ n : Nat, x = n ∧ n < 256 := by
  have b := bounds_u8 h
  obtain ⟨n, rfl⟩ := Int.eq_ofNat_of_zero_le b.1
  exact ⟨n, rfl, by omega⟩
end Go.Proofs.YtbngedcblngnhaaDoor
