/- The contract of wide.Left. -/
import Derived.Test.YtjgonofkklpgaaaDoorWright
import Derived.RegionTactic
namespace Go.Proofs.YtjgonofkklpgaaaDoor
open Go.RowKit

theorem limbN_left0 (a q s : Nat) : limbN (a * 2 ^ (64 * q + s)) q = limbN a 0 * 2 ^ s % 18446744073709551616 := by
  unfold limbN
  rw [Nat.pow_add, ← Nat.mul_assoc, Nat.mul_right_comm, Nat.mul_div_cancel _ (pw_pos q), Nat.mul_zero, Nat.pow_zero, Nat.div_one]
  rw [Nat.mod_mul_mod]
theorem limbN_left (a q s j : Nat) (hs : s ≤ 64) : limbN (a * 2 ^ (64 * q + s)) (q + j + 1) = limbN a (j + 1) * 2 ^ s % 18446744073709551616 + limbN a j / 2 ^ (64 - s) := by
  have e : a * 2 ^ (64 * q + s) / 2 ^ (64 * (q + j + 1)) = a / 2 ^ (64 * j + (64 - s)) := by
    rw [show 64 * (q + j + 1) = (64 * q + s) + (64 * j + (64 - s)) by omega, Nat.pow_add (2) (64 * q + s), ← Nat.div_div_eq_div_mul, Nat.mul_div_cancel _ (Nat.two_pow_pos _)]
  have r := limbN_right a j (64 - s) 0 (by omega)
  rw [Nat.zero_add, show 64 - (64 - s) = s by omega] at r
  rw [← r]
  unfold limbN
  rw [e, Nat.mul_zero, Nat.pow_zero, Nat.div_one]
theorem limbN_leftz (a q s i : Nat) (h : i < q) : limbN (a * 2 ^ (64 * q + s)) i = 0 := by
  unfold limbN
  rw [show 64 * q + s = 64 * i + (64 + (64 * (q - i - 1) + s)) by omega, Nat.pow_add, Nat.pow_add 2 64, Nat.mul_left_comm, Nat.mul_div_cancel_left _ (pw_pos i), Nat.mul_left_comm, ← B64, Nat.mul_mod_right]
theorem limb_shl (a i s : Nat) : IntKind.u64.wrap (limb a i * 2 ^ s) = ((limbN a i * 2 ^ s % 18446744073709551616 : Nat) : Int) := by
  rw [IntKind.wrap_u64]; unfold limb; simp
theorem left_or (a q s j : Nat) (hs : s < 64) :
    Go.bits .or .u64 (IntKind.u64.wrap (limb a (j + 1) * 2 ^ s)) (limb a j / 2 ^ (64 - s)) = limb (a * 2 ^ (64 * q + s)) (q + j + 1) := by
  have h2 : limbN a j / 2 ^ (64 - s) < 2 ^ s := by
    rw [Nat.div_lt_iff_lt_mul (Nat.two_pow_pos _), ← Nat.pow_add, show s + (64 - s) = 64 by omega, ← B64]; exact limbN_lt _ _
  have h3 : limbN a j / 2 ^ (64 - s) < 18446744073709551616 := Nat.lt_of_le_of_lt (Nat.div_le_self _ _) (limbN_lt _ _)
  have h4 : limbN a (j + 1) * 2 ^ s % 18446744073709551616 < 18446744073709551616 := Nat.mod_lt _ (by decide)
  have h5 : limbN a (j + 1) * 2 ^ s % 18446744073709551616 % 2 ^ s = 0 := by
    rw [show (18446744073709551616 : Nat) = 2 ^ s * 2 ^ (64 - s) by rw [← Nat.pow_add, show s + (64 - s) = 64 by omega], Nat.mod_mul_right_mod, Nat.mul_mod_left]
  rw [limb_shr, limb_shl, u64_or_nat _ _ h4 h3, nat_join s _ _ h5 h2]
  unfold limb
  rw [limbN_left a q s j (by omega)]
theorem left_first (a q s : Nat) : IntKind.u64.wrap (limb a 0 * 2 ^ s) = limb (a * 2 ^ (64 * q + s)) q := by
  rw [limb_shl]; unfold limb; rw [limbN_left0]

/-- The words of x from p on; 0 below. -/
def hiB (x p : Nat) : Array Value := #[.int .u64 (if p ≤ 0 then limb x 0 else 0), .int .u64 (if p ≤ 1 then limb x 1 else 0), .int .u64 (if p ≤ 2 then limb x 2 else 0), .int .u64 (if p ≤ 3 then limb x 3 else 0), .int .u64 (if p ≤ 4 then limb x 4 else 0), .int .u64 (if p ≤ 5 then limb x 5 else 0)]
theorem hiB_top (x : Nat) : hiB x 6 = #[.int .u64 0, .int .u64 0, .int .u64 0, .int .u64 0, .int .u64 0, .int .u64 0] := by unfold hiB; simp
theorem hiB_size (x p : Nat) : (hiB x p).size = 6 := rfl
theorem hiB_get (x p i : Nat) (hi : i < 6) (h : i < p) : (hiB x p)[i]? = some (.int .u64 0) := by
  have : i = 0 ∨ i = 1 ∨ i = 2 ∨ i = 3 ∨ i = 4 ∨ i = 5 := by omega
  rcases this with rfl | rfl | rfl | rfl | rfl | rfl <;> simp [hiB] <;> omega
theorem hiB_set (x p : Nat) (h : p < 6) (v : Int) (hv : v = limb x p) : (hiB x (p + 1)).setIfInBounds p (.int .u64 v) = hiB x p := by
  subst hv
  have : p = 0 ∨ p = 1 ∨ p = 2 ∨ p = 3 ∨ p = 4 ∨ p = 5 := by omega
  rcases this with rfl | rfl | rfl | rfl | rfl | rfl <;> simp [hiB]
theorem hiB_set2 (x p : Nat) (h : p < 6) (u : Value) (v : Int) (hv : v = limb x p) : ((hiB x (p + 1)).setIfInBounds p u).setIfInBounds p (.int .u64 v) = hiB x p := by
  rw [Array.setIfInBounds_setIfInBounds]; exact hiB_set x p h v hv
theorem hiB_done (x p : Nat) (h : ∀ i, i < p → limb x i = 0) : hiB x p = limbs x := by
  have e : ∀ i, (if p ≤ i then limb x i else 0) = limb x i := by
    intro i; split
    · rfl
    · rw [h i (by omega)]
  unfold hiB limbs
  rw [e, e, e, e, e, e]

def lostL (a n : Nat) : Bool := decide (384 < lenN a + n) && !decide (a = 0)

set_option maxHeartbeats 6400000 in
set_option maxRecDepth 100000 in
theorem wideLeft_q (a n q s : Nat) (x : Int) (w : World) (ha : a < top6) (hc : min (max x 0) 384 = (n : Int)) (hq : (n : Int) / 64 = (q : Int)) (hs : (n : Int) % 64 = (s : Int)) :
    Calls Tryd.prog 57 #[W a, .int .i64 x] w fun e w' => e = .returned (.tuple #[W (a * 2 ^ (64 * q + s)), .bool (lostL a n)]) ∧ Below w.heap.size w w' := by
  have sa := limbs_size a
  obtain ⟨z, hz⟩ : ∃ z, decide (a = 0) = z := ⟨_, rfl⟩
  have eq0 := fun w => (run_equal_zero w a ha).trans (by rw [hz])
  have hn : n ≤ 384 := by omega
  have s64 : s < 64 := by omega
  have q6 : q ≤ 6 := by omega
  have HA := Lib.hid ha
  obtain ⟨l, l1⟩ : ∃ l, decide (384 < lenN a + n) = l := ⟨_, rfl⟩
  have l2 : decide ((384 : Int) < (lenN a : Int) + (n : Int)) = l := by rw [← l1, Bool.eq_iff_iff, decide_eq_true_iff, decide_eq_true_iff]; omega
  have ln : (lenN a : Int) ≤ 384 := by
    have := (lenN_le a (64 * 6)).2 ha
    omega
  have HL := Lib.hid (show lostL a n = (l && !z) by unfold lostL; rw [hz, l1])
  clear ha hz
  cases l
  · go_enter Tryd.func57, Tryd.ntmps57
    go_wp2_with fail
    refine (wideCount_any _ _).mono ?_
    rw [hc]
    rintro e w' ⟨rfl, rfl⟩
    go_wp2_with fail
    refine (wideLen_any a _ HA.out).mono ?_
    rintro e w1 ⟨rfl, hb1⟩
    have ba := ((Blk.new (T := 35) w (limbs a)).alloc (.cells #[.int .u64 0, .int .u64 0, .int .u64 0, .int .u64 0, .int .u64 0, .int .u64 0] 35)).below hb1 (by simp <;> omega)
    obtain ⟨c0, c1, c2, c3, c4, c5⟩ := ba.six
    clear ba
    go_wp2_with fail
    simp only [hs]
    go_loopw [8] (fun i wr => ∃ r : Nat, q + r ≤ 6 ∧ i = .int .i64 ((q : Int) + (r : Int) - 1) ∧ Blk 35 wr w.heap.size (limbs a) ∧
      Blk 35 wr (w.heap.size + 1) (hiB (a * 2 ^ (64 * q + s)) (q + r)) ∧ Below w.heap.size w wr) (fun i _ => (intOf i + 1).toNat)
    case atStart =>
      refine ⟨6 - q, by omega, ?_, ?_, ?_, ?_⟩
      · rw [show (q : Int) + ((6 - q : Nat) : Int) - 1 = 5 by omega]
      · have := ((Blk.new (T := 35) w (limbs a)).alloc (.cells #[.int .u64 0, .int .u64 0, .int .u64 0, .int .u64 0, .int .u64 0, .int .u64 0] 35)).below hb1 (by simp <;> omega)
        simpa using this
      · rw [show q + (6 - q) = 6 by omega, hiB_top]
        have := (Blk.new (T := 35) (w.alloc (.cells (limbs a) 35)) #[.int .u64 0, .int .u64 0, .int .u64 0, .int .u64 0, .int .u64 0, .int .u64 0]).below hb1 (by simp)
        simpa using this
      · exact (((Below.refl _ _).alloc (Nat.le_refl _) _).alloc (by simp) _).trans (hb1.mono (by simp <;> omega))
    case round =>
      obtain ⟨r, hr, rfl, ha, hb, hbel⟩ := hrel
      cases r with
      | zero =>
        rw [show q + 0 = q from rfl, hiB_done _ q (fun i hi => by unfold limb; rw [limbN_leftz a q s i hi]; rfl)] at hb
        obtain ⟨d0, d1, d2, d3, d4, d5⟩ := hb.six
        obtain ⟨f0, f1, f2, f3, f4, f5⟩ := hb.six_free
        clear c0 c1 c2 c3 c4 c5
        go_wp2_with fail
        rw [hb.keep 0 _ (limbs_get _ 0 (by decide)), hb.keep 1 _ (limbs_get _ 1 (by decide)), hb.keep 2 _ (limbs_get _ 2 (by decide)), hb.keep 3 _ (limbs_get _ 3 (by decide)), hb.keep 4 _ (limbs_get _ 4 (by decide)), hb.keep 5 _ (limbs_get _ 5 (by decide))]
        exact bodyPost_ret (v := .tuple #[W (a * 2 ^ (64 * q + s)), .bool false]) (by simp [results, Tryd.results57, go_sem, d0, d1, d2, d3, d4, d5, limbs]; try rfl) rfl ⟨by rw [HL.out]; rfl, hbel⟩
      | succ j =>
        cases j with
        | zero =>
          rw [show (q : Int) + ((0 + 1 : Nat) : Int) - 1 = (q : Int) by omega]
          rw [show q + (0 + 1) = q + 1 from rfl] at hb
          have ca := ha.cell 0 (limbs_get a 0 (by omega))
          have fb := hb.free q
          have cb0 := hb.cell q (hiB_get _ _ _ (by omega) (by omega))
          have q5 : q < 6 := by omega
          clear c0 c1 c2 c3 c4 c5
          go_wp2_with fail
          go_roundw
          case rel => exact ⟨0, by omega, by go_num, ha.other _ _ (by simp), hb.set q _ (hiB_set _ q (by omega) _ (left_first a q s)), hbel.setCell (by simp) _⟩
          case measure => (simp [intOf]; try omega)
        | succ m =>
          obtain ⟨p, hp⟩ : ∃ p, p = q + m + 1 := ⟨_, rfl⟩
          rw [show (q : Int) + ((m + 1 + 1 : Nat) : Int) - 1 = (p : Int) by omega]
          rw [show q + (m + 1 + 1) = p + 1 by omega] at hb
          have p6 : p < 6 := by omega
          have qp : (q : Int) < (p : Int) := by omega
          have e1 : (p : Int) - (q : Int) = ((m + 1 : Nat) : Int) := by omega
          have e2 : (p : Int) - (q : Int) - 1 = (m : Int) := by omega
          have ca := ha.cell (m + 1) (limbs_get a (m + 1) (by omega))
          have ca2 := (ha.other ⟨w.heap.size + 1, p, none⟩ (.int .u64 (IntKind.u64.wrap (limb a (m + 1) * 2 ^ s))) (by simp)).cell m (limbs_get a m (by omega))
          have fb := hb.free p
          have cb0 := hb.cell p (hiB_get _ _ _ p6 (by omega))
          have b2 := hb.set p (.int .u64 (IntKind.u64.wrap (limb a (m + 1) * 2 ^ s))) rfl
          have cb := b2.cell p (v := .int .u64 (IntKind.u64.wrap (limb a (m + 1) * 2 ^ s))) (by rw [Array.getElem?_setIfInBounds, if_pos rfl, if_pos (by rw [hiB_size]; omega)])
          have fb2 := b2.free p
          have hm : m + 1 < 6 := by omega
          have im : (m : Int) < 6 := by omega
          have m6 : m < 6 := by omega
          have d6 : decide (m < 6) = true := by simp; omega
          have ip : (p : Int) < 6 := by omega
          have ip0 : (0 : Int) ≤ (p : Int) := by omega
          have im0 : (0 : Int) ≤ (m : Int) := by omega
          have e3 : ((m + 1 : Nat) : Int) - 1 = (m : Int) := by omega
          have e4 : (m : Int) + 1 - 1 = (m : Int) := by omega
          have v1 : IntKind.i64.wrap ((p : Int) - (q : Int)) = ((m + 1 : Nat) : Int) := by rw [e1]; exact IntWalk.i64_in _ (by omega)
          have v2 : IntKind.i64.wrap (((m + 1 : Nat) : Int) - 1) = (m : Int) := by rw [e3]; exact IntWalk.i64_in _ (by omega)
          have v3 : IntKind.i64.wrap ((m : Int) + 1 - 1) = (m : Int) := by rw [e4]; exact IntWalk.i64_in _ (by omega)
          clear b2 c0 c1 c2 c3 c4 c5
          have HP := Lib.hid hp
          clear hp
          go_wp2_with fail
          go_region
          all_goals go_wp2
          all_goals
            go_roundw
            case rel => exact ⟨m + 1, by have := HP.out; omega, by have := HP.out; simp; omega, ((ha.other _ _ (by simp)).other _ _ (by simp)).drew, by have e : q + (m + 1) = p := HP.out.symm; rw [e]; exact ((hb.set p _ rfl).set p _ (hiB_set2 _ p p6 _ _ (by rw [HP.out]; exact left_or a q s m s64))).drew, ((hbel.setCell (by simp) _).setCell (by simp) _).drew⟩
            case measure => (simp [intOf]; try omega)
  · go_enter Tryd.func57, Tryd.ntmps57
    go_wp2_with fail
    refine (wideCount_any _ _).mono ?_
    rw [hc]
    rintro e w' ⟨rfl, rfl⟩
    go_wp2_with fail
    refine (wideLen_any a _ HA.out).mono ?_
    rintro e w1 ⟨rfl, hb1⟩
    have ba := ((Blk.new (T := 35) w (limbs a)).alloc (.cells #[.int .u64 0, .int .u64 0, .int .u64 0, .int .u64 0, .int .u64 0, .int .u64 0] 35)).below hb1 (by simp <;> omega)
    obtain ⟨c0, c1, c2, c3, c4, c5⟩ := ba.six
    clear ba
    go_wp2_with fail
    simp only [hs]
    go_loopw [8] (fun i wr => ∃ r : Nat, q + r ≤ 6 ∧ i = .int .i64 ((q : Int) + (r : Int) - 1) ∧ Blk 35 wr w.heap.size (limbs a) ∧
      Blk 35 wr (w.heap.size + 1) (hiB (a * 2 ^ (64 * q + s)) (q + r)) ∧ Below w.heap.size w wr) (fun i _ => (intOf i + 1).toNat)
    case atStart =>
      refine ⟨6 - q, by omega, ?_, ?_, ?_, ?_⟩
      · rw [show (q : Int) + ((6 - q : Nat) : Int) - 1 = 5 by omega]
      · have := ((Blk.new (T := 35) w (limbs a)).alloc (.cells #[.int .u64 0, .int .u64 0, .int .u64 0, .int .u64 0, .int .u64 0, .int .u64 0] 35)).below hb1 (by simp <;> omega)
        simpa using this
      · rw [show q + (6 - q) = 6 by omega, hiB_top]
        have := (Blk.new (T := 35) (w.alloc (.cells (limbs a) 35)) #[.int .u64 0, .int .u64 0, .int .u64 0, .int .u64 0, .int .u64 0, .int .u64 0]).below hb1 (by simp)
        simpa using this
      · exact (((Below.refl _ _).alloc (Nat.le_refl _) _).alloc (by simp) _).trans (hb1.mono (by simp <;> omega))
    case round =>
      obtain ⟨r, hr, rfl, ha, hb, hbel⟩ := hrel
      cases r with
      | zero =>
        rw [show q + 0 = q from rfl, hiB_done _ q (fun i hi => by unfold limb; rw [limbN_leftz a q s i hi]; rfl)] at hb
        obtain ⟨d0, d1, d2, d3, d4, d5⟩ := hb.six
        obtain ⟨f0, f1, f2, f3, f4, f5⟩ := hb.six_free
        clear c0 c1 c2 c3 c4 c5
        go_wp2_with fail
        rw [hb.keep 0 _ (limbs_get _ 0 (by decide)), hb.keep 1 _ (limbs_get _ 1 (by decide)), hb.keep 2 _ (limbs_get _ 2 (by decide)), hb.keep 3 _ (limbs_get _ 3 (by decide)), hb.keep 4 _ (limbs_get _ 4 (by decide)), hb.keep 5 _ (limbs_get _ 5 (by decide))]
        exact bodyPost_ret (v := .tuple #[W (a * 2 ^ (64 * q + s)), .bool (!z)]) (by simp [results, Tryd.results57, go_sem, d0, d1, d2, d3, d4, d5, limbs]; try rfl) rfl ⟨by rw [HL.out]; rfl, hbel⟩
      | succ j =>
        cases j with
        | zero =>
          rw [show (q : Int) + ((0 + 1 : Nat) : Int) - 1 = (q : Int) by omega]
          rw [show q + (0 + 1) = q + 1 from rfl] at hb
          have ca := ha.cell 0 (limbs_get a 0 (by omega))
          have fb := hb.free q
          have cb0 := hb.cell q (hiB_get _ _ _ (by omega) (by omega))
          have q5 : q < 6 := by omega
          clear c0 c1 c2 c3 c4 c5
          go_wp2_with fail
          go_roundw
          case rel => exact ⟨0, by omega, by go_num, ha.other _ _ (by simp), hb.set q _ (hiB_set _ q (by omega) _ (left_first a q s)), hbel.setCell (by simp) _⟩
          case measure => (simp [intOf]; try omega)
        | succ m =>
          obtain ⟨p, hp⟩ : ∃ p, p = q + m + 1 := ⟨_, rfl⟩
          rw [show (q : Int) + ((m + 1 + 1 : Nat) : Int) - 1 = (p : Int) by omega]
          rw [show q + (m + 1 + 1) = p + 1 by omega] at hb
          have p6 : p < 6 := by omega
          have qp : (q : Int) < (p : Int) := by omega
          have e1 : (p : Int) - (q : Int) = ((m + 1 : Nat) : Int) := by omega
          have e2 : (p : Int) - (q : Int) - 1 = (m : Int) := by omega
          have ca := ha.cell (m + 1) (limbs_get a (m + 1) (by omega))
          have ca2 := (ha.other ⟨w.heap.size + 1, p, none⟩ (.int .u64 (IntKind.u64.wrap (limb a (m + 1) * 2 ^ s))) (by simp)).cell m (limbs_get a m (by omega))
          have fb := hb.free p
          have cb0 := hb.cell p (hiB_get _ _ _ p6 (by omega))
          have b2 := hb.set p (.int .u64 (IntKind.u64.wrap (limb a (m + 1) * 2 ^ s))) rfl
          have cb := b2.cell p (v := .int .u64 (IntKind.u64.wrap (limb a (m + 1) * 2 ^ s))) (by rw [Array.getElem?_setIfInBounds, if_pos rfl, if_pos (by rw [hiB_size]; omega)])
          have fb2 := b2.free p
          have hm : m + 1 < 6 := by omega
          have im : (m : Int) < 6 := by omega
          have m6 : m < 6 := by omega
          have d6 : decide (m < 6) = true := by simp; omega
          have ip : (p : Int) < 6 := by omega
          have ip0 : (0 : Int) ≤ (p : Int) := by omega
          have im0 : (0 : Int) ≤ (m : Int) := by omega
          have e3 : ((m + 1 : Nat) : Int) - 1 = (m : Int) := by omega
          have e4 : (m : Int) + 1 - 1 = (m : Int) := by omega
          have v1 : IntKind.i64.wrap ((p : Int) - (q : Int)) = ((m + 1 : Nat) : Int) := by rw [e1]; exact IntWalk.i64_in _ (by omega)
          have v2 : IntKind.i64.wrap (((m + 1 : Nat) : Int) - 1) = (m : Int) := by rw [e3]; exact IntWalk.i64_in _ (by omega)
          have v3 : IntKind.i64.wrap ((m : Int) + 1 - 1) = (m : Int) := by rw [e4]; exact IntWalk.i64_in _ (by omega)
          clear b2 c0 c1 c2 c3 c4 c5
          have HP := Lib.hid hp
          clear hp
          go_wp2_with fail
          go_region
          all_goals go_wp2
          all_goals
            go_roundw
            case rel => exact ⟨m + 1, by have := HP.out; omega, by have := HP.out; simp; omega, ((ha.other _ _ (by simp)).other _ _ (by simp)).drew, by have e : q + (m + 1) = p := HP.out.symm; rw [e]; exact ((hb.set p _ rfl).set p _ (hiB_set2 _ p p6 _ _ (by rw [HP.out]; exact left_or a q s m s64))).drew, ((hbel.setCell (by simp) _).setCell (by simp) _).drew⟩
            case measure => (simp [intOf]; try omega)

/-- What is shifted by more than the width is shifted by the width. -/
def clip (x : Int) : Nat := (min (max x 0) 384).toNat
theorem clip_of (n : Nat) (h : n ≤ 384) : clip (n : Int) = n := by unfold clip; omega
theorem wideLeft_any (a : Nat) (x : Int) (w : World) (ha : a < top6) :
    Calls Tryd.prog 57 #[W a, .int .i64 x] w fun e w' => e = .returned (.tuple #[W (a * 2 ^ clip x), .bool (lostL a (clip x))]) ∧ Below w.heap.size w w' := by
  have e : 64 * (clip x / 64) + clip x % 64 = clip x := by omega
  have := wideLeft_q a (clip x) (clip x / 64) (clip x % 64) x w ha (by unfold clip; omega) (by omega) (by omega)
  rw [e] at this
  exact this
theorem wideRight_any (a : Nat) (x : Int) (w : World) (ha : a < top6) (hT : Tab w) :
    Calls Tryd.prog 121 #[W a, .int .i64 x] w fun e w' => e = .returned (.tuple #[W (a / 2 ^ clip x), .bool (lostR a (clip x))]) ∧ Below w.heap.size w w' := by
  have e : 64 * (clip x / 64) + clip x % 64 = clip x := by omega
  have := wideRight_q a (clip x) (clip x / 64) (clip x % 64) x w ha (by unfold clip; omega) (by omega) (by omega) hT
  rw [e] at this
  exact this
end Go.Proofs.YtjgonofkklpgaaaDoor
