/- The contracts of wide.And and wide.Or. -/
import Derived.Test.YtjgonofkklpgaaaDoorWmath2
import Derived.Deep.RegionWith
import Derived.Outline
namespace Go.Proofs.YtjgonofkklpgaaaDoor
open Go.RowKit

set_option maxHeartbeats 1600000 in
set_option maxRecDepth 100000 in
theorem wideAnd_any (a b : Nat) (w : World) :
    Calls Tryd.prog 122 #[W a, W b] w fun e w' => e = .returned (W (a &&& b)) ∧ Below w.heap.size w w' := by
  have sa := limbs_size a
  have sb := limbs_size b
  go_enter Tryd.func122, Tryd.ntmps122
  go_wp2_with fail
  go_loopw [6] (fun i wr => ∃ k : Nat, k ≤ 6 ∧ i = .int .i64 k ∧ Blk 35 wr w.heap.size (fillTo (limbs a) (fun i => .int .u64 (limb (a &&& b) i)) k) ∧ Blk 35 wr (w.heap.size + 1) (limbs b) ∧
      Blk 35 wr (w.heap.size + 1 + 1) (limbs 0) ∧ Below w.heap.size w wr) (fun i _ => 6 - (intOf i).toNat)
  case atStart =>
    refine ⟨0, by omega, rfl, ((Blk.new w _).alloc _).alloc _, ?_, ?_, ((((Below.refl _ _).alloc (Nat.le_refl _) _).alloc (by simp) _).alloc (by simp <;> omega) _)⟩
    · have := (Blk.new (T := 35) (w.alloc (.cells (limbs a) 35)) (limbs b)).alloc (.cells #[.int .u64 0, .int .u64 0, .int .u64 0, .int .u64 0, .int .u64 0, .int .u64 0] 35)
      simpa using this
    · have := Blk.new (T := 35) ((w.alloc (.cells (limbs a) 35)).alloc (.cells (limbs b) 35)) #[.int .u64 0, .int .u64 0, .int .u64 0, .int .u64 0, .int .u64 0, .int .u64 0]
      rw [limbs_zero]
      simpa using this
  case round =>
    obtain ⟨k, hk, rfl, ha, hb, hs, hbel⟩ := hrel
    by_cases hlt : k < 6
    · have ca := ha.cell k ((fillTo_hi _ _ k k (Nat.le_refl _)).trans (limbs_get a k hlt))
      have cb := hb.cell k (limbs_get b k hlt)
      have fa := ha.free k
      go_wp2_with fail
      go_region_with (fail)
      all_goals go_wp2
      all_goals
        go_roundw
        case rel => exact ⟨k + 1, by omega, by go_num, (ha.set k _ (by rw [limb_and]; rfl)).drew, (hb.other _ _ (by simp)).drew, (hs.other _ _ (by simp; omega)).drew, (hbel.setCell (by simp) _).drew⟩
        case measure => simp [intOf]; omega
    · have : k = 6 := by omega
      subst this
      rw [fillTo_all (limbs a) _ (a &&& b) rfl (fun i _ => rfl)] at ha
      obtain ⟨c0, c1, c2, c3, c4, c5⟩ := ha.six
      obtain ⟨d0, d1, d2, d3, d4, d5⟩ := hs.six
      obtain ⟨f0, f1, f2, f3, f4, f5⟩ := hs.six_free
      clear hb hlt
      go_wp2_with fail
      have hr := hs.store6 rfl (.int .u64 (limb (a &&& b) 0)) (.int .u64 (limb (a &&& b) 1)) (.int .u64 (limb (a &&& b) 2)) (.int .u64 (limb (a &&& b) 3)) (.int .u64 (limb (a &&& b) 4)) (.int .u64 (limb (a &&& b) 5))
      obtain ⟨r0, r1, r2, r3, r4, r5⟩ := Blk.six (a := a &&& b) hr
      exact bodyPost_ret (v := W (a &&& b)) (by simp only [results, Tryd.results122]; simp [go_sem, r0, r1, r2, r3, r4, r5, limbs]) rfl ⟨rfl, below_set6 hbel (by omega) _ _ _ _ _ _⟩
end Go.Proofs.YtjgonofkklpgaaaDoor
