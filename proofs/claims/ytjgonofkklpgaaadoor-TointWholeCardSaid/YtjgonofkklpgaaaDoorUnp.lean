/- The contract of kind.Unpack. -/
import Derived.Test.YtjgonofkklpgaaaDoorCls2
namespace Go.Proofs.YtjgonofkklpgaaaDoor
open Go.RowKit

/-- The cells of the parts of a number. -/
def parts (c : Nat) (s : Nat) (x : Int) (f : Nat) : Array Value := #[.int .u8 c, .int .u64 (limb s 0), .int .u64 (limb s 1), .int .u64 (limb s 2), .int .u64 (limb s 3), .int .u64 (limb s 4), .int .u64 (limb s 5), .int .i64 x, .int .u64 (limb f 0), .int .u64 (limb f 1), .int .u64 (limb f 2), .int .u64 (limb f 3), .int .u64 (limb f 4), .int .u64 (limb f 5)]
abbrev PV (c s : Nat) (x : Int) (f : Nat) : Value := .agg (parts c s x f)
theorem limb_zero (i : Nat) : limb 0 i = 0 := by unfold limb limbN; rw [Nat.zero_div]; rfl
theorem parts_zero (c : Nat) : parts c 0 0 0 = #[.int .u8 c, .int .u64 0, .int .u64 0, .int .u64 0, .int .u64 0, .int .u64 0, .int .u64 0, .int .i64 0, .int .u64 0, .int .u64 0, .int .u64 0, .int .u64 0, .int .u64 0, .int .u64 0] := by
  unfold parts; simp only [limb_zero]
theorem Blk.p14 {T : TypeId} {w : World} {g c s : Nat} {x : Int} {f : Nat} (h : Blk T w g (parts c s x f)) :
    w.cell? ⟨g, 0, none⟩ = some (.int .u8 c) ∧ w.cell? ⟨g, 1, none⟩ = some (.int .u64 (limb s 0)) ∧ w.cell? ⟨g, 2, none⟩ = some (.int .u64 (limb s 1)) ∧ w.cell? ⟨g, 3, none⟩ = some (.int .u64 (limb s 2)) ∧ w.cell? ⟨g, 4, none⟩ = some (.int .u64 (limb s 3)) ∧ w.cell? ⟨g, 5, none⟩ = some (.int .u64 (limb s 4)) ∧ w.cell? ⟨g, 6, none⟩ = some (.int .u64 (limb s 5)) ∧ w.cell? ⟨g, 7, none⟩ = some (.int .i64 x) ∧ w.cell? ⟨g, 8, none⟩ = some (.int .u64 (limb f 0)) ∧ w.cell? ⟨g, 9, none⟩ = some (.int .u64 (limb f 1)) ∧ w.cell? ⟨g, 10, none⟩ = some (.int .u64 (limb f 2)) ∧ w.cell? ⟨g, 11, none⟩ = some (.int .u64 (limb f 3)) ∧ w.cell? ⟨g, 12, none⟩ = some (.int .u64 (limb f 4)) ∧ w.cell? ⟨g, 13, none⟩ = some (.int .u64 (limb f 5)) :=
  ⟨h.cell 0 rfl, h.cell 1 rfl, h.cell 2 rfl, h.cell 3 rfl, h.cell 4 rfl, h.cell 5 rfl, h.cell 6 rfl, h.cell 7 rfl, h.cell 8 rfl, h.cell 9 rfl, h.cell 10 rfl, h.cell 11 rfl, h.cell 12 rfl, h.cell 13 rfl⟩
theorem Blk.free14 {T : TypeId} {w : World} {g : Nat} {cs : Array Value} (h : Blk T w g cs) :
    w.frozen? ⟨g, 0, none⟩ = false ∧ w.frozen? ⟨g, 1, none⟩ = false ∧ w.frozen? ⟨g, 2, none⟩ = false ∧ w.frozen? ⟨g, 3, none⟩ = false ∧ w.frozen? ⟨g, 4, none⟩ = false ∧ w.frozen? ⟨g, 5, none⟩ = false ∧ w.frozen? ⟨g, 6, none⟩ = false ∧ w.frozen? ⟨g, 7, none⟩ = false ∧ w.frozen? ⟨g, 8, none⟩ = false ∧ w.frozen? ⟨g, 9, none⟩ = false ∧ w.frozen? ⟨g, 10, none⟩ = false ∧ w.frozen? ⟨g, 11, none⟩ = false ∧ w.frozen? ⟨g, 12, none⟩ = false ∧ w.frozen? ⟨g, 13, none⟩ = false :=
  ⟨h.free 0, h.free 1, h.free 2, h.free 3, h.free 4, h.free 5, h.free 6, h.free 7, h.free 8, h.free 9, h.free 10, h.free 11, h.free 12, h.free 13⟩
def put14 (w : World) (g c s : Nat) (x : Int) (f : Nat) : World := ((((((((((((((w.setCell ⟨g, 0, none⟩ (.int .u8 c)).setCell ⟨g, 1, none⟩ (.int .u64 (limb s 0))).setCell ⟨g, 2, none⟩ (.int .u64 (limb s 1))).setCell ⟨g, 3, none⟩ (.int .u64 (limb s 2))).setCell ⟨g, 4, none⟩ (.int .u64 (limb s 3))).setCell ⟨g, 5, none⟩ (.int .u64 (limb s 4))).setCell ⟨g, 6, none⟩ (.int .u64 (limb s 5))).setCell ⟨g, 7, none⟩ (.int .i64 x)).setCell ⟨g, 8, none⟩ (.int .u64 (limb f 0))).setCell ⟨g, 9, none⟩ (.int .u64 (limb f 1))).setCell ⟨g, 10, none⟩ (.int .u64 (limb f 2))).setCell ⟨g, 11, none⟩ (.int .u64 (limb f 3))).setCell ⟨g, 12, none⟩ (.int .u64 (limb f 4))).setCell ⟨g, 13, none⟩ (.int .u64 (limb f 5)))
theorem Blk.cast {T : TypeId} {w : World} {g : Nat} {cs cs' : Array Value} (h : Blk T w g cs) (e : cs = cs') : Blk T w g cs' := e ▸ h
theorem Blk.put14 {T : TypeId} {w : World} {g : Nat} {c0 s0 : Nat} {x0 : Int} {f0 : Nat} (h : Blk T w g (parts c0 s0 x0 f0)) (c s : Nat) (x : Int) (f : Nat) : Blk T (put14 w g c s x f) g (parts c s x f) := by
  unfold Go.Proofs.YtjgonofkklpgaaaDoor.put14
  exact Blk.cast ((((((((((((((h.set 0 _ rfl).set 1 _ rfl).set 2 _ rfl).set 3 _ rfl).set 4 _ rfl).set 5 _ rfl).set 6 _ rfl).set 7 _ rfl).set 8 _ rfl).set 9 _ rfl).set 10 _ rfl).set 11 _ rfl).set 12 _ rfl).set 13 _ rfl) (by simp [parts])
theorem below_put14 {B : Nat} {w0 w : World} {g : Nat} (hb : Below B w0 w) (hg : B ≤ g) (c s : Nat) (x : Int) (f : Nat) : Below B w0 (put14 w g c s x f) := by
  unfold put14
  exact ((((((((((((((hb.setCell hg _).setCell hg _).setCell hg _).setCell hg _).setCell hg _).setCell hg _).setCell hg _).setCell hg _).setCell hg _).setCell hg _).setCell hg _).setCell hg _).setCell hg _).setCell hg _)
set_option maxHeartbeats 3200000 in
set_option maxRecDepth 100000 in
theorem kindUnpack_no (f b : Nat) (w : World)
    (cT : ∀ w, Calls Tryd.prog 47 #[.int .u8 f, BV b] w fun e' w' => e' = .returned (.bool false) ∧ Below w.heap.size w w') :
    Calls Tryd.prog 56 #[.int .u8 f, BV b] w fun e' w' => e' = .returned (.tuple #[PV 0 0 0 0, .int .i64 2]) ∧ Below w.heap.size w w' := by
  go_enter Tryd.func56, Tryd.ntmps56
  go_wp2_with fail
  refine (cT _).mono ?_
  rintro e' w1 ⟨rfl, hb1⟩
  have b4 : Blk 75 w1 (w.heap.size + 1) (parts 0 0 0 0) := by
    rw [parts_zero]
    have := (Blk.new (T := 75) (w.alloc (.cells #[.int .u64 (limb b 1), .int .u64 (limb b 0)] 26 (0, 0))) #[.int .u8 0, .int .u64 0, .int .u64 0, .int .u64 0, .int .u64 0, .int .u64 0, .int .u64 0, .int .i64 0, .int .u64 0, .int .u64 0, .int .u64 0, .int .u64 0, .int .u64 0, .int .u64 0]).below hb1 (by simp)
    simpa using this
  obtain ⟨d0, d1, d2, d3, d4, d5, d6, d7, d8, d9, d10, d11, d12, d13⟩ := b4.p14
  obtain ⟨n0, n1, n2, n3, n4, n5, n6, n7, n8, n9, n10, n11, n12, n13⟩ := b4.free14
  go_wp2_with fail
  have hb := below_put14 (((((Below.refl w.heap.size w).alloc (Nat.le_refl _) (.cells #[.int .u64 (limb b 1), .int .u64 (limb b 0)] 26 (0, 0))).alloc (by simp) (.cells #[.int .u8 0, .int .u64 0, .int .u64 0, .int .u64 0, .int .u64 0, .int .u64 0, .int .u64 0, .int .i64 0, .int .u64 0, .int .u64 0, .int .u64 0, .int .u64 0, .int .u64 0, .int .u64 0] 75 (0, 0))).trans (hb1.mono (by simp <;> omega)))) (by omega : w.heap.size ≤ w.heap.size + 1) 0 0 0 0
  unfold put14 at hb
  simp only [limb_zero] at hb
  exact bodyPost_ret (v := .tuple #[PV 0 0 0 0, .int .i64 2]) (by simp [results, Tryd.results56, go_sem, parts, limb_zero, d0, d1, d2, d3, d4, d5, d6, d7, d8, d9, d10, d11, d12, d13]) rfl ⟨rfl, hb⟩
end Go.Proofs.YtjgonofkklpgaaaDoor
