/- Part 48 of what is proved: Bla, Lsv, LsA, LsR, Lsa, Blo. -/
import Derived.OwnWalk
import Derived.Deep.SlicePairs
import Derived.Test.YtgmhmpflmgfcdaaGreatDoorHs1
import Derived.Test.YtgmhmpflmgfcdaaGreatDoorHs4
import Derived.Test.YtgmhmpflmgfcdaaGreatDoorHs6
import Derived.Test.YtgmhmpflmgfcdaaGreatDoorHs36
import Derived.Test.YtgmhmpflmgfcdaaGreatDoorHs39
import Derived.Test.YtgmhmpflmgfcdaaGreatDoorHs44
import Derived.Test.YtgmhmpflmgfcdaaGreatDoorHs46
set_option linter.unusedSimpArgs false
set_option linter.unusedVariables false
set_option linter.unnecessarySimpa false
set_option maxRecDepth 100000
set_option maxHeartbeats 3200000
namespace Go.Proofs.YtgmhmpflmgfcdaaGreatDoor
open Go.RowKit
def Sl (w : World) (v : Value) (l : List Nat) : Prop :=
 (∃ sa c, v = .slice sa 0 c ∧ l = [] ∧ (sa = none → c = 0)) ∨ ∃ g o n c, v = .slice (some ⟨g, o, none⟩) n c ∧ 0 < n ∧ n ≤ c ∧ l.length = n ∧ Bls w g o l
def cellsL (l : List Nat) : List Value := l.flatMap fun b => [.int .u64 (limb b 1), .int .u64 (limb b 0)]
theorem cellsL_cons (b : Nat) (l : List Nat) : cellsL (b :: l) = .int .u64 (limb b 1) :: .int .u64 (limb b 0) :: cellsL l := rfl
theorem cellsL_len (l : List Nat) : (cellsL l).length = l.length * 2 := by
 induction l with
 | nil => rfl
 | cons b r ih => rw [cellsL_cons, List.length_cons, List.length_cons, ih, List.length_cons]; omega
theorem cellsL_get (l : List Nat) : ∀ (k b : Nat), l[k]? = some b → (cellsL l)[k * 2]? = some (.int .u64 (limb b 1)) ∧ (cellsL l)[k * 2 + 1]? = some (.int .u64 (limb b 0)) := by
 induction l with
 | nil => intro k b h; simp at h
 | cons c r ih =>
  intro k b h
  cases k with
  | zero =>
   rw [List.getElem?_cons_zero] at h
   injection h with h
   subst h
   exact ⟨rfl, rfl⟩
  | succ k =>
   rw [List.getElem?_cons_succ] at h
   have := ih k b h
   rw [cellsL_cons, show (k + 1) * 2 = k * 2 + 1 + 1 by omega, List.getElem?_cons_succ, List.getElem?_cons_succ, List.getElem?_cons_succ, List.getElem?_cons_succ]
   exact this
theorem cellsL_all (l : List Nat) : ∀ (j : Nat) (u : Value), (cellsL l)[j]? = some u → ∃ k b, l[k]? = some b ∧ ((j = k * 2 ∧ u = .int .u64 (limb b 1)) ∨ (j = k * 2 + 1 ∧ u = .int .u64 (limb b 0))) := by
 intro j u h
 have hj : j < (cellsL l).length := (List.getElem?_eq_some_iff.1 h).1
 rw [cellsL_len] at hj
 obtain ⟨b, hb⟩ : ∃ b, l[j / 2]? = some b := ⟨_, List.getElem?_eq_getElem (by omega)⟩
 have hg := cellsL_get l _ b hb
 rcases Nat.mod_two_eq_zero_or_one j with e | e
 ·refine ⟨j / 2, b, hb, Or.inl ⟨by omega, ?_⟩⟩
  have e1 : j / 2 * 2 = j := by omega
  rw [e1, h] at hg
  injection hg.1
 ·refine ⟨j / 2, b, hb, Or.inr ⟨by omega, ?_⟩⟩
  have e1 : j / 2 * 2 + 1 = j := by omega
  rw [e1, h] at hg
  injection hg.2
theorem range_two {w : World} {g o : Nat} {x y : Value} (h0 : w.cell? ⟨g, o, none⟩ = some x) (h1 : w.cell? ⟨g, o + 1, none⟩ = some y) : w.rangeAt g o [x, y] := by
 intro j v hj
 match j with
 | 0 => simp only [List.getElem?_cons_zero] at hj; rw [← hj]; exact h0
 | 1 => simp only [List.getElem?_cons_succ, List.getElem?_cons_zero] at hj; rw [← hj]; exact h1
 | j + 2 => simp at hj
theorem bits_info : (Tryz.prog.info? 27).map (fun i => (i.zero, i.size, i.bytes)) = some (some (.agg #[.int .u64 0, .int .u64 0]), 2, 16) := by kernel_rfl
section
variable {ops : Array Oper} {rest : List Oper} {op : Oper} {a : Act} {w : World} {Q : Exit → Act → World → Prop} {s x : Operand}
theorem app_bits (hgd : op.guard = none) (ho : op.op = .call { callee := .builtin .append, args := #[s, x], argTypes := #[48, 48] }) (hs : a.eval s = .slice none 0 0) {g o n c : Nat} {l : List Nat}
  (hx : a.eval x = .slice (some ⟨g, o, none⟩) n c) (h0 : 0 < n) (hn : n ≤ 60) (hl : l.length = n) (hb : Bls w g o l)
  (h : ∀ g' c' w', Below w.heap.size w w' → Bls w' g' 0 l → Bls w' g o l → n ≤ c' → wpList Tryz.prog ops Q rest (a.put op.dst (.slice (some ⟨g', 0, none⟩) n c')) w') : wpList Tryz.prog ops Q (op :: rest) a w := by
 obtain ⟨i, hi, hz, hsz, hby⟩ := info_parts bits_info
 refine wpList_append_own w hgd s x _ ho w.heap.size _ i _ 2 16 Tryz.underlying48 hi hz hsz hby rfl (by decide) _ 0 [] hs (World.ownsRow_nil _ _ _ _) ⟨g, o, none⟩ n c (cellsL l) hx (by rw [cellsL_len, hl]) ?_ ?_ (by simp only [maxLen]; omega) (by omega) (Nat.le_refl _) ?_
 ·intro j u hj
  rw [Addr.add_mid]
  obtain ⟨k, b, hk, ⟨rfl, rfl⟩ | ⟨rfl, rfl⟩⟩ := cellsL_all l j u hj
  ·have := hb.elem k b hk 0 _ rfl
   exact this
  ·have := hb.elem k b hk 1 _ rfl
   rw [show o + k * 2 + 1 = o + (k * 2 + 1) by omega] at this
   exact this
 ·intro u hu
  obtain ⟨j, hj⟩ := List.mem_iff_getElem?.1 hu
  obtain ⟨k, b, hk, ⟨-, rfl⟩ | ⟨-, rfl⟩⟩ := cellsL_all l j u hj <;> rfl
 ·intro v' w' hown hgrow _
  obtain ⟨hlen, h2⟩ := hown
  rw [Nat.zero_add, List.nil_append] at *
  rcases h2 with ⟨rfl, h3⟩ | ⟨g', cap, cur, rfl, hg, hh, hc, hm, hcs, ht⟩
  ·exact absurd h3 (by omega)
  ·have bel : Below w.heap.size w w' := ⟨hgrow.os, hgrow.tape, hgrow.output, hgrow.size, fun k hk => hgrow.block k hk (by simp [Value.ownBlock])⟩
   have hB : Blk 27 w' g' cur := hh
   refine h g' cap w' bel ⟨hB.lt, fun k b hk => ?_⟩ (hb.below bel hb.lt) hc
   have hkn : k < n := by rw [← hl]; exact (List.getElem?_eq_some_iff.1 hk).1
   have hget := cellsL_get l k b hk
   have cell : ∀ j u, j < n * 2 → (cellsL l)[j]? = some u → w'.cell? ⟨g', j, none⟩ = some u := by
    intro j u hj hu
    refine hB.cell j ?_
    rw [← ht, List.getElem?_take_of_lt hj, Array.getElem?_toList] at hu
    exact hu
   rw [Nat.zero_add]
   exact range_two (cell _ _ (by omega) hget.1) (cell _ _ (by omega) hget.2)
theorem app_empty (hgd : op.guard = none) (ho : op.op = .call { callee := .builtin .append, args := #[s, x], argTypes := #[48, 48] }) (hs : a.eval s = .slice none 0 0) {sa : Option Addr} {c : Nat}
  (hx : a.eval x = .slice sa 0 c) (h0 : sa = none → c = 0) (h : ∀ w', Below w.heap.size w w' → wpList Tryz.prog ops Q rest (a.put op.dst (.slice none 0 0)) w') : wpList Tryz.prog ops Q (op :: rest) a w := by
 obtain ⟨i, hi, hz, hsz, hby⟩ := info_parts bits_info
 cases sa with
 | none =>
  rw [h0 rfl] at hx
  exact wpList_append_own_none hgd s x _ ho w.heap.size _ i 2 Tryz.underlying48 hi _ 0 [] hs (World.ownsRow_nil _ _ _ _) hx (h w (Below.refl _ _))
 | some ad =>
  refine wpList_append_own w hgd s x _ ho w.heap.size _ i _ 2 16 Tryz.underlying48 hi hz hsz hby rfl (by decide) _ 0 [] hs (World.ownsRow_nil _ _ _ _) ad 0 c [] hx rfl ?_ ?_ (by decide) (by decide) (Nat.le_refl _) ?_
  ·intro j u hj; simp at hj
  ·intro u hu; simp at hu
  ·intro v' w' _ hgrow hiff
   obtain rfl := hiff.2 ⟨rfl, rfl⟩
   exact h w' ⟨hgrow.os, hgrow.tape, hgrow.output, hgrow.size, fun k hk => hgrow.block k hk (by simp [Value.ownBlock])⟩
end
def sumV (F : Nat → Nat → Nat × Nat × Int) (z f m : Nat) (l : List Nat) : Nat × Int × Int := if (decide (f < 4) && decide (m < 5) && allB f l) = true then (if l = [] then (z, 0, 0) else ((sumF F l).1, (sumF F l).2, 0)) else (0, 0, 2)
def tellS (r : Nat × Int × Int) : Value := .tuple #[BV r.1, .int .u8 r.2.1, .int .i64 r.2.2]
theorem sumV_bad (F : Nat → Nat → Nat × Nat × Int) (z f m : Nat) (l : List Nat) (h : (decide (m < 5) && decide (f < 4)) = false) : sumV F z f m l = (0, 0, 2) := by
 unfold sumV; rw [Bool.and_comm (decide (f < 4)), h]; rfl
theorem sumV_nil (F : Nat → Nat → Nat × Nat × Int) (z f m : Nat) (h : (decide (m < 5) && decide (f < 4)) = true) : sumV F z f m [] = (z, 0, 0) := by
 unfold sumV; rw [Bool.and_comm (decide (f < 4)), h]; rfl
theorem sumV_some (F : Nat → Nat → Nat × Nat × Int) (z f m : Nat) (l : List Nat) (h : (decide (m < 5) && decide (f < 4)) = true) (h0 : l ≠ []) : tellS (sumV F z f m l) = if allB f l = true then .tuple #[BV (sumF F l).1, .int .u8 (sumF F l).2, .int .i64 0] else .tuple #[BV 0, .int .u8 0, .int .i64 2] := by
 unfold sumV tellS; rw [Bool.and_comm (decide (f < 4)), h, Bool.true_and, if_neg h0]; split <;> rfl
theorem ne_nil (l : List Nat) (n : Nat) (h : l.length = n) (h0 : 0 < n) : l ≠ [] := fun e => by rw [e] at h; simp at h; omega
theorem add_open0_mode (f m : Nat) (w0 : World) (cM : ∀ w, Calls Tryz.prog 121 #[.int .u8 m] w fun e w' => e = .returned (.int .i64 2) ∧ w = w') :
  CR_ 96 #[.int .u8 f, .int .u8 m, .slice none 0 0] w0 (.tuple #[.agg (tri 0 0 0 0 0 0 0 0 0 0 0 0), .bool false]) := by
 have H := Own.start w0
 go_enter Tryz.func96, Tryz.ntmps96
 exact walk6
theorem add_open0_form (f m : Nat) (w0 : World) (cM : ∀ w, Calls Tryz.prog 121 #[.int .u8 m] w fun e w' => e = .returned (.int .i64 0) ∧ w = w') (cF : ∀ w, Calls Tryz.prog 154 #[.int .u8 f] w fun e w' => e = .returned (.int .i64 2) ∧ w = w') :
  CR_ 96 #[.int .u8 f, .int .u8 m, .slice none 0 0] w0 (.tuple #[.agg (tri 0 0 0 0 0 0 0 0 0 0 0 0), .bool false]) := by
 have H := Own.start w0
 go_enter Tryz.func96, Tryz.ntmps96
 exact walk6
theorem add_open0_ok (f m : Nat) (w0 : World) (hT : Tab w0) (cM : ∀ w, Calls Tryz.prog 121 #[.int .u8 m] w fun e w' => e = .returned (.int .i64 0) ∧ w = w') (cF : ∀ w, Calls Tryz.prog 154 #[.int .u8 f] w fun e w' => e = .returned (.int .i64 0) ∧ w = w')  :
  CR_ 96 #[.int .u8 f, .int .u8 m, .slice none 0 0] w0 (.tuple #[.agg (tri 0 0 0 0 0 0 0 0 0 0 0 0), .bool true]) := by
 have H := Own.start w0
 have HT := Lib.hid hT
 clear hT
 go_enter Tryz.func96, Tryz.ntmps96
 go_wp2_with (first
  | ((with_reducible refine g0_ rfl ?_); refine H.xb ?_; (intro g w H; simp only [Act.put, q1_, q2_, q3_]))
  | ((with_reducible refine g1_ rfl ?_); refine H.xa ?_; (intro g w H; simp only [Act.put, q1_, q2_, q3_]))
  | ((with_reducible refine g2_ rfl ?_); (first | refine H.xl ?_ | refine H.xm ?_); simp only [Act.put, q1_, q2_, q3_])
  | ((with_reducible refine g3_ rfl ?_); (first | refine H.xs ?_ | refine H.xt ?_); (intro w H; simp only [Act.put]))
  | (go_at_call 121; ((with_reducible refine (cM _).mono ?_); rintro e w' ⟨rfl, rfl⟩))
  | (go_at_call 154; ((with_reducible refine (cF _).mono ?_); rintro e w' ⟨rfl, rfl⟩))
  )
 go_loopw [23] (fun i wr => (i = .int .i64 0 ∧ Own w0 wr [(g, 101, (tri 0 0 0 0 0 0 0 0 0 0 0 0))])) (fun i _ => 1 - (intOf i).toNat)
 case atStart => exact ⟨rfl, H⟩
 case round =>
  clear H
  obtain ⟨rfl, H⟩ := hrel
  ·go_wp2_with (first
  | ((with_reducible refine g0_ rfl ?_); refine H.xb ?_; (intro g w H; simp only [Act.put, q1_, q2_, q3_]))
  | ((with_reducible refine g1_ rfl ?_); refine H.xa ?_; (intro g w H; simp only [Act.put, q1_, q2_, q3_]))
  | ((with_reducible refine g2_ rfl ?_); (first | refine H.xl ?_ | refine H.xm ?_); simp only [Act.put, q1_, q2_, q3_])
  | ((with_reducible refine g3_ rfl ?_); (first | refine H.xs ?_ | refine H.xt ?_); (intro w H; simp only [Act.put]))
  )
   all_goals
    refine bodyPost_ret (results_ct rfl rfl (H.res rQ v2_ (ext_tri _ _ _ _ _ _ _ _ _ _ _ _) (by rfl))) rfl ⟨?_, H.below⟩
    rfl
theorem addOpen0_any (f m : Nat) (hf : f < 256) (hm : m < 256) : ∃ q : Array Value, q.size = 42 ∧ ∀ w, Tab w → CR_ 96 #[.int .u8 f, .int .u8 m, .slice none 0 0] w (.tuple #[.agg (tri 0 0 0 0 0 0 0 0 0 0 0 0), .bool (decide (m < 5) && decide (f < 4))]) := by
 refine ⟨tri 0 0 0 0 0 0 0 0 0 0 0 0, rfl, fun w hT => ?_⟩
 have cM := fun w => shapeCheckMode_any m w hm
 have cF := fun w => shapeCheck_any f w hf
 by_cases hm5 : m < 5
 case neg =>
  rw [decide_eq_false hm5] at cM
  rw [decide_eq_false hm5]
  exact add_open0_mode f m w cM
 rw [decide_eq_true hm5] at cM
 by_cases hf4 : f < 4
 case neg =>
  rw [decide_eq_false hf4] at cF
  rw [decide_eq_false hf4, Bool.and_false]
  exact add_open0_form f m w cM cF
 rw [decide_eq_true hf4] at cF
 rw [decide_eq_true hm5, decide_eq_true hf4]
 exact add_open0_ok f m w hT cM cF
theorem addSum_bad (f m n c : Nat) (sa : Option Addr) (w0 : World) (hT : Tab w0) (cO : CT_ 96 #[.int .u8 f, .int .u8 m, .slice none 0 0] (.tuple #[.agg (tri 0 0 0 0 0 0 0 0 0 0 0 0), .bool false]))  :
  CR_ 31 #[.int .u8 f, .int .u8 m, .slice sa n c] w0 (.tuple #[BV 0, .int .u8 0, .int .i64 2]) := by
 have H := Own.start w0
 have HT := Lib.hid hT
 clear hT
 go_enter Tryz.func31, Tryz.ntmps31
 exact walk6
theorem addSum_nil (f m c : Nat) (sa : Option Addr) (w0 : World) (hT : Tab w0) (cO : CT_ 96 #[.int .u8 f, .int .u8 m, .slice none 0 0] (.tuple #[.agg (tri 0 0 0 0 0 0 0 0 0 0 0 0), .bool true])) :
  CR_ 31 #[.int .u8 f, .int .u8 m, .slice sa 0 c] w0 (.tuple #[BV 0, .int .u8 0, .int .i64 0]) := by
 have H := Own.start w0
 have HT := Lib.hid hT
 clear hT
 go_enter Tryz.func31, Tryz.ntmps31
 go_wp2_with (first
  | ((with_reducible show wpList _ _ _ (⟨some 6, .alloc 27, _, _, _, _⟩ :: _) _ _); refine H.xa ?_; (intro gr w H; simp only [Act.put, q1_, q2_, q3_]))
  | ((with_reducible show wpList _ _ _ (⟨some 9, .alloc 27, _, _, _, _⟩ :: _) _ _); refine H.xa ?_; (intro gs w H; simp only [Act.put, q1_, q2_, q3_]))
  | ((with_reducible refine g0_ rfl ?_); refine H.xb ?_; (intro g w H; simp only [Act.put, q1_, q2_, q3_]))
  | ((with_reducible refine g1_ rfl ?_); refine H.xa ?_; (intro g w H; simp only [Act.put, q1_, q2_, q3_]))
  | ((with_reducible refine g2_ rfl ?_); (first | refine H.xl ?_ | refine H.xm ?_); simp only [Act.put, q1_, q2_, q3_])
  | ((with_reducible refine g3_ rfl ?_); (first | refine H.xs ?_ | refine H.xt ?_); (intro w H; simp only [Act.put]))
  | (go_at_call 96; (with_reducible refine H.kc (cO _ (HT.out.below H.below)) ?_; clear H; intro w H))
  )
 go_loopw [31] (fun i wr => i = .int .i64 0 ∧ Own w0 wr [(gs, 27, #[.int .u64 0, .int .u64 0]), (gr, 27, #[.int .u64 0, .int .u64 0])]) (fun i _ => 1)
 case atStart => exact ⟨rfl, H.sub v5_⟩
 case round =>
  clear H
  obtain ⟨rfl, H⟩ := hrel
  go_wp2_with (first
  | ((with_reducible refine g0_ rfl ?_); refine H.xb ?_; (intro g w H; simp only [Act.put, q1_, q2_, q3_]))
  | ((with_reducible refine g1_ rfl ?_); refine H.xa ?_; (intro g w H; simp only [Act.put, q1_, q2_, q3_]))
  | ((with_reducible refine g2_ rfl ?_); (first | refine H.xl ?_ | refine H.xm ?_); simp only [Act.put, q1_, q2_, q3_])
  | ((with_reducible refine g3_ rfl ?_); (first | refine H.xs ?_ | refine H.xt ?_); (intro w H; simp only [Act.put]))
  | ((with_reducible refine g4_ rfl ?_); refine H.lde hB hb ?_; simp only [Act.put, q1_, q2_, q3_])
  | (go_at_call 96; (with_reducible refine H.kc (cO _ (HT.out.below H.below)) ?_; clear H; intro w H))
  | (go_at_call 92; (with_reducible refine H.kc (cTb _) ?_; clear H; intro w H))
  | (go_at_call 26; (with_reducible refine H.kc (cAb _ (HT.out.below H.below)) ?_; clear H; intro w H))
  )
  go_loopw [10, 43] (fun v i wr => i = .int .i64 0 ∧ v = .int .u8 0 ∧ Own w0 wr [(gs, 27, #[.int .u64 0, .int .u64 0]), (gr, 27, #[.int .u64 0, .int .u64 0])]) (fun _ i _ => 1)
  case atStart => exact ⟨rfl, rfl, H⟩
  case round =>
   clear H
   obtain ⟨rfl, rfl, H⟩ := hrel
   go_wp2_with (first
  | ((with_reducible refine g0_ rfl ?_); refine H.xb ?_; (intro g w H; simp only [Act.put, q1_, q2_, q3_]))
  | ((with_reducible refine g1_ rfl ?_); refine H.xa ?_; (intro g w H; simp only [Act.put, q1_, q2_, q3_]))
  | ((with_reducible refine g2_ rfl ?_); (first | refine H.xl ?_ | refine H.xm ?_); simp only [Act.put, q1_, q2_, q3_])
  | ((with_reducible refine g3_ rfl ?_); (first | refine H.xs ?_ | refine H.xt ?_); (intro w H; simp only [Act.put]))
  | ((with_reducible refine g4_ rfl ?_); refine H.lde hB hb ?_; simp only [Act.put, q1_, q2_, q3_])
  | (go_at_call 96; (with_reducible refine H.kc (cO _ (HT.out.below H.below)) ?_; clear H; intro w H))
  | (go_at_call 92; (with_reducible refine H.kc (cTb _) ?_; clear H; intro w H))
  | (go_at_call 26; (with_reducible refine H.kc (cAb _ (HT.out.below H.below)) ?_; clear H; intro w H))
  )
   all_goals
    refine bodyPost_ret (results_ctt rfl rfl (H.res rB v2_ v3_ (by rfl))) rfl ⟨?_, H.below⟩
    first | rfl | simp
theorem addSum_some (F : Nat → Nat → Nat × Nat × Int) (f m : Nat) (l : List Nat) (g o n c : Nat) (w0 : World) (hT : Tab w0) (hB : Bls w0 g o l) (hl : Hid (∀ b ∈ l, b < 2 ^ (64 * 2))) (hn : Hid (l.length = n)) (hsm : n ≤ 60) (cO : CT_ 96 #[.int .u8 f, .int .u8 m, .slice none 0 0] (.tuple #[.agg (tri 0 0 0 0 0 0 0 0 0 0 0 0), .bool true])) (cT : ∀ b w, b < 2 ^ (64 * 2) → CR_ 92 #[.int .u8 f, BV b] w (.bool (fitsB f b))) (cA : ∀ a b w, a < 2 ^ (64 * 2) → b < 2 ^ (64 * 2) → Tab w → CR_ 26 #[.int .u8 f, .int .u8 m, BV a, BV b] w (.tuple #[BV (F a b).1, .int .u8 ((F a b).2.1 : Nat), .int .i64 (F a b).2.2])) :
  CR_ 31 #[.int .u8 f, .int .u8 m, .slice (some ⟨g, o, none⟩) n c] w0 (if allB f l = true then .tuple #[BV (sumF F l).1, .int .u8 (sumF F l).2, .int .i64 0] else .tuple #[BV 0, .int .u8 0, .int .i64 2]) := by
 obtain ⟨R, hR⟩ : ∃ R : Value, Hid (R = if allB f l = true then .tuple #[BV (sumF F l).1, .int .u8 (sumF F l).2, .int .i64 0] else .tuple #[BV 0, .int .u8 0, .int .i64 2]) := ⟨_, Lib.hid rfl⟩
 rw [← hR.out]
 have H := Own.start w0
 have HT := Lib.hid hT
 clear hT
 go_enter Tryz.func31, Tryz.ntmps31
 go_wp2_with (first
  | ((with_reducible show wpList _ _ _ (⟨some 6, .alloc 27, _, _, _, _⟩ :: _) _ _); refine H.xa ?_; (intro gr w H; simp only [Act.put, q1_, q2_, q3_]))
  | ((with_reducible show wpList _ _ _ (⟨some 9, .alloc 27, _, _, _, _⟩ :: _) _ _); refine H.xa ?_; (intro gs w H; simp only [Act.put, q1_, q2_, q3_]))
  | ((with_reducible refine g0_ rfl ?_); refine H.xb ?_; (intro g w H; simp only [Act.put, q1_, q2_, q3_]))
  | ((with_reducible refine g1_ rfl ?_); refine H.xa ?_; (intro g w H; simp only [Act.put, q1_, q2_, q3_]))
  | ((with_reducible refine g2_ rfl ?_); (first | refine H.xl ?_ | refine H.xm ?_); simp only [Act.put, q1_, q2_, q3_])
  | ((with_reducible refine g3_ rfl ?_); (first | refine H.xs ?_ | refine H.xt ?_); (intro w H; simp only [Act.put]))
  | (go_at_call 96; (with_reducible refine H.kc (cO _ (HT.out.below H.below)) ?_; clear H; intro w H))
  )
 go_loopw [31] (fun i wr => ∃ k : Nat, k ≤ n ∧ i = .int .i64 k ∧ Hid (∀ j b, j < k → l[j]? = some b → fitsB f b = true) ∧ Own w0 wr [(gs, 27, #[.int .u64 0, .int .u64 0]), (gr, 27, #[.int .u64 0, .int .u64 0])]) (fun i _ => n + 1 - (intOf i).toNat)
 case atStart => exact ⟨0, by omega, rfl, (by intro j b hj; omega), H.sub v5_⟩
 case round =>
  clear H
  obtain ⟨k, hk, rfl, hfit, H⟩ := hrel
  by_cases hlt : k < n
  ·obtain ⟨b, hb⟩ : ∃ b, l[k]? = some b := ⟨_, List.getElem?_eq_getElem (by rw [hn.out]; exact hlt)⟩
   have hd : decide ((k : Int) < (n : Int)) = true := by simp; omega
   have cTb := fun w => cT b w (hl.out b (List.mem_of_getElem? hb))
   cases hf : fitsB f b
   ·rw [hf] at cTb
    go_wp2_with (first
  | ((with_reducible refine g0_ rfl ?_); refine H.xb ?_; (intro g w H; simp only [Act.put, q1_, q2_, q3_]))
  | ((with_reducible refine g1_ rfl ?_); refine H.xa ?_; (intro g w H; simp only [Act.put, q1_, q2_, q3_]))
  | ((with_reducible refine g2_ rfl ?_); (first | refine H.xl ?_ | refine H.xm ?_); simp only [Act.put, q1_, q2_, q3_])
  | ((with_reducible refine g3_ rfl ?_); (first | refine H.xs ?_ | refine H.xt ?_); (intro w H; simp only [Act.put]))
  | ((with_reducible refine g4_ rfl ?_); refine H.lde hB hb ?_; simp only [Act.put, q1_, q2_, q3_])
  | (go_at_call 96; (with_reducible refine H.kc (cO _ (HT.out.below H.below)) ?_; clear H; intro w H))
  | (go_at_call 92; (with_reducible refine H.kc (cTb _) ?_; clear H; intro w H))
  | (go_at_call 26; (with_reducible refine H.kc (cAb _ (HT.out.below H.below)) ?_; clear H; intro w H))
  )
    all_goals
     refine bodyPost_ret (results_ctt rfl rfl (H.res rB v2_ v3_ (by rfl))) rfl ⟨?_, H.below⟩
     rw [hR.out, allB_not f l k b hb hf]
     rfl
   ·rw [hf] at cTb
    go_wp2_with (first
  | ((with_reducible refine g0_ rfl ?_); refine H.xb ?_; (intro g w H; simp only [Act.put, q1_, q2_, q3_]))
  | ((with_reducible refine g1_ rfl ?_); refine H.xa ?_; (intro g w H; simp only [Act.put, q1_, q2_, q3_]))
  | ((with_reducible refine g2_ rfl ?_); (first | refine H.xl ?_ | refine H.xm ?_); simp only [Act.put, q1_, q2_, q3_])
  | ((with_reducible refine g3_ rfl ?_); (first | refine H.xs ?_ | refine H.xt ?_); (intro w H; simp only [Act.put]))
  | ((with_reducible refine g4_ rfl ?_); refine H.lde hB hb ?_; simp only [Act.put, q1_, q2_, q3_])
  | (go_at_call 96; (with_reducible refine H.kc (cO _ (HT.out.below H.below)) ?_; clear H; intro w H))
  | (go_at_call 92; (with_reducible refine H.kc (cTb _) ?_; clear H; intro w H))
  | (go_at_call 26; (with_reducible refine H.kc (cAb _ (HT.out.below H.below)) ?_; clear H; intro w H))
  )
    all_goals
     go_roundw
     case rel => exact ⟨k + 1, by omega, by go_num, fits_next hfit.out hb hf, H.sub v5_⟩
     case measure => first | (simp [intOf]; omega) | simp [intOf]
  ·obtain rfl : k = n := by omega
   have hd : decide ((k : Int) < (k : Int)) = false := by simp
   have hall := allB_yes f l k (by rw [hn.out]; exact Nat.le_refl _) hfit.out
   have hR2 : Hid (R = _) := hR.out.trans (if_pos hall)
   clear hfit hall hR
   go_wp2_with (first
  | ((with_reducible refine g0_ rfl ?_); refine H.xb ?_; (intro g w H; simp only [Act.put, q1_, q2_, q3_]))
  | ((with_reducible refine g1_ rfl ?_); refine H.xa ?_; (intro g w H; simp only [Act.put, q1_, q2_, q3_]))
  | ((with_reducible refine g2_ rfl ?_); (first | refine H.xl ?_ | refine H.xm ?_); simp only [Act.put, q1_, q2_, q3_])
  | ((with_reducible refine g3_ rfl ?_); (first | refine H.xs ?_ | refine H.xt ?_); (intro w H; simp only [Act.put]))
  | ((with_reducible refine g4_ rfl ?_); refine H.lde hB hb ?_; simp only [Act.put, q1_, q2_, q3_])
  | (go_at_call 96; (with_reducible refine H.kc (cO _ (HT.out.below H.below)) ?_; clear H; intro w H))
  | (go_at_call 92; (with_reducible refine H.kc (cTb _) ?_; clear H; intro w H))
  | (go_at_call 26; (with_reducible refine H.kc (cAb _ (HT.out.below H.below)) ?_; clear H; intro w H))
  )
   go_loopw [10, 43] (fun v i wr => ∃ j s : Nat, ∃ q : Int, j ≤ k ∧ i = .int .i64 j ∧ v = .int .u8 q ∧ Hid ((s, q) = sumF F (l.take j)) ∧ Own w0 wr [(gs, 27, bc s), (gr, 27, #[.int .u64 0, .int .u64 0])]) (fun _ i _ => k + 1 - (intOf i).toNat)
   case atStart => exact ⟨0, 0, 0, by omega, rfl, rfl, (rfl : ((0 : Nat), (0 : Int)) = sumF F (l.take 0)), H⟩
   case round =>
    clear H
    obtain ⟨j, s, q, hj, rfl, rfl, hs, H⟩ := hrel
    by_cases hjt : j < k
    ·obtain ⟨b, hb⟩ : ∃ b, l[j]? = some b := ⟨_, List.getElem?_eq_getElem (by rw [hn.out]; exact hjt)⟩
     have hd2 : decide ((j : Int) < (k : Int)) = true := by simp; omega
     by_cases hj0 : j = 0
     ·subst hj0
      have h1 := Lib.hid (sumF_one F l b hb)
      go_wp2_with (first
  | ((with_reducible refine g0_ rfl ?_); refine H.xb ?_; (intro g w H; simp only [Act.put, q1_, q2_, q3_]))
  | ((with_reducible refine g1_ rfl ?_); refine H.xa ?_; (intro g w H; simp only [Act.put, q1_, q2_, q3_]))
  | ((with_reducible refine g2_ rfl ?_); (first | refine H.xl ?_ | refine H.xm ?_); simp only [Act.put, q1_, q2_, q3_])
  | ((with_reducible refine g3_ rfl ?_); (first | refine H.xs ?_ | refine H.xt ?_); (intro w H; simp only [Act.put]))
  | ((with_reducible refine g4_ rfl ?_); refine H.lde hB hb ?_; simp only [Act.put, q1_, q2_, q3_])
  | (go_at_call 96; (with_reducible refine H.kc (cO _ (HT.out.below H.below)) ?_; clear H; intro w H))
  | (go_at_call 92; (with_reducible refine H.kc (cTb _) ?_; clear H; intro w H))
  | (go_at_call 26; (with_reducible refine H.kc (cAb _ (HT.out.below H.below)) ?_; clear H; intro w H))
  )
      all_goals
       go_roundw
       case rel => exact ⟨1, b, q, by omega, by go_num, rfl, (by have h : (s, q) = ((0 : Nat), (0 : Int)) := hs.out; injection h with _ hq; show (b, q) = _; rw [hq]; exact h1.out.symm), H.sub v5_⟩
       case measure => first | (simp [intOf]; omega) | simp [intOf]
     ·have hj1 : (0 : Int) < (j : Int) := by omega
      have hslt : s < 2 ^ (64 * 2) := by have := sumF_lt F (l.take j) (fun b hb => hl.out b (List.mem_of_mem_take hb)); rw [← hs.out] at this; exact this
      have cAb := fun w => cA s b w hslt (hl.out b (List.mem_of_getElem? hb))
      have h1 := Lib.hid (sumF_next F l j b (by omega) hb)
      clear hslt
      go_wp2_with (first
  | ((with_reducible refine g0_ rfl ?_); refine H.xb ?_; (intro g w H; simp only [Act.put, q1_, q2_, q3_]))
  | ((with_reducible refine g1_ rfl ?_); refine H.xa ?_; (intro g w H; simp only [Act.put, q1_, q2_, q3_]))
  | ((with_reducible refine g2_ rfl ?_); (first | refine H.xl ?_ | refine H.xm ?_); simp only [Act.put, q1_, q2_, q3_])
  | ((with_reducible refine g3_ rfl ?_); (first | refine H.xs ?_ | refine H.xt ?_); (intro w H; simp only [Act.put]))
  | ((with_reducible refine g4_ rfl ?_); refine H.lde hB hb ?_; simp only [Act.put, q1_, q2_, q3_])
  | (go_at_call 96; (with_reducible refine H.kc (cO _ (HT.out.below H.below)) ?_; clear H; intro w H))
  | (go_at_call 92; (with_reducible refine H.kc (cTb _) ?_; clear H; intro w H))
  | (go_at_call 26; (with_reducible refine H.kc (cAb _ (HT.out.below H.below)) ?_; clear H; intro w H))
  )
      all_goals
       go_roundw
       case rel => exact ⟨j + 1, (F s b).1 % 2 ^ (64 * 2), Go.bits .or .u8 q ((F s b).2.1 : Nat), by omega, by go_num, rfl, (by show _ = sumF F _; rw [h1.out, ← hs.out]; rfl), (by have := bv_mod (F s b).1; injection this with e; unfold bc; rw [e]; exact H.sub (by repeat (first | with_reducible exact List.Sublist.refl _ | with_reducible apply List.Sublist.cons_cons | with_reducible apply List.Sublist.cons)))⟩
       case measure => first | (simp [intOf]; omega) | simp [intOf]
    ·obtain rfl : j = k := by omega
     have hd2 : decide ((j : Int) < (j : Int)) = false := by simp
     have h2 := hs.out
     rw [take_all l j (by rw [hn.out]; exact Nat.le_refl _)] at h2
     have h3 := Lib.hid h2
     clear h2 hs
     go_wp2_with (first
  | ((with_reducible refine g0_ rfl ?_); refine H.xb ?_; (intro g w H; simp only [Act.put, q1_, q2_, q3_]))
  | ((with_reducible refine g1_ rfl ?_); refine H.xa ?_; (intro g w H; simp only [Act.put, q1_, q2_, q3_]))
  | ((with_reducible refine g2_ rfl ?_); (first | refine H.xl ?_ | refine H.xm ?_); simp only [Act.put, q1_, q2_, q3_])
  | ((with_reducible refine g3_ rfl ?_); (first | refine H.xs ?_ | refine H.xt ?_); (intro w H; simp only [Act.put]))
  | ((with_reducible refine g4_ rfl ?_); refine H.lde hB hb ?_; simp only [Act.put, q1_, q2_, q3_])
  | (go_at_call 96; (with_reducible refine H.kc (cO _ (HT.out.below H.below)) ?_; clear H; intro w H))
  | (go_at_call 92; (with_reducible refine H.kc (cTb _) ?_; clear H; intro w H))
  | (go_at_call 26; (with_reducible refine H.kc (cAb _ (HT.out.below H.below)) ?_; clear H; intro w H))
  )
     all_goals
      refine bodyPost_ret (results_ctt rfl rfl (H.res rB v2_ v3_ (by rfl))) rfl ⟨?_, H.below⟩
      rw [hR2.out, ← h3.out]
      rfl
theorem r11Sum_no (f m n c : Nat) (sa : Option Addr) (w0 : World) (cL : ∀ w, Below w0.heap.size w0 w → CR_ 82 #[.int .u8 f, .int .u8 m, .slice sa n c] w (.bool false))  :
  CR_ 32 #[.int .u8 f, .int .u8 m, .slice sa n c] w0 (.tuple #[BV 0, .int .u8 0, .int .i64 2]) := by
 have H := Own.start w0
 go_enter Tryz.func32, Tryz.ntmps32
 exact walk6
theorem r11Sum_nil (f m c q1 : Nat) (sa : Option Addr) (w0 : World) (cL : ∀ w, Below w0.heap.size w0 w → CR_ 82 #[.int .u8 f, .int .u8 m, .slice sa 0 c] w (.bool true))  :
  CR_ 32 #[.int .u8 f, .int .u8 m, .slice sa 0 c] w0 (.tuple #[BV 0, .int .u8 0, .int .i64 0]) := by
 have H := Own.start w0
 go_enter Tryz.func32, Tryz.ntmps32
 exact walk6
theorem r11Sum_some (F : Nat → Nat → Nat × Nat × Int) (f m : Nat) (l : List Nat) (g o n c : Nat) (w0 : World) (hB : Bls w0 g o l) (hl : Hid (∀ b ∈ l, b < 2 ^ (64 * 2))) (hn : Hid (l.length = n)) (hsm : n ≤ 60) (hn0 : 0 < n) (cL : ∀ w, Below w0.heap.size w0 w → CR_ 82 #[.int .u8 f, .int .u8 m, .slice (some ⟨g, o, none⟩) n c] w (.bool true)) (cA : ∀ a b w, a < 2 ^ (64 * 2) → b < 2 ^ (64 * 2) → CR_ 27 #[.int .u8 f, .int .u8 m, BV a, BV b] w (.tuple #[BV (F a b).1, .int .u8 ((F a b).2.1 : Nat), .int .i64 (F a b).2.2])) :
  CR_ 32 #[.int .u8 f, .int .u8 m, .slice (some ⟨g, o, none⟩) n c] w0 (.tuple #[BV (sumF F l).1, .int .u8 (sumF F l).2, .int .i64 0]) := by
 obtain ⟨b0, hb0⟩ : ∃ b, l[0]? = some b := ⟨_, List.getElem?_eq_getElem (by rw [hn.out]; exact hn0)⟩
 have h1 := Lib.hid (sumF_one F l b0 hb0)
 have hk0 : (0 : Int) < (n : Int) := by omega
 have hk00 : ((n : Int) == 0) = false := by rw [beq_eq_false_iff_ne]; omega
 obtain ⟨R, hR⟩ : ∃ R : Value, Hid (R = .tuple #[BV (sumF F l).1, .int .u8 (sumF F l).2, .int .i64 0]) := ⟨_, Lib.hid rfl⟩
 rw [← hR.out]
 have H := Own.start w0
 go_enter Tryz.func32, Tryz.ntmps32
 go_wp2_with (first
  | ((with_reducible show wpList _ _ _ (⟨some 6, .alloc 27, _, _, _, _⟩ :: _) _ _); refine H.xa ?_; (intro gr w H; simp only [Act.put, q1_, q2_, q3_]))
  | ((with_reducible show wpList _ _ _ (⟨some 9, .alloc 27, _, _, _, _⟩ :: _) _ _); refine H.xa ?_; (intro gs w H; simp only [Act.put, q1_, q2_, q3_]))
  | ((with_reducible refine g0_ rfl ?_); refine H.xb ?_; (intro g w H; simp only [Act.put, q1_, q2_, q3_]))
  | ((with_reducible refine g1_ rfl ?_); refine H.xa ?_; (intro g w H; simp only [Act.put, q1_, q2_, q3_]))
  | ((with_reducible refine g2_ rfl ?_); (first | refine H.xl ?_ | refine H.xm ?_); simp only [Act.put, q1_, q2_, q3_])
  | ((with_reducible refine g3_ rfl ?_); (first | refine H.xs ?_ | refine H.xt ?_); (intro w H; simp only [Act.put]))
  | ((with_reducible refine g4_ rfl ?_); refine H.lde hB hb0 ?_; simp only [Act.put, q1_, q2_, q3_])
  | (go_at_call 82; (with_reducible refine H.kc (cL _ H.below) ?_; clear H; intro w H))
  )
 go_loopw [10, 11] (fun v i wr => ∃ j s : Nat, ∃ q : Int, j + 1 ≤ n ∧ i = .int .i64 ((j : Int) + 1) ∧ v = .int .u8 q ∧ Hid ((s, q) = sumF F (l.take (j + 1))) ∧ Own w0 wr [(gs, 27, bc s), (gr, 27, #[.int .u64 0, .int .u64 0])]) (fun _ i _ => n + 1 - (intOf i).toNat)
 case atStart => exact ⟨0, b0, 0, by omega, rfl, rfl, h1.out.symm, H.sub v5_⟩
 case round =>
  clear H h1
  obtain ⟨j, s, q, hj, rfl, rfl, hs, H⟩ := hrel
  by_cases hjt : j + 1 < n
  ·obtain ⟨b, hb⟩ : ∃ b, l[j + 1]? = some b := ⟨_, List.getElem?_eq_getElem (by rw [hn.out]; exact hjt)⟩
   have hd2 : decide ((j : Int) + 1 < (n : Int)) = true := by simp; omega
   have hslt : s < 2 ^ (64 * 2) := by have := sumF_lt F (l.take (j + 1)) (fun b hb => hl.out b (List.mem_of_mem_take hb)); rw [← hs.out] at this; exact this
   have cAb := fun w => cA s b w hslt (hl.out b (List.mem_of_getElem? hb))
   have h1 := Lib.hid (sumF_next F l (j + 1) b (by omega) hb)
   clear hslt
   go_wp2_with (first
  | ((with_reducible refine g0_ rfl ?_); refine H.xb ?_; (intro g w H; simp only [Act.put, q1_, q2_, q3_]))
  | ((with_reducible refine g1_ rfl ?_); refine H.xa ?_; (intro g w H; simp only [Act.put, q1_, q2_, q3_]))
  | ((with_reducible refine g2_ rfl ?_); (first | refine H.xl ?_ | refine H.xm ?_); simp only [Act.put, q1_, q2_, q3_])
  | ((with_reducible refine g3_ rfl ?_); (first | refine H.xs ?_ | refine H.xt ?_); (intro w H; simp only [Act.put]))
  | ((with_reducible refine g4_ rfl ?_); refine H.lde hB hb ?_; simp only [Act.put, q1_, q2_, q3_])
  | ((with_reducible show Code.wp _ (.region 10 _ true) _ _ _); refine H.heldSub rfl (List.Sublist.refl _) ?_; intro H; refine H.zr 0 ?_; (try simp only [Act.put, q1_, q2_, q3_]); (try simp only [q4_, q5_, q6_]); refine H.zr 1 ?_; (try simp only [Act.put, q1_, q2_, q3_]); (try simp only [q4_, q5_, q6_]); (first | refine H.zl 2 ?_ | refine H.zm 2 ?_); (try simp only [Act.put, q1_, q2_, q3_]); (try simp only [q4_, q5_, q6_]); refine H.zr 3 ?_; (try simp only [Act.put, q1_, q2_, q3_]); (try simp only [q4_, q5_, q6_]); refine H.zr 4 ?_; (try simp only [Act.put, q1_, q2_, q3_]); (try simp only [q4_, q5_, q6_]); refine H.zr 5 ?_ (hv := by intro w; go_simp; rw [if_pos (by omega)]); (try simp only [Act.put, q1_, q2_, q3_]); (try simp only [q4_, q5_, q6_]); refine H.zle 6 hB hb ?_; (try simp only [Act.put, q1_, q2_, q3_]); (try simp only [q4_, q5_, q6_]); refine held2 7 12 ?_ ?_; (unfold Oper.wp; go_simp; (go_at_call 27; (with_reducible refine H.kc (cAb _) ?_; clear H; intro w H)); refine H.nx ?_; (try simp only [Act.put, q1_, q2_, q3_]); (try simp only [q4_, q5_, q6_]); refine H.zr 8 ?_; (try simp only [Act.put, q1_, q2_, q3_]); (try simp only [q4_, q5_, q6_]); refine H.zr 9 ?_; (try simp only [Act.put, q1_, q2_, q3_]); (try simp only [q4_, q5_, q6_]); refine H.zr 10 ?_; (try simp only [Act.put, q1_, q2_, q3_]); (try simp only [q4_, q5_, q6_]); refine H.zr 11 ?_; (try simp only [Act.put, q1_, q2_, q3_]); (try simp only [q4_, q5_, q6_]); refine held1 12 ?_; refine H.ya ?_; intro g w H; refine H.nx ?_; (try simp only [Act.put, q1_, q2_, q3_]); (try simp only [q4_, q5_, q6_]); refine held1 13 ?_; (first | refine H.ys ?_ | refine H.yt ?_); intro w H; refine H.nx ?_; (try simp only [Act.put]); refine H.zr 14 ?_; (try simp only [Act.put, q1_, q2_, q3_]); (try simp only [q4_, q5_, q6_]); refine H.zr 15 ?_; (try simp only [Act.put, q1_, q2_, q3_]); (try simp only [q4_, q5_, q6_]); refine wpAnyH_done (by kernel_rfl) ?_ _); rotate_left; (refine H.ya ?_; intro g w H; refine H.nx ?_; (try simp only [Act.put, q1_, q2_, q3_]); (try simp only [q4_, q5_, q6_]); refine held1 7 ?_; unfold Oper.wp; go_simp; (go_at_call 27; (with_reducible refine H.kc (cAb _) ?_; clear H; intro w H)); refine H.nx ?_; (try simp only [Act.put, q1_, q2_, q3_]); (try simp only [q4_, q5_, q6_]); refine H.zr 8 ?_; (try simp only [Act.put, q1_, q2_, q3_]); (try simp only [q4_, q5_, q6_]); refine H.zr 9 ?_; (try simp only [Act.put, q1_, q2_, q3_]); (try simp only [q4_, q5_, q6_]); refine H.zr 10 ?_; (try simp only [Act.put, q1_, q2_, q3_]); (try simp only [q4_, q5_, q6_]); refine H.zr 11 ?_; (try simp only [Act.put, q1_, q2_, q3_]); (try simp only [q4_, q5_, q6_]); refine held1 13 ?_; (first | refine H.ys ?_ | refine H.yt ?_); intro w H; refine H.nx ?_; (try simp only [Act.put]); refine H.zr 14 ?_; (try simp only [Act.put, q1_, q2_, q3_]); (try simp only [q4_, q5_, q6_]); refine H.zr 15 ?_; (try simp only [Act.put, q1_, q2_, q3_]); (try simp only [q4_, q5_, q6_]); refine wpAnyH_done (by kernel_rfl) ?_ _))
  | (go_at_call 82; (with_reducible refine H.kc (cL _ H.below) ?_; clear H; intro w H))
  | (go_at_call 27; (with_reducible refine H.kc (cAb _) ?_; clear H; intro w H))
  )
   all_goals
    go_roundw
    case rel => exact ⟨j + 1, (F s b).1 % 2 ^ (64 * 2), Go.bits .or .u8 q ((F s b).2.1 : Nat), by omega, by go_num, rfl, (by show _ = sumF F _; rw [h1.out, ← hs.out]; rfl), (by have := bv_mod (F s b).1; injection this with e; unfold bc; rw [e]; exact H.sub (by repeat (first | with_reducible exact List.Sublist.refl _ | with_reducible apply List.Sublist.cons_cons | with_reducible apply List.Sublist.cons)))⟩
    case measure => first | (simp [intOf]; omega) | simp [intOf]
  ·obtain rfl : n = j + 1 := by omega
   have hd2 : decide ((j : Int) + 1 < ((j + 1 : Nat) : Int)) = false := by simp
   have h2 := hs.out
   rw [take_all l (j + 1) (by rw [hn.out]; exact Nat.le_refl _)] at h2
   have h3 := Lib.hid h2
   clear h2 hs
   go_wp2_with (first
  | ((with_reducible refine g0_ rfl ?_); refine H.xb ?_; (intro g w H; simp only [Act.put, q1_, q2_, q3_]))
  | ((with_reducible refine g1_ rfl ?_); refine H.xa ?_; (intro g w H; simp only [Act.put, q1_, q2_, q3_]))
  | ((with_reducible refine g2_ rfl ?_); (first | refine H.xl ?_ | refine H.xm ?_); simp only [Act.put, q1_, q2_, q3_])
  | ((with_reducible refine g3_ rfl ?_); (first | refine H.xs ?_ | refine H.xt ?_); (intro w H; simp only [Act.put]))
  | ((with_reducible refine g4_ rfl ?_); refine H.lde hB hb ?_; simp only [Act.put, q1_, q2_, q3_])
  | ((with_reducible show Code.wp _ (.region 10 _ true) _ _ _); refine H.heldSub rfl (List.Sublist.refl _) ?_; intro H; refine H.zr 0 ?_; (try simp only [Act.put, q1_, q2_, q3_]); (try simp only [q4_, q5_, q6_]); refine H.zr 1 ?_; (try simp only [Act.put, q1_, q2_, q3_]); (try simp only [q4_, q5_, q6_]); (first | refine H.zl 2 ?_ | refine H.zm 2 ?_); (try simp only [Act.put, q1_, q2_, q3_]); (try simp only [q4_, q5_, q6_]); refine H.zr 3 ?_; (try simp only [Act.put, q1_, q2_, q3_]); (try simp only [q4_, q5_, q6_]); refine H.zr 4 ?_; (try simp only [Act.put, q1_, q2_, q3_]); (try simp only [q4_, q5_, q6_]); refine H.zr 5 ?_ (hv := by intro w; go_simp; rw [if_pos (by omega)]); (try simp only [Act.put, q1_, q2_, q3_]); (try simp only [q4_, q5_, q6_]); refine H.zle 6 hB hb ?_; (try simp only [Act.put, q1_, q2_, q3_]); (try simp only [q4_, q5_, q6_]); refine held2 7 12 ?_ ?_; (unfold Oper.wp; go_simp; (go_at_call 27; (with_reducible refine H.kc (cAb _) ?_; clear H; intro w H)); refine H.nx ?_; (try simp only [Act.put, q1_, q2_, q3_]); (try simp only [q4_, q5_, q6_]); refine H.zr 8 ?_; (try simp only [Act.put, q1_, q2_, q3_]); (try simp only [q4_, q5_, q6_]); refine H.zr 9 ?_; (try simp only [Act.put, q1_, q2_, q3_]); (try simp only [q4_, q5_, q6_]); refine H.zr 10 ?_; (try simp only [Act.put, q1_, q2_, q3_]); (try simp only [q4_, q5_, q6_]); refine H.zr 11 ?_; (try simp only [Act.put, q1_, q2_, q3_]); (try simp only [q4_, q5_, q6_]); refine held1 12 ?_; refine H.ya ?_; intro g w H; refine H.nx ?_; (try simp only [Act.put, q1_, q2_, q3_]); (try simp only [q4_, q5_, q6_]); refine held1 13 ?_; (first | refine H.ys ?_ | refine H.yt ?_); intro w H; refine H.nx ?_; (try simp only [Act.put]); refine H.zr 14 ?_; (try simp only [Act.put, q1_, q2_, q3_]); (try simp only [q4_, q5_, q6_]); refine H.zr 15 ?_; (try simp only [Act.put, q1_, q2_, q3_]); (try simp only [q4_, q5_, q6_]); refine wpAnyH_done (by kernel_rfl) ?_ _); rotate_left; (refine H.ya ?_; intro g w H; refine H.nx ?_; (try simp only [Act.put, q1_, q2_, q3_]); (try simp only [q4_, q5_, q6_]); refine held1 7 ?_; unfold Oper.wp; go_simp; (go_at_call 27; (with_reducible refine H.kc (cAb _) ?_; clear H; intro w H)); refine H.nx ?_; (try simp only [Act.put, q1_, q2_, q3_]); (try simp only [q4_, q5_, q6_]); refine H.zr 8 ?_; (try simp only [Act.put, q1_, q2_, q3_]); (try simp only [q4_, q5_, q6_]); refine H.zr 9 ?_; (try simp only [Act.put, q1_, q2_, q3_]); (try simp only [q4_, q5_, q6_]); refine H.zr 10 ?_; (try simp only [Act.put, q1_, q2_, q3_]); (try simp only [q4_, q5_, q6_]); refine H.zr 11 ?_; (try simp only [Act.put, q1_, q2_, q3_]); (try simp only [q4_, q5_, q6_]); refine held1 13 ?_; (first | refine H.ys ?_ | refine H.yt ?_); intro w H; refine H.nx ?_; (try simp only [Act.put]); refine H.zr 14 ?_; (try simp only [Act.put, q1_, q2_, q3_]); (try simp only [q4_, q5_, q6_]); refine H.zr 15 ?_; (try simp only [Act.put, q1_, q2_, q3_]); (try simp only [q4_, q5_, q6_]); refine wpAnyH_done (by kernel_rfl) ?_ _))
  | (go_at_call 82; (with_reducible refine H.kc (cL _ H.below) ?_; clear H; intro w H))
  | (go_at_call 27; (with_reducible refine H.kc (cAb _) ?_; clear H; intro w H))
  )
   all_goals
    refine bodyPost_ret (results_ctt rfl rfl (H.res rB v2_ v3_ (by rfl))) rfl ⟨?_, H.below⟩
    rw [hR.out, ← h3.out]
    rfl
theorem addSum_any (f m : Nat) (l : List Nat) (v : Value) (w : World) (hf : f < 256) (hm : m < 256) (hl : ∀ b ∈ l, b < 2 ^ (64 * 2)) (h60 : l.length ≤ 60) (hS : Sl w v l) (hT : Tab w) :
  CR_ 31 #[.int .u8 f, .int .u8 m, v] w (tellS (sumV (addN f m) 0 f m l)) := by
 obtain ⟨-, -, cO⟩ := addOpen0_any f m hf hm
 cases ho : (decide (m < 5) && decide (f < 4))
 ·rw [ho] at cO
  rw [sumV_bad _ _ _ _ _ ho]
  rcases hS with ⟨sa, c, rfl, -, -⟩ | ⟨g, o, n, c, rfl, -, -, -, -⟩
  ·exact addSum_bad f m 0 c sa w hT cO
  ·exact addSum_bad f m n c _ w hT cO
 ·rw [ho] at cO
  rcases hS with ⟨sa, c, rfl, rfl, -⟩ | ⟨g, o, n, c, rfl, h0, hnc, hn, hB⟩
  ·rw [sumV_nil _ _ _ _ ho]
   exact addSum_nil f m c sa w hT cO
  ·rw [sumV_some _ _ _ _ _ ho (ne_nil l n hn h0)]
   exact addSum_some (addN f m) f m l g o n c w hT hB (Lib.hid hl) (Lib.hid hn) (by omega) cO (fun b w hb => shapeFits_any f b w hb) (fun a b w ha hb hT => addAdd_any f m a b w hf hm ha hb hT)
theorem r11Sum_any (f m : Nat) (l : List Nat) (v : Value) (w : World) (hl : ∀ b ∈ l, b < 2 ^ (64 * 2)) (h60 : l.length ≤ 60) (hS : Sl w v l) :
  CR_ 32 #[.int .u8 f, .int .u8 m, v] w (tellS (sumV (addN f m) 0 f m l)) := by
 cases ho : (decide (m < 5) && decide (f < 4))
 ·rw [sumV_bad _ _ _ _ _ ho]
  rw [Bool.and_comm] at ho
  rcases hS with ⟨sa, c, rfl, rfl, -⟩ | ⟨g, o, n, c, rfl, h0, hnc, hn, hB⟩
  ·have cL := fun (w' : World) (_ : Below w.heap.size w w') => r11FitsL_nil f m c sa w'
   rw [ho] at cL
   exact r11Sum_no f m 0 c sa w cL
  ·have cL := fun (w' : World) (hb : Below w.heap.size w w') => r11FitsL_some f m l g o n c w' (hB.below hb hB.lt) (Lib.hid hl) (Lib.hid hn) (by omega)
   rw [ho, Bool.false_and] at cL
   exact r11Sum_no f m n c _ w cL
 ·rcases hS with ⟨sa, c, rfl, rfl, -⟩ | ⟨g, o, n, c, rfl, h0, hnc, hn, hB⟩
  ·rw [sumV_nil _ _ _ _ ho]
   rw [Bool.and_comm] at ho
   have cL := fun (w' : World) (_ : Below w.heap.size w w') => r11FitsL_nil f m c sa w'
   rw [ho] at cL
   exact r11Sum_nil f m c 0 sa w cL
  ·rw [sumV_some _ _ _ _ _ ho (ne_nil l n hn h0)]
   rw [Bool.and_comm] at ho
   have cL := fun (w' : World) (hb : Below w.heap.size w w') => r11FitsL_some f m l g o n c w' (hB.below hb hB.lt) (Lib.hid hl) (Lib.hid hn) (by omega)
   rw [ho, Bool.true_and] at cL
   cases ha : allB f l
   ·rw [ha] at cL
    exact r11Sum_no f m n c _ w cL
   ·rw [ha] at cL
    exact r11Sum_some (addN f m) f m l g o n c w hB (Lib.hid hl) (Lib.hid hn) (by omega) h0 cL (fun a b w ha hb => r11Add_any f m a b w ha hb)
theorem addLists_long (f m n c : Nat) (sa : Option Addr) (w0 : World) (hT : Tab w0) (hd : decide ((60 : Int) < (n : Int)) = true) (cV : CT_ 30 #[] (.bool true))  :
  CR_ 8 #[.int .u8 f, .int .u8 m, .slice sa n c] w0 (.bool true) := by
 have H := Own.start w0
 have HT := Lib.hid hT
 clear hT
 go_enter Tryz.func8, Tryz.ntmps8
 exact walk6
theorem addLists_nil (f m c x : Nat) (fl e0 : Int) (sa : Option Addr) (w0 : World) (hT : Tab w0) (h0 : sa = none → c = 0) (cV : CT_ 30 #[] (.bool true)) (cA : CT_ 31 #[.int .u8 f, .int .u8 m, .slice none 0 0] (.tuple #[BV x, .int .u8 fl, .int .i64 e0])) (cR : CK_ 32 #[.int .u8 f, .int .u8 m, .slice sa 0 c] (.tuple #[BV x, .int .u8 fl, .int .i64 e0])) :
  CR_ 8 #[.int .u8 f, .int .u8 m, .slice sa 0 c] w0 (.bool true) := by
 have H := Own.start w0
 have HT := Lib.hid hT
 clear hT
 go_enter Tryz.func8, Tryz.ntmps8
 go_wp2_with (first
  | ((with_reducible refine g13_ rfl rfl ?_); refine H.xa ?_; (intro gx w H; simp only [Act.put, q1_, q2_, q3_]))
  | ((with_reducible refine g14_ rfl rfl ?_); refine H.xa ?_; (intro gy w H; simp only [Act.put, q1_, q2_, q3_]))
  | ((with_reducible refine g0_ rfl ?_); refine H.xb ?_; (intro g w H; simp only [Act.put, q1_, q2_, q3_]))
  | ((with_reducible refine g1_ rfl ?_); refine H.xa ?_; (intro g w H; simp only [Act.put, q1_, q2_, q3_]))
  | ((with_reducible refine g2_ rfl ?_); (first | refine H.xl ?_ | refine H.xm ?_); simp only [Act.put, q1_, q2_, q3_])
  | ((with_reducible refine g3_ rfl ?_); (first | refine H.xs ?_ | refine H.xt ?_); (intro w H; simp only [Act.put]))
  | ((with_reducible show wpList _ _ _ (⟨_, .call _, _, _, _, _⟩ :: _) _ _); refine app_empty rfl rfl rfl rfl h0 ?_; intro w1 bel; have BEL := H.below.trans (bel.mono H.below.size); have HT1 := Lib.hid (HT.out.below BEL); clear H; have H := Own.start w1; clear bel; simp only [Act.put, q1_, q2_, q3_])
  | (go_at_call 31; (with_reducible refine H.kc (cA _ (HT1.out.below H.below)) ?_; clear H; intro w H))
  | (go_at_call 32; (with_reducible refine H.kc (cR _) ?_; clear H; intro w H))
  | (go_at_call 30; (with_reducible refine H.kc (cV _ (HT1.out.below H.below)) ?_; clear H; intro w H))
  )
 go_loopw [14] (fun i wr => i = .int .i64 0 ∧ Own w1 wr [(gy, 27, bc x), (gx, 27, bc x)]) (fun i _ => 1)
 case atStart => exact ⟨rfl, H⟩
 case round =>
  clear H
  obtain ⟨rfl, H⟩ := hrel
  go_wp2_with (first
  | ((with_reducible refine g13_ rfl rfl ?_); refine H.xa ?_; (intro gx w H; simp only [Act.put, q1_, q2_, q3_]))
  | ((with_reducible refine g14_ rfl rfl ?_); refine H.xa ?_; (intro gy w H; simp only [Act.put, q1_, q2_, q3_]))
  | ((with_reducible refine g0_ rfl ?_); refine H.xb ?_; (intro g w H; simp only [Act.put, q1_, q2_, q3_]))
  | ((with_reducible refine g1_ rfl ?_); refine H.xa ?_; (intro g w H; simp only [Act.put, q1_, q2_, q3_]))
  | ((with_reducible refine g2_ rfl ?_); (first | refine H.xl ?_ | refine H.xm ?_); simp only [Act.put, q1_, q2_, q3_])
  | ((with_reducible refine g3_ rfl ?_); (first | refine H.xs ?_ | refine H.xt ?_); (intro w H; simp only [Act.put]))
  | ((with_reducible show wpList _ _ _ (⟨_, .call _, _, _, _, _⟩ :: _) _ _); refine app_empty rfl rfl rfl rfl h0 ?_; intro w1 bel; have BEL := H.below.trans (bel.mono H.below.size); have HT1 := Lib.hid (HT.out.below BEL); clear H; have H := Own.start w1; clear bel; simp only [Act.put, q1_, q2_, q3_])
  | (go_at_call 31; (with_reducible refine H.kc (cA _ (HT1.out.below H.below)) ?_; clear H; intro w H))
  | (go_at_call 32; (with_reducible refine H.kc (cR _) ?_; clear H; intro w H))
  | (go_at_call 30; (with_reducible refine H.kc (cV _ (HT1.out.below H.below)) ?_; clear H; intro w H))
  )
  all_goals
   go_ret
   exact ⟨by simp, BEL.trans (H.below.mono BEL.size)⟩
theorem addLists_some (f m : Nat) (l : List Nat) (g o n c x : Nat) (fl e0 : Int) (w0 : World) (hT : Tab w0) (hB : Bls w0 g o l) (hn : Hid (l.length = n)) (h0 : 0 < n) (hsm : n ≤ 60) (cV : CT_ 30 #[] (.bool true)) (cA : ∀ w g' c', Tab w → Bls w g' 0 l → n ≤ c' → CR_ 31 #[.int .u8 f, .int .u8 m, .slice (some ⟨g', 0, none⟩) n c'] w (.tuple #[BV x, .int .u8 fl, .int .i64 e0])) (cR : ∀ w, Bls w g o l → CR_ 32 #[.int .u8 f, .int .u8 m, .slice (some ⟨g, o, none⟩) n c] w (.tuple #[BV x, .int .u8 fl, .int .i64 e0])) :
  CR_ 8 #[.int .u8 f, .int .u8 m, .slice (some ⟨g, o, none⟩) n c] w0 (.bool true) := by
 have H := Own.start w0
 have HT := Lib.hid hT
 clear hT
 go_enter Tryz.func8, Tryz.ntmps8
 go_wp2_with (first
  | ((with_reducible refine g13_ rfl rfl ?_); refine H.xa ?_; (intro gx w H; simp only [Act.put, q1_, q2_, q3_]))
  | ((with_reducible refine g14_ rfl rfl ?_); refine H.xa ?_; (intro gy w H; simp only [Act.put, q1_, q2_, q3_]))
  | ((with_reducible refine g0_ rfl ?_); refine H.xb ?_; (intro g w H; simp only [Act.put, q1_, q2_, q3_]))
  | ((with_reducible refine g1_ rfl ?_); refine H.xa ?_; (intro g w H; simp only [Act.put, q1_, q2_, q3_]))
  | ((with_reducible refine g2_ rfl ?_); (first | refine H.xl ?_ | refine H.xm ?_); simp only [Act.put, q1_, q2_, q3_])
  | ((with_reducible refine g3_ rfl ?_); (first | refine H.xs ?_ | refine H.xt ?_); (intro w H; simp only [Act.put]))
  | ((with_reducible show wpList _ _ _ (⟨_, .call _, _, _, _, _⟩ :: _) _ _); refine app_bits rfl rfl rfl rfl h0 hsm hn.out (hB.below H.below hB.lt) ?_; intro gk ck w1 bel hK hB1 hc1; have BEL := H.below.trans (bel.mono H.below.size); have HT1 := Lib.hid (HT.out.below BEL); clear H; have H := Own.start w1; clear bel; simp only [Act.put, q1_, q2_, q3_])
  | ((with_reducible show Code.wp _ (.region 9 _ true) _ _ _); refine H.heldSub rfl (List.Sublist.refl _) ?_; intro H; refine H.zr 0 ?_; (try simp only [Act.put, q1_, q2_, q3_]); (try simp only [q4_, q5_, q6_]); refine H.zr 1 ?_; (try simp only [Act.put, q1_, q2_, q3_]); (try simp only [q4_, q5_, q6_]); refine H.zr 2 ?_ (hv := by intro w; go_simp; first | with_reducible rfl | (rw [if_pos (by omega)])); (try simp only [Act.put, q1_, q2_, q3_]); (try simp only [q4_, q5_, q6_]); refine H.zle 3 hK hb ?_; (try simp only [Act.put, q1_, q2_, q3_]); (try simp only [q4_, q5_, q6_]); refine H.zr 4 ?_; (try simp only [Act.put, q1_, q2_, q3_]); (try simp only [q4_, q5_, q6_]); refine H.zr 5 ?_; (try simp only [Act.put, q1_, q2_, q3_]); (try simp only [q4_, q5_, q6_]); refine H.zr 6 ?_ (hv := by intro w; go_simp; first | with_reducible rfl | (rw [if_pos (by omega)])); (try simp only [Act.put, q1_, q2_, q3_]); (try simp only [q4_, q5_, q6_]); refine H.zle 7 hB1 hb ?_; (try simp only [Act.put, q1_, q2_, q3_]); (try simp only [q4_, q5_, q6_]); refine H.zr 8 ?_; (try simp only [Act.put, q1_, q2_, q3_]); (try simp only [q4_, q5_, q6_]); refine wpAnyH_done (by kernel_rfl) ?_ _)
  | (go_at_call 31; (with_reducible refine H.kc (cA _ _ _ (HT1.out.below H.below) (hK.below H.below hK.lt) hc1) ?_; clear H; intro w H))
  | (go_at_call 32; (with_reducible refine H.kc (cR _ (hB1.below H.below hB1.lt)) ?_; clear H; intro w H))
  | (go_at_call 30; (with_reducible refine H.kc (cV _ (HT1.out.below H.below)) ?_; clear H; intro w H))
  )
 go_loopw [14] (fun i wr => ∃ k : Nat, k ≤ n ∧ i = .int .i64 k ∧ Own w1 wr [(gy, 27, bc x), (gx, 27, bc x)]) (fun i _ => n + 1 - (intOf i).toNat)
 case atStart => exact ⟨0, by omega, rfl, H⟩
 case round =>
  clear H
  obtain ⟨k, hk, rfl, H⟩ := hrel
  by_cases hlt : k < n
  ·obtain ⟨b, hb⟩ : ∃ b, l[k]? = some b := ⟨_, List.getElem?_eq_getElem (by rw [hn.out]; exact hlt)⟩
   have hd : decide ((k : Int) < (n : Int)) = true := by simp; omega
   go_wp2_with (first
  | ((with_reducible refine g13_ rfl rfl ?_); refine H.xa ?_; (intro gx w H; simp only [Act.put, q1_, q2_, q3_]))
  | ((with_reducible refine g14_ rfl rfl ?_); refine H.xa ?_; (intro gy w H; simp only [Act.put, q1_, q2_, q3_]))
  | ((with_reducible refine g0_ rfl ?_); refine H.xb ?_; (intro g w H; simp only [Act.put, q1_, q2_, q3_]))
  | ((with_reducible refine g1_ rfl ?_); refine H.xa ?_; (intro g w H; simp only [Act.put, q1_, q2_, q3_]))
  | ((with_reducible refine g2_ rfl ?_); (first | refine H.xl ?_ | refine H.xm ?_); simp only [Act.put, q1_, q2_, q3_])
  | ((with_reducible refine g3_ rfl ?_); (first | refine H.xs ?_ | refine H.xt ?_); (intro w H; simp only [Act.put]))
  | ((with_reducible show wpList _ _ _ (⟨_, .call _, _, _, _, _⟩ :: _) _ _); refine app_bits rfl rfl rfl rfl h0 hsm hn.out (hB.below H.below hB.lt) ?_; intro gk ck w1 bel hK hB1 hc1; have BEL := H.below.trans (bel.mono H.below.size); have HT1 := Lib.hid (HT.out.below BEL); clear H; have H := Own.start w1; clear bel; simp only [Act.put, q1_, q2_, q3_])
  | ((with_reducible show Code.wp _ (.region 9 _ true) _ _ _); refine H.heldSub rfl (List.Sublist.refl _) ?_; intro H; refine H.zr 0 ?_; (try simp only [Act.put, q1_, q2_, q3_]); (try simp only [q4_, q5_, q6_]); refine H.zr 1 ?_; (try simp only [Act.put, q1_, q2_, q3_]); (try simp only [q4_, q5_, q6_]); refine H.zr 2 ?_ (hv := by intro w; go_simp; first | with_reducible rfl | (rw [if_pos (by omega)])); (try simp only [Act.put, q1_, q2_, q3_]); (try simp only [q4_, q5_, q6_]); refine H.zle 3 hK hb ?_; (try simp only [Act.put, q1_, q2_, q3_]); (try simp only [q4_, q5_, q6_]); refine H.zr 4 ?_; (try simp only [Act.put, q1_, q2_, q3_]); (try simp only [q4_, q5_, q6_]); refine H.zr 5 ?_; (try simp only [Act.put, q1_, q2_, q3_]); (try simp only [q4_, q5_, q6_]); refine H.zr 6 ?_ (hv := by intro w; go_simp; first | with_reducible rfl | (rw [if_pos (by omega)])); (try simp only [Act.put, q1_, q2_, q3_]); (try simp only [q4_, q5_, q6_]); refine H.zle 7 hB1 hb ?_; (try simp only [Act.put, q1_, q2_, q3_]); (try simp only [q4_, q5_, q6_]); refine H.zr 8 ?_; (try simp only [Act.put, q1_, q2_, q3_]); (try simp only [q4_, q5_, q6_]); refine wpAnyH_done (by kernel_rfl) ?_ _)
  | (go_at_call 31; (with_reducible refine H.kc (cA _ _ _ (HT1.out.below H.below) (hK.below H.below hK.lt) hc1) ?_; clear H; intro w H))
  | (go_at_call 32; (with_reducible refine H.kc (cR _ (hB1.below H.below hB1.lt)) ?_; clear H; intro w H))
  | (go_at_call 30; (with_reducible refine H.kc (cV _ (HT1.out.below H.below)) ?_; clear H; intro w H))
  )
   all_goals
    go_roundw
    case rel => exact ⟨k + 1, by omega, by go_num, H⟩
    case measure => first | (simp [intOf]; omega) | simp [intOf]
  ·obtain rfl : k = n := by omega
   have hd : decide ((k : Int) < (k : Int)) = false := by simp
   go_wp2_with (first
  | ((with_reducible refine g13_ rfl rfl ?_); refine H.xa ?_; (intro gx w H; simp only [Act.put, q1_, q2_, q3_]))
  | ((with_reducible refine g14_ rfl rfl ?_); refine H.xa ?_; (intro gy w H; simp only [Act.put, q1_, q2_, q3_]))
  | ((with_reducible refine g0_ rfl ?_); refine H.xb ?_; (intro g w H; simp only [Act.put, q1_, q2_, q3_]))
  | ((with_reducible refine g1_ rfl ?_); refine H.xa ?_; (intro g w H; simp only [Act.put, q1_, q2_, q3_]))
  | ((with_reducible refine g2_ rfl ?_); (first | refine H.xl ?_ | refine H.xm ?_); simp only [Act.put, q1_, q2_, q3_])
  | ((with_reducible refine g3_ rfl ?_); (first | refine H.xs ?_ | refine H.xt ?_); (intro w H; simp only [Act.put]))
  | ((with_reducible show wpList _ _ _ (⟨_, .call _, _, _, _, _⟩ :: _) _ _); refine app_bits rfl rfl rfl rfl h0 hsm hn.out (hB.below H.below hB.lt) ?_; intro gk ck w1 bel hK hB1 hc1; have BEL := H.below.trans (bel.mono H.below.size); have HT1 := Lib.hid (HT.out.below BEL); clear H; have H := Own.start w1; clear bel; simp only [Act.put, q1_, q2_, q3_])
  | ((with_reducible show Code.wp _ (.region 9 _ true) _ _ _); refine H.heldSub rfl (List.Sublist.refl _) ?_; intro H; refine H.zr 0 ?_; (try simp only [Act.put, q1_, q2_, q3_]); (try simp only [q4_, q5_, q6_]); refine H.zr 1 ?_; (try simp only [Act.put, q1_, q2_, q3_]); (try simp only [q4_, q5_, q6_]); refine H.zr 2 ?_ (hv := by intro w; go_simp; first | with_reducible rfl | (rw [if_pos (by omega)])); (try simp only [Act.put, q1_, q2_, q3_]); (try simp only [q4_, q5_, q6_]); refine H.zle 3 hK hb ?_; (try simp only [Act.put, q1_, q2_, q3_]); (try simp only [q4_, q5_, q6_]); refine H.zr 4 ?_; (try simp only [Act.put, q1_, q2_, q3_]); (try simp only [q4_, q5_, q6_]); refine H.zr 5 ?_; (try simp only [Act.put, q1_, q2_, q3_]); (try simp only [q4_, q5_, q6_]); refine H.zr 6 ?_ (hv := by intro w; go_simp; first | with_reducible rfl | (rw [if_pos (by omega)])); (try simp only [Act.put, q1_, q2_, q3_]); (try simp only [q4_, q5_, q6_]); refine H.zle 7 hB1 hb ?_; (try simp only [Act.put, q1_, q2_, q3_]); (try simp only [q4_, q5_, q6_]); refine H.zr 8 ?_; (try simp only [Act.put, q1_, q2_, q3_]); (try simp only [q4_, q5_, q6_]); refine wpAnyH_done (by kernel_rfl) ?_ _)
  | (go_at_call 31; (with_reducible refine H.kc (cA _ _ _ (HT1.out.below H.below) (hK.below H.below hK.lt) hc1) ?_; clear H; intro w H))
  | (go_at_call 32; (with_reducible refine H.kc (cR _ (hB1.below H.below hB1.lt)) ?_; clear H; intro w H))
  | (go_at_call 30; (with_reducible refine H.kc (cV _ (HT1.out.below H.below)) ?_; clear H; intro w H))
  )
   all_goals
    go_ret
    exact ⟨by simp, BEL.trans (H.below.mono BEL.size)⟩
theorem addLists_alive (w : World) (hT : Tab w) (cA : CT_ 26 #[.int .u8 2, .int .u8 0, .agg #[.int .u64 0, .int .u64 15360], .agg #[.int .u64 0, .int .u64 15360]] (.tuple #[.agg #[.int .u64 0, .int .u64 16384], .int .u8 0, .int .i64 0])) :
  CR_ 30 #[] w (.bool true) := by
 have H := Own.start w
 have HT := Lib.hid hT
 clear hT
 go_enter Tryz.func30, Tryz.ntmps30
 exact walk6
theorem addLists_alive_any (w : World) (hT : Tab w) : CR_ 30 #[] w (.bool true) := by
 refine addLists_alive w hT fun w hT => ?_
 have := addAdd_any 2 0 15360 15360 w (by decide) (by decide) (by decide) (by decide) hT
 rw [show addN 2 0 15360 15360 = (16384, 0, 0) by decide +kernel] at this
 exact this
theorem addLists_any (f m : Nat) (l : List Nat) (v : Value) (w : World) (hf : f < 256) (hm : m < 256) (hl : ∀ b ∈ l, b < 2 ^ (64 * 2)) (hS : Sl w v l) (hT : Tab w) :
  CR_ 8 #[.int .u8 f, .int .u8 m, v] w (.bool true) := by
 have cV := fun w hT => addLists_alive_any w hT
 rcases hS with ⟨sa, c, rfl, rfl, h0⟩ | ⟨g, o, n, c, rfl, h0, hnc, hn, hB⟩
 ·exact addLists_nil f m c _ _ _ sa w hT h0 cV (fun w hT => addSum_any f m [] _ w hf hm hl (by decide) (Or.inl ⟨none, 0, rfl, rfl, fun _ => rfl⟩) hT) (fun w => r11Sum_any f m [] _ w hl (by decide) (Or.inl ⟨sa, c, rfl, rfl, h0⟩))
 ·by_cases h60 : n ≤ 60
  ·exact addLists_some f m l g o n c _ _ _ w hT hB (Lib.hid hn) h0 h60 cV (fun w g' c' hT hK hc => addSum_any f m l _ w hf hm hl (by omega) (Or.inr ⟨g', 0, n, c', rfl, h0, hc, hn, hK⟩) hT) (fun w hB => r11Sum_any f m l _ w hl (by omega) (Or.inr ⟨g, o, n, c, rfl, h0, hnc, hn, hB⟩))
  ·exact addLists_long f m n c _ w hT (by simp; omega) cV
open Go.ChangeShapes Go.WideShapes Go.ChangeAt Go.RowKit Go.Deep
theorem open_list {H : Type} {enc : TypeId × Value → H} {W : World} {r : Reach} {base b0 : Nat} {spare : Nat → Bool} {held : Bool} {v : Value} {d : DataW H} {p : List MemPlace}
  (hv : Value.okWide Tryz.prog W r b0 48 v) (h : DataW.Trod enc Tryz.prog W base spare held 48 v d p) : ∃ l : List Nat, (∀ b ∈ l, b < 2 ^ (64 * 2)) ∧ Sl W v l := by
 obtain ⟨a0, len0, cap0, rfl⟩ := okWide_slice Tryz.underlying48 hv
 obtain ⟨m, hm⟩ := h
 have hm' : DataW.trod enc Tryz.prog W base spare held m 48 [.slice a0 len0 cap0] = some (d, p) := hm
 have cu : Tryz.prog.cellsOf 25 = 1 := by kernel_rfl
 rcases open_slice_pairs Tryz.underlying48 Tryz.underlying27 bits_cells rfl rfl cu cu hm' with ⟨h0, -⟩ | ⟨ad, len, cap, q, n, V0, V1, D0, D1, P0, P1, hcs, -, hl, -, hq, -, hall⟩
 ·simp only [List.cons.injEq, and_true] at h0
  exact ⟨[], (by intro b hb; cases hb), Or.inl ⟨none, 0, h0, rfl, fun _ => rfl⟩⟩
 ·simp only [List.cons.injEq, and_true] at hcs
  have hlq : len ≤ q := by rw [hq]; split <;> omega
  rcases Nat.eq_zero_or_pos len with rfl | hpos
  ·exact ⟨[], (by intro b hb; cases hb), Or.inl ⟨some ad, cap, hcs, rfl, fun h => by cases h⟩⟩
  obtain ⟨g, o, spot⟩ := ad
  have hspot : spot = none := by simpa [Addr.add] using World.cell?_spot (hall 0 (by omega)).1
  subst hspot
  have each : ∀ i, i < q → ∃ b : Nat, b < 2 ^ (64 * 2) ∧ V0 i = .int .u64 (limb b 1) ∧ V1 i = .int .u64 (limb b 0) := by
   intro i hi
   obtain ⟨-, -, t0, t1⟩ := hall i hi
   obtain ⟨x, e0, -, wx⟩ := DataW.trod_int Tryz.underlying25 t0
   obtain ⟨y, e1, -, wy⟩ := DataW.trod_int Tryz.underlying25 t1
   simp only [List.cons.injEq, and_true] at e0 e1
   have bx := bounds_u64 wx
   have bY := bounds_u64 wy
   obtain ⟨x', rfl⟩ : ∃ x' : Nat, x = x' := ⟨x.toNat, by omega⟩
   obtain ⟨y', rfl⟩ : ∃ y' : Nat, y = y' := ⟨y.toNat, by omega⟩
   obtain ⟨b, hb, hlt⟩ := two_words x' y' (by omega) (by omega)
   injection hb with hb
   have h2 := congrArg Array.toList hb
   simp only [List.cons.injEq, and_true] at h2
   exact ⟨b, hlt, by rw [e0, h2.1], by rw [e1, h2.2]⟩
  obtain ⟨B, hB⟩ := choose_lt each
  refine ⟨(List.range len).map B, ?_, Or.inr ⟨g, o, len, cap, hcs, hpos, hl, by simp, ?_, ?_⟩⟩
  ·intro b hb
   obtain ⟨i, hi, rfl⟩ := List.mem_map.1 hb
   exact (hB i (by have := List.mem_range.1 hi; omega)).1
  ·exact World.block_lt_of_cell? W _ (hall 0 (by omega)).1
  ·intro k b hk
   have hkl : k < len := by have := (List.getElem?_eq_some_iff.1 hk).1; simpa using this
   have hbk : B k = b := by simpa [hkl] using hk
   obtain ⟨c0, c1, -, -⟩ := hall k (by omega)
   obtain ⟨-, v0, v1⟩ := hB k (by omega)
   rw [Addr.add_mid] at c0 c1
   rw [v0, hbk] at c0
   rw [v1, hbk] at c1
   exact range_two c0 c1
end Go.Proofs.YtgmhmpflmgfcdaaGreatDoor
