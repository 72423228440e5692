/- Part 53 of the proof. -/
import Derived.OwnWalk
import Derived.Test.YtgmhmpflmgfcdaaGreatDoorHq5
import Derived.Test.YtgmhmpflmgfcdaaGreatDoorHq37
set_option linter.unusedSimpArgs false
set_option linter.unusedVariables false
set_option linter.unnecessarySimpa false
set_option maxRecDepth 100000
set_option maxHeartbeats 3200000
namespace Go.Proofs.YtgmhmpflmgfcdaaGreatDoor
open Go.RowKit
def Sl (w : World) (v : Value) (l : List Nat) : Prop :=
 (∃ sa c, v = .slice sa 0 c ∧ l = [] ∧ (sa = none → c = 0)) ∨ ∃ g o n c, v = .slice (some ⟨g, o, none⟩) n c ∧ 0 < n ∧ n ≤ c ∧ l.length = n ∧ Bls w g o l
def cellsL (l : List Nat) : List Value := l.flatMap fun b => [.int .u64 (limb b 1), .int .u64 (limb b 0)]
theorem cellsL_cons (b : Nat) (l : List Nat) : cellsL (b :: l) = .int .u64 (limb b 1) :: .int .u64 (limb b 0) :: cellsL l := rfl
theorem cellsL_len (l : List Nat) : (cellsL l).length = l.length * 2 := by
 induction l with
 | nil => rfl
 | cons b r ih => rw [cellsL_cons, List.length_cons, List.length_cons, ih, List.length_cons]; omega
theorem cellsL_get (l : List Nat) : ∀ (k b : Nat), l[k]? = some b → (cellsL l)[k * 2]? = some (.int .u64 (limb b 1)) ∧ (cellsL l)[k * 2 + 1]? = some (.int .u64 (limb b 0)) := by
 induction l with
 | nil => intro k b h; simp at h
 | cons c r ih =>
  intro k b h
  cases k with
  | zero =>
   rw [List.getElem?_cons_zero] at h
   injection h with h
   subst h
   exact ⟨rfl, rfl⟩
  | succ k =>
   rw [List.getElem?_cons_succ] at h
   have := ih k b h
   rw [cellsL_cons, show (k + 1) * 2 = k * 2 + 1 + 1 by omega, List.getElem?_cons_succ, List.getElem?_cons_succ, List.getElem?_cons_succ, List.getElem?_cons_succ]
   exact this
theorem cellsL_all (l : List Nat) : ∀ (j : Nat) (u : Value), (cellsL l)[j]? = some u → ∃ k b, l[k]? = some b ∧ ((j = k * 2 ∧ u = .int .u64 (limb b 1)) ∨ (j = k * 2 + 1 ∧ u = .int .u64 (limb b 0))) := by
 intro j u h
 have hj : j < (cellsL l).length := (List.getElem?_eq_some_iff.1 h).1
 rw [cellsL_len] at hj
 obtain ⟨b, hb⟩ : ∃ b, l[j / 2]? = some b := ⟨_, List.getElem?_eq_getElem (by omega)⟩
 have hg := cellsL_get l _ b hb
 rcases Nat.mod_two_eq_zero_or_one j with e | e
 ·refine ⟨j / 2, b, hb, Or.inl ⟨by omega, ?_⟩⟩
  have e1 : j / 2 * 2 = j := by omega
  rw [e1, h] at hg
  injection hg.1
 ·refine ⟨j / 2, b, hb, Or.inr ⟨by omega, ?_⟩⟩
  have e1 : j / 2 * 2 + 1 = j := by omega
  rw [e1, h] at hg
  injection hg.2
theorem range_two {w : World} {g o : Nat} {x y : Value} (h0 : w.cell? ⟨g, o, none⟩ = some x) (h1 : w.cell? ⟨g, o + 1, none⟩ = some y) : w.rangeAt g o [x, y] := by
 intro j v hj
 match j with
 | 0 => simp only [List.getElem?_cons_zero] at hj; rw [← hj]; exact h0
 | 1 => simp only [List.getElem?_cons_succ, List.getElem?_cons_zero] at hj; rw [← hj]; exact h1
 | j + 2 => simp at hj
theorem bits_info : (Tryz.prog.info? 27).map (fun i => (i.zero, i.size, i.bytes)) = some (some (.agg #[.int .u64 0, .int .u64 0]), 2, 16) := by kernel_rfl
section
variable {ops : Array Oper} {rest : List Oper} {op : Oper} {a : Act} {w : World} {Q : Exit → Act → World → Prop} {s x : Operand}
theorem app_bits (hgd : op.guard = none) (ho : op.op = .call { callee := .builtin .append, args := #[s, x], argTypes := #[48, 48] }) (hs : a.eval s = .slice none 0 0) {g o n c : Nat} {l : List Nat}
  (hx : a.eval x = .slice (some ⟨g, o, none⟩) n c) (h0 : 0 < n) (hn : n ≤ 60) (hl : l.length = n) (hb : Bls w g o l)
  (h : ∀ g' c' w', Below w.heap.size w w' → Bls w' g' 0 l → Bls w' g o l → n ≤ c' → wpList Tryz.prog ops Q rest (a.put op.dst (.slice (some ⟨g', 0, none⟩) n c')) w') : wpList Tryz.prog ops Q (op :: rest) a w := by
 obtain ⟨i, hi, hz, hsz, hby⟩ := info_parts bits_info
 refine wpList_append_own w hgd s x _ ho w.heap.size _ i _ 2 16 Tryz.underlying48 hi hz hsz hby rfl (by decide) _ 0 [] hs (World.ownsRow_nil _ _ _ _) ⟨g, o, none⟩ n c (cellsL l) hx (by rw [cellsL_len, hl]) ?_ ?_ (by simp only [maxLen]; omega) (by omega) (Nat.le_refl _) ?_
 ·intro j u hj
  rw [Addr.add_mid]
  obtain ⟨k, b, hk, ⟨rfl, rfl⟩ | ⟨rfl, rfl⟩⟩ := cellsL_all l j u hj
  ·have := hb.elem k b hk 0 _ rfl
   exact this
  ·have := hb.elem k b hk 1 _ rfl
   rw [show o + k * 2 + 1 = o + (k * 2 + 1) by omega] at this
   exact this
 ·intro u hu
  obtain ⟨j, hj⟩ := List.mem_iff_getElem?.1 hu
  obtain ⟨k, b, hk, ⟨-, rfl⟩ | ⟨-, rfl⟩⟩ := cellsL_all l j u hj <;> rfl
 ·intro v' w' hown hgrow _
  obtain ⟨hlen, h2⟩ := hown
  rw [Nat.zero_add, List.nil_append] at *
  rcases h2 with ⟨rfl, h3⟩ | ⟨g', cap, cur, rfl, hg, hh, hc, hm, hcs, ht⟩
  ·exact absurd h3 (by omega)
  ·have bel : Below w.heap.size w w' := ⟨hgrow.os, hgrow.tape, hgrow.output, hgrow.size, fun k hk => hgrow.block k hk (by simp [Value.ownBlock])⟩
   have hB : Blk 27 w' g' cur := hh
   refine h g' cap w' bel ⟨hB.lt, fun k b hk => ?_⟩ (hb.below bel hb.lt) hc
   have hkn : k < n := by rw [← hl]; exact (List.getElem?_eq_some_iff.1 hk).1
   have hget := cellsL_get l k b hk
   have cell : ∀ j u, j < n * 2 → (cellsL l)[j]? = some u → w'.cell? ⟨g', j, none⟩ = some u := by
    intro j u hj hu
    refine hB.cell j ?_
    rw [← ht, List.getElem?_take_of_lt hj, Array.getElem?_toList] at hu
    exact hu
   rw [Nat.zero_add]
   exact range_two (cell _ _ (by omega) hget.1) (cell _ _ (by omega) hget.2)
theorem app_empty (hgd : op.guard = none) (ho : op.op = .call { callee := .builtin .append, args := #[s, x], argTypes := #[48, 48] }) (hs : a.eval s = .slice none 0 0) {sa : Option Addr} {c : Nat}
  (hx : a.eval x = .slice sa 0 c) (h0 : sa = none → c = 0) (h : ∀ w', Below w.heap.size w w' → wpList Tryz.prog ops Q rest (a.put op.dst (.slice none 0 0)) w') : wpList Tryz.prog ops Q (op :: rest) a w := by
 obtain ⟨i, hi, hz, hsz, hby⟩ := info_parts bits_info
 cases sa with
 | none =>
  rw [h0 rfl] at hx
  exact wpList_append_own_none hgd s x _ ho w.heap.size _ i 2 Tryz.underlying48 hi _ 0 [] hs (World.ownsRow_nil _ _ _ _) hx (h w (Below.refl _ _))
 | some ad =>
  refine wpList_append_own w hgd s x _ ho w.heap.size _ i _ 2 16 Tryz.underlying48 hi hz hsz hby rfl (by decide) _ 0 [] hs (World.ownsRow_nil _ _ _ _) ad 0 c [] hx rfl ?_ ?_ (by decide) (by decide) (Nat.le_refl _) ?_
  ·intro j u hj; simp at hj
  ·intro u hu; simp at hu
  ·intro v' w' _ hgrow hiff
   obtain rfl := hiff.2 ⟨rfl, rfl⟩
   exact h w' ⟨hgrow.os, hgrow.tape, hgrow.output, hgrow.size, fun k hk => hgrow.block k hk (by simp [Value.ownBlock])⟩
end
end Go.Proofs.YtgmhmpflmgfcdaaGreatDoor
