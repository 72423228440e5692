/- The contract of csr.Text at every set of flags: the words of its bits, joined. -/
import Derived.Test.YthfoffiebifpcaaRows
import Derived.Test.YthfoffiebifpcaaShelf
import Derived.Test.YthfoffiebifpcaaArr
import Derived.WalkKit
import Derived.WalkSpells
import Derived.WalkLawsBesides
import Derived.Handy
import Derived.Lib.Hide
namespace Go.Proofs.Ythfoffiebifpcaa
open Go.RowKit

/-- The word of the flag that stands at place k, from above. -/
def wordB : Nat → ByteArray
  | 0 => ⟨#[110, 118]⟩
  | 1 => ⟨#[100, 122]⟩
  | 2 => ⟨#[111, 102]⟩
  | 3 => ⟨#[117, 102]⟩
  | _ => ⟨#[110, 120]⟩

/-- The words of the flags among the first k places. -/
def selB (f : Int) : Nat → List ByteArray
  | 0 => []
  | k + 1 => if (Go.bits .and .u8 (f / 2 ^ (4 - k)) 1 == 1) = true then selB f k ++ [wordB k] else selB f k

theorem selB_len (f : Int) (k : Nat) : (selB f k).length ≤ k := by
  induction k with
  | zero => simp [selB]
  | succ k ih =>
    unfold selB
    split
    · simp; omega
    · omega

theorem info9 : (Try.prog.info? 9).map (fun i => (i.zero, i.size, i.bytes)) = some (some (.string ⟨#[]⟩), 1, 16) := by kernel_rfl

abbrev words5 : Array Value := #[.string ⟨#[110, 118]⟩, .string ⟨#[100, 122]⟩, .string ⟨#[111, 102]⟩, .string ⟨#[117, 102]⟩, .string ⟨#[110, 120]⟩]

theorem run_word (w : World) (k : Nat) (hk : k < 5) : (Instr.index 60 (.agg words5) (.int .i64 k)).run Try.prog w = .ok (.string (wordB k)) w := by
  refine run_index_arr _ Try.underlying60 Try.isAgg9 Try.sizeOf9 hk ?_
  have h : k = 0 ∨ k = 1 ∨ k = 2 ∨ k = 3 ∨ k = 4 := by omega
  rcases h with rfl | rfl | rfl | rfl | rfl <;> rfl

/-- The text of a set of flags. -/
def textB (f : Int) : ByteArray := if selB f 5 = [] then ⟨#[45]⟩ else ⟨(Lib.join ((selB f 5).map (·.data.toList)) [43]).toArray⟩
theorem textB_nil {f : Int} (h : selB f 5 = []) : textB f = ⟨#[45]⟩ := if_pos h
theorem textB_cons {f : Int} (h : selB f 5 ≠ []) : textB f = ⟨(Lib.join ((selB f 5).map (·.data.toList)) [43]).toArray⟩ := if_neg h

theorem wordB_len (k : Nat) : (wordB k).data.toList.length = 2 := by unfold wordB; split <;> rfl
theorem selB_all (f : Int) (k : Nat) : ∀ b ∈ selB f k, b.data.toList.length = 2 := by
  induction k with
  | zero => simp [selB]
  | succ k ih =>
    unfold selB
    split
    · intro b hb
      rcases List.mem_append.1 hb with h | h
      · exact ih b h
      · simp at h; subst h; exact wordB_len k
    · exact ih
theorem joinTail_le (sep : List UInt8) (m : Nat) (l : List (List UInt8)) (h : ∀ x ∈ l, x.length ≤ m) : (Lib.joinTail sep l).length ≤ (m + sep.length) * l.length := by
  induction l with
  | nil => simp [Lib.joinTail]
  | cons x l ih =>
    have hx := h x (by simp)
    have hr := ih (fun y hy => h y (by simp [hy]))
    simp only [Lib.joinTail, List.map_cons, List.flatten_cons, List.length_append, List.length_cons] at hr ⊢
    rw [Nat.mul_succ]
    omega
theorem join_le (sep : List UInt8) (m : Nat) (l : List (List UInt8)) (h : ∀ x ∈ l, x.length ≤ m) : (Lib.join l sep).length ≤ (m + sep.length) * l.length := by
  cases l with
  | nil => simp [Lib.join_nil]
  | cons x l =>
    have hx := h x (by simp)
    have hr := joinTail_le sep m l (fun y hy => h y (by simp [hy]))
    rw [Lib.join_cons, List.length_append, List.length_cons, Nat.mul_succ]
    omega
theorem text_len (f : Int) : (Lib.join ((selB f 5).map (·.data.toList)) [43]).length ≤ 140737488355328 := by
  have h := join_le [43] 2 ((selB f 5).map (·.data.toList)) (by
    intro x hx
    obtain ⟨b, hb, rfl⟩ := List.mem_map.1 hx
    exact Nat.le_of_eq (selB_all f 5 b hb))
  have h5 := selB_len f 5
  simp only [List.length_map, List.length_cons, List.length_nil] at h
  omega

set_option maxHeartbeats 1600000 in
set_option maxRecDepth 100000 in
theorem text_any (f : Int) (w : World) (h0 : 0 ≤ f) (h1 : f ≤ 31) :
    Calls Try.prog 26 #[.int .u8 f] w fun e w' => e = .returned (.tuple #[.string (textB f), .int .i64 0]) ∧ Below w.heap.size w w' := by
  obtain ⟨i0, hi, hz0, hz1, hz2⟩ := info_parts info9
  go_enter Try.func26, Try.ntmps26
  go_wp2
  go_loopw [4, 10] (fun v i wr => ∃ k : Nat, k ≤ 5 ∧ i = .int .i64 k ∧ wr.ownsRow w.heap.size 9 1 v (selB f k).length ((selB f k).map Value.string) ∧ Below w.heap.size w wr) (fun _ i _ => 5 - (intOf i).toNat)
  case atStart => exact ⟨0, Nat.zero_le _, rfl, World.ownsRow_nil _ _ _ _, Below.refl _ _⟩
  case round =>
    obtain ⟨k, hk, rfl, hown, hb⟩ := hrel
    by_cases hlt : k < 5
    · have hw := run_word wr k hlt
      have hsl := selB_len f k
      go_wp2_with (at_builtin; refine wpList_append_own _ rfl _ _ 58 rfl w.heap.size 9 i0 (.string ⟨#[]⟩) 1 16 Try.underlying58 hi hz0 hz1 hz2 rfl (by decide) _ _ _ rfl (hown.alloc _) ⟨wr.heap.size, 0, none⟩ 1 1 [.string (wordB k)] rfl rfl ?c1 ?c2 ?c3 ?c4 ?c5 ?_)
      case c1 =>
        intro j u hj
        match j, hj with
        | 0, hj => simp at hj; subst hj; simp [Addr.add]
      case c2 => intro u hu; simp at hu; subst hu; rfl
      case c3 => unfold maxLen; omega
      case c4 => omega
      case c5 => have := hb.size; simp; omega
      · intro v' w1 hown' hgrow _
        have ht : (Go.bits .and .u8 (f / 2 ^ (4 - k)) 1 == 1) = true := by assumption
        have hs : selB f (k + 1) = selB f k ++ [wordB k] := by rw [selB, if_pos ht]
        have R : w1.ownsRow w.heap.size 9 1 v' (selB f (k + 1)).length ((selB f (k + 1)).map Value.string) := by
          rw [hs]; simpa using hown'
        have hb1 : Below w.heap.size w w1 := (hb.alloc (by have := hb.size; omega) _).grown hgrow (by simp; have := hb.size; omega) (fun j hj => by have := (hown.lt j hj).1; omega)
        clear hown' hgrow hown hs
        go_wp2
        go_roundw
        case rel => exact ⟨k + 1, by omega, by go_num, R, hb1⟩
        case measure => simp [intOf]; omega
      · have ht : (Go.bits .and .u8 (f / 2 ^ (4 - k)) 1 == 1) = false := by assumption
        have hs : selB f (k + 1) = selB f k := by rw [selB, if_neg (by rw [ht]; simp)]
        go_roundw
        case rel => exact ⟨k + 1, by omega, by go_num, by rw [hs]; exact hown, hb⟩
        case measure => simp [intOf]; omega
    · have hk5 : k = 5 := by omega
      subst hk5
      rcases hown.2 with ⟨rfl, hn⟩ | ⟨g, cap, cur, rfl, hg1, hg2, hg3, hg4, hg5, hg6⟩
      · have hl := textB_nil (List.eq_nil_of_length_eq_zero hn)
        have HL := Lib.hid hl
        clear hl hn hown
        go_wp2_with fail
        go_ret2
        exact ⟨by rw [HL.out]; rfl, hb⟩
      · by_cases hl : selB f 5 = []
        · have ht := textB_nil hl
          have HT := Lib.hid ht
          have hn : (selB f 5).length = 0 := by rw [hl]; rfl
          rw [hn]
          clear hl ht hown hn hg6
          go_wp2_with fail
          go_ret2
          exact ⟨by rw [HT.out]; rfl, hb⟩
        · have ht := textB_cons hl
          have hlen := text_len f
          have HT := Lib.hid ht
          have hn : ((selB f 5).length == 0) = false := by
            rw [beq_eq_false_iff_ne]; intro h; exact hl (List.eq_nil_of_length_eq_zero h)
          have hn2 : (((selB f 5).length : Int) == 0) = false := by
            rw [beq_eq_false_iff_ne]; intro h; exact hl (List.eq_nil_of_length_eq_zero (by omega))
          have hcells := hown.cells (g := g) rfl
          have HC := Lib.hid hcells
          have hsl := selB_len f 5
          have hbg : g < wr.heap.size := (Array.getElem?_eq_some_iff.1 hg2).1
          clear hl ht hown hg6 hcells
          go_wp2_with fail
          refine (Try.strings_Join g 0 cap (selB f 5) ⟨#[43]⟩ _ ?_ hbg (by omega) hg3 hlen).mono ?_
          · intro j x hx
            have := HC.out j (.string x) (by simp [hx])
            have e : (⟨g, 0, none⟩ : Addr).add j = ⟨g, 0 + j, none⟩ := by unfold Addr.add; split <;> simp_all
            rw [e] at this
            exact this
          rintro e w1 ⟨rfl, hb1⟩
          go_wp2
          go_ret2
          exact ⟨by rw [HT.out]; rfl, hb.trans (hb1.mono hb.size)⟩
end Go.Proofs.Ythfoffiebifpcaa
