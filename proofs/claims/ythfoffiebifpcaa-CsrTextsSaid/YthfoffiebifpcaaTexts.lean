/- The walk of CsrTexts. -/
import Derived.Test.YthfoffiebifpcaaRef4
import Derived.Test.YthfoffiebifpcaaLives
namespace Go.Proofs.Ythfoffiebifpcaa
open Go.RowKit

theorem text_hi (f : Int) (w : World) (h0 : 31 < f) (h1 : f < 256) :
    Calls Try.prog 26 #[.int .u8 f] w fun e w' => e = .returned (.tuple #[.string ⟨#[]⟩, .int .i64 2]) ∧ Below w.heap.size w w' := by
  go_enter Try.func26, Try.ntmps26
  go_wp2
  go_ret2
  exact ⟨rfl, Below.refl _ _⟩
theorem rtext_hi (f : Int) (w : World) (h0 : 31 < f) (h1 : f < 256) :
    Calls Try.prog 27 #[.int .u8 f] w fun e w' => e = .returned (.tuple #[.string ⟨#[]⟩, .int .i64 2]) ∧ Below w.heap.size w w' := by
  go_enter Try.func27, Try.ntmps27
  go_wp2
  go_ret2
  exact ⟨rfl, (Below.refl _ _).alloc (Nat.le_refl _) _⟩
def textM (f : Int) : ByteArray × Int := if f ≤ 31 then (textB f, 0) else (⟨#[]⟩, 2)
theorem text_all (f : Int) (w : World) (h0 : 0 ≤ f) (h1 : f < 256) :
    Calls Try.prog 26 #[.int .u8 f] w fun e w' => e = .returned (.tuple #[.string (textM f).1, .int .i64 (textM f).2]) ∧ Below w.heap.size w w' := by
  by_cases h : f ≤ 31
  · rw [show textM f = (textB f, 0) by simp [textM, h]]; exact text_any f w h0 h
  · rw [show textM f = (⟨#[]⟩, 2) by simp [textM, h]]; exact text_hi f w (by omega) h1
theorem rtext_all (f : Int) (w : World) (h0 : 0 ≤ f) (h1 : f < 256) :
    Calls Try.prog 27 #[.int .u8 f] w fun e w' => e = .returned (.tuple #[.string (textM f).1, .int .i64 (textM f).2]) ∧ Below w.heap.size w w' := by
  by_cases h : f ≤ 31
  · rw [show textM f = (textB f, 0) by simp [textM, h]]; exact rtext_any f w h0 h
  · rw [show textM f = (⟨#[]⟩, 2) by simp [textM, h]]; exact rtext_hi f w (by omega) h1

/-- The first set of flags whose text is s, from k on. -/
def firstB (s : ByteArray) : Nat → Nat → Int × Int
  | 0, _ => (0, 212)
  | d + 1, k => if textB k = s then (k, 0) else firstB s d (k + 1)

set_option maxHeartbeats 1600000 in
set_option maxRecDepth 100000 in
theorem readtext_any (s : ByteArray) (w : World) :
    Calls Try.prog 28 #[.string s] w fun e w' => e = .returned (.tuple #[.int .u8 (firstB s 32 0).1, .int .i64 (firstB s 32 0).2]) ∧ Below w.heap.size w w' := by
  go_enter Try.func28, Try.ntmps28
  go_wp2_with fail
  go_loopw [4] (fun v wr => ∃ k : Nat, k ≤ 32 ∧ v = .int .u8 k ∧ Hid (firstB s (32 - k) k = firstB s 32 0) ∧ Below w.heap.size w wr) (fun v _ => 32 - (intOf v).toNat)
  case atStart => exact ⟨0, by omega, rfl, rfl, Below.refl _ _⟩
  case round =>
    obtain ⟨k, hk, rfl, HF, hb⟩ := hrel
    by_cases hlt : k < 32
    · have hst : firstB s (32 - k) k = if textB k = s then ((k : Int), 0) else firstB s (32 - (k + 1)) (k + 1) := by
        rw [show 32 - k = (32 - (k + 1)) + 1 by omega]; rfl
      by_cases he : textB k = s
      · rw [if_pos he] at hst
        have HF2 := Lib.hid (HF.out.symm.trans hst)
        have HE := Lib.hid he
        clear hst he HF
        go_wp2_with fail
        refine (text_any k _ (by omega) (by omega)).mono ?_
        rw [HE.out]
        rintro e w1 ⟨rfl, hb1⟩
        go_wp2_with fail
        go_ret2
        exact ⟨by rw [HF2.out]; rfl, hb.trans (hb1.mono hb.size)⟩
      · rw [if_neg he] at hst
        have HF2 := Lib.hid (hst.symm.trans HF.out)
        have hn2 : ((textB k).toList == s.toList) = false := by
          rw [beq_eq_false_iff_ne]; intro h; exact he (ByteArray.ext (Array.ext' (by rw [← ByteArray.toList_eq, ← ByteArray.toList_eq]; exact h)))
        have hn3 : ¬ (textB k).toList = s.toList := by simpa using hn2
        clear hst he HF
        go_wp2_with fail
        refine (text_any k _ (by omega) (by omega)).mono ?_
        rintro e w1 ⟨rfl, hb1⟩
        go_wp2_with fail
        go_roundw
        case rel => exact ⟨k + 1, by omega, by go_num, HF2, hb.trans (hb1.mono hb.size)⟩
        case measure => simp [intOf]; omega
    · have : k = 32 := by omega
      subst this
      have HF2 := Lib.hid (show firstB s 32 0 = (0, 212) from HF.out.symm)
      clear HF
      go_wp2_with fail
      go_ret2
      exact ⟨by rw [HF2.out]; rfl, hb⟩

set_option maxHeartbeats 1600000 in
set_option maxRecDepth 100000 in
theorem rreadtext_any (s : ByteArray) (w : World) :
    Calls Try.prog 29 #[.string s] w fun e w' => e = .returned (.tuple #[.int .u8 (firstB s 32 0).1, .int .i64 (firstB s 32 0).2]) ∧ Below w.heap.size w w' := by
  go_enter Try.func29, Try.ntmps29
  go_wp2_with fail
  go_loopw [4] (fun v wr => ∃ k : Nat, k ≤ 32 ∧ v = .int .u8 k ∧ Hid (firstB s (32 - k) k = firstB s 32 0) ∧ Below w.heap.size w wr) (fun v _ => 32 - (intOf v).toNat)
  case atStart => exact ⟨0, by omega, rfl, rfl, Below.refl _ _⟩
  case round =>
    obtain ⟨k, hk, rfl, HF, hb⟩ := hrel
    by_cases hlt : k < 32
    · have hst : firstB s (32 - k) k = if textB k = s then ((k : Int), 0) else firstB s (32 - (k + 1)) (k + 1) := by
        rw [show 32 - k = (32 - (k + 1)) + 1 by omega]; rfl
      by_cases he : textB k = s
      · rw [if_pos he] at hst
        have HF2 := Lib.hid (HF.out.symm.trans hst)
        have HE := Lib.hid he
        clear hst he HF
        go_wp2_with fail
        refine (rtext_any k _ (by omega) (by omega)).mono ?_
        rw [HE.out]
        rintro e w1 ⟨rfl, hb1⟩
        go_wp2_with fail
        go_ret2
        exact ⟨by rw [HF2.out]; rfl, hb.trans (hb1.mono hb.size)⟩
      · rw [if_neg he] at hst
        have HF2 := Lib.hid (hst.symm.trans HF.out)
        have hn2 : ((textB k).toList == s.toList) = false := by
          rw [beq_eq_false_iff_ne]; intro h; exact he (ByteArray.ext (Array.ext' (by rw [← ByteArray.toList_eq, ← ByteArray.toList_eq]; exact h)))
        have hn3 : ¬ (textB k).toList = s.toList := by simpa using hn2
        clear hst he HF
        go_wp2_with fail
        refine (rtext_any k _ (by omega) (by omega)).mono ?_
        rintro e w1 ⟨rfl, hb1⟩
        go_wp2_with fail
        go_roundw
        case rel => exact ⟨k + 1, by omega, by go_num, HF2, hb.trans (hb1.mono hb.size)⟩
        case measure => simp [intOf]; omega
    · have : k = 32 := by omega
      subst this
      have HF2 := Lib.hid (show firstB s 32 0 = (0, 212) from HF.out.symm)
      clear HF
      go_wp2_with fail
      go_ret2
      exact ⟨by rw [HF2.out]; rfl, hb⟩

def nameB (n : Int) : ByteArray := if n = 1 then ⟨#[102, 102, 108, 97, 103, 115]⟩ else if n = 2 then ⟨#[102, 114, 109]⟩ else ⟨#[102, 99, 115, 114]⟩
theorem name_no (n : Int) (w : World) (h : n < 1 ∨ 3 < n) :
    Calls Try.prog 22 #[.int .i64 n] w fun e w' => e = .returned (.tuple #[.string ⟨#[]⟩, .int .i64 210]) ∧ Below w.heap.size w w' := by
  rcases h with h | h
  · go_enter Try.func22, Try.ntmps22
    go_wp2
    go_ret2
    exact ⟨rfl, Below.refl _ _⟩
  · have h' : ¬ n < 1 := by omega
    go_enter Try.func22, Try.ntmps22
    go_wp2
    go_ret2
    exact ⟨rfl, Below.refl _ _⟩
theorem rname_no (n : Int) (w : World) (h : n < 1 ∨ 3 < n) :
    Calls Try.prog 23 #[.int .i64 n] w fun e w' => e = .returned (.tuple #[.string ⟨#[]⟩, .int .i64 210]) ∧ Below w.heap.size w w' := by
  rcases h with h | h
  · go_enter Try.func23, Try.ntmps23
    go_wp2
    go_ret2
    exact ⟨rfl, Below.refl _ _⟩
  · have h' : ¬ n < 1 := by omega
    go_enter Try.func23, Try.ntmps23
    go_wp2
    go_ret2
    exact ⟨rfl, Below.refl _ _⟩
abbrev names4 : Array Value := #[.string ⟨#[]⟩, .string ⟨#[102, 102, 108, 97, 103, 115]⟩, .string ⟨#[102, 114, 109]⟩, .string ⟨#[102, 99, 115, 114]⟩]
def name4 : Nat → ByteArray
  | 0 => ⟨#[]⟩
  | 1 => ⟨#[102, 102, 108, 97, 103, 115]⟩
  | 2 => ⟨#[102, 114, 109]⟩
  | _ => ⟨#[102, 99, 115, 114]⟩
theorem run_name (w : World) (k : Nat) (hk : k < 4) : (Instr.index 56 (.agg names4) (.int .i64 k)).run Try.prog w = .ok (.string (name4 k)) w := by
  refine run_index_arr _ Try.underlying56 Try.isAgg9 Try.sizeOf9 hk ?_
  have h : k = 0 ∨ k = 1 ∨ k = 2 ∨ k = 3 := by omega
  rcases h with rfl | rfl | rfl | rfl <;> rfl
theorem names_any (w : World) : Calls Try.prog 32 #[] w fun e w' => e = .returned (.agg names4) ∧ Below w.heap.size w w' := by
  go_enter Try.func32, Try.ntmps32
  go_wp2
  refine bodyPost_ret (v := .agg names4) (by simp [results, Try.results32, go_sem]) rfl ?_
  exact ⟨rfl, (Below.refl _ _).alloc (Nat.le_refl _) _⟩
theorem name_ok (n : Int) (w : World) (h : 1 ≤ n) (h3 : n ≤ 3) :
    Calls Try.prog 22 #[.int .i64 n] w fun e w' => e = .returned (.tuple #[.string (nameB n), .int .i64 0]) ∧ Below w.heap.size w w' := by
  have : n = 1 ∨ n = 2 ∨ n = 3 := by omega
  rcases this with rfl | rfl | rfl
  · have i0 : ∀ w, (Instr.index 56 (.agg #[.string ⟨#[]⟩, .string ⟨#[102, 102, 108, 97, 103, 115]⟩, .string ⟨#[102, 114, 109]⟩, .string ⟨#[102, 99, 115, 114]⟩]) (.int .i64 1)).run Try.prog w = .ok (.string (nameB 1)) w := fun w => run_name w 1 (by decide)
    go_enter Try.func22, Try.ntmps22
    go_wp2_with fail
    refine (names_any _).mono ?_
    rintro e w' ⟨rfl, hb⟩
    go_wp2_with fail
    go_ret2
    exact ⟨rfl, hb⟩
  · have i0 : ∀ w, (Instr.index 56 (.agg #[.string ⟨#[]⟩, .string ⟨#[102, 102, 108, 97, 103, 115]⟩, .string ⟨#[102, 114, 109]⟩, .string ⟨#[102, 99, 115, 114]⟩]) (.int .i64 2)).run Try.prog w = .ok (.string (nameB 2)) w := fun w => run_name w 2 (by decide)
    go_enter Try.func22, Try.ntmps22
    go_wp2_with fail
    refine (names_any _).mono ?_
    rintro e w' ⟨rfl, hb⟩
    go_wp2_with fail
    go_ret2
    exact ⟨rfl, hb⟩
  · have i0 : ∀ w, (Instr.index 56 (.agg #[.string ⟨#[]⟩, .string ⟨#[102, 102, 108, 97, 103, 115]⟩, .string ⟨#[102, 114, 109]⟩, .string ⟨#[102, 99, 115, 114]⟩]) (.int .i64 3)).run Try.prog w = .ok (.string (nameB 3)) w := fun w => run_name w 3 (by decide)
    go_enter Try.func22, Try.ntmps22
    go_wp2_with fail
    refine (names_any _).mono ?_
    rintro e w' ⟨rfl, hb⟩
    go_wp2_with fail
    go_ret2
    exact ⟨rfl, hb⟩
theorem rname_ok (n : Int) (w : World) (h : 1 ≤ n) (h3 : n ≤ 3) :
    Calls Try.prog 23 #[.int .i64 n] w fun e w' => e = .returned (.tuple #[.string (nameB n), .int .i64 0]) ∧ Below w.heap.size w w' := by
  have : n = 1 ∨ n = 2 ∨ n = 3 := by omega
  rcases this with rfl | rfl | rfl <;>
  · go_enter Try.func23, Try.ntmps23
    go_wp2
    go_ret2
    exact ⟨rfl, (Below.refl _ _).alloc (Nat.le_refl _) _⟩

def namedM (s : ByteArray) : Int × Int := if s = nameB 1 then (1, 0) else if s = nameB 2 then (2, 0) else if s = nameB 3 then (3, 0) else (0, 210)
theorem ne_list {a s : ByteArray} (h : ¬ s = a) : (a.toList == s.toList) = false := by
  rw [beq_eq_false_iff_ne]; intro e; exact h (ByteArray.ext (Array.ext' (by rw [← ByteArray.toList_eq, ← ByteArray.toList_eq]; exact e.symm)))
set_option maxHeartbeats 3200000 in
set_option maxRecDepth 100000 in
theorem named_any (s : ByteArray) (w : World) :
    Calls Try.prog 24 #[.string s] w fun e w' => e = .returned (.tuple #[.int .i64 (namedM s).1, .int .i64 (namedM s).2]) ∧ Below w.heap.size w w' := by
  have i0 : ∀ w, (Instr.index 56 (.agg #[.string ⟨#[]⟩, .string ⟨#[102, 102, 108, 97, 103, 115]⟩, .string ⟨#[102, 114, 109]⟩, .string ⟨#[102, 99, 115, 114]⟩]) (.int .i64 0)).run Try.prog w = .ok (.string ⟨#[]⟩) w := fun w => run_name w 0 (by decide)
  have i1 : ∀ w, (Instr.index 56 (.agg #[.string ⟨#[]⟩, .string ⟨#[102, 102, 108, 97, 103, 115]⟩, .string ⟨#[102, 114, 109]⟩, .string ⟨#[102, 99, 115, 114]⟩]) (.int .i64 1)).run Try.prog w = .ok (.string ⟨#[102, 102, 108, 97, 103, 115]⟩) w := fun w => run_name w 1 (by decide)
  have i2 : ∀ w, (Instr.index 56 (.agg #[.string ⟨#[]⟩, .string ⟨#[102, 102, 108, 97, 103, 115]⟩, .string ⟨#[102, 114, 109]⟩, .string ⟨#[102, 99, 115, 114]⟩]) (.int .i64 2)).run Try.prog w = .ok (.string ⟨#[102, 114, 109]⟩) w := fun w => run_name w 2 (by decide)
  have i3 : ∀ w, (Instr.index 56 (.agg #[.string ⟨#[]⟩, .string ⟨#[102, 102, 108, 97, 103, 115]⟩, .string ⟨#[102, 114, 109]⟩, .string ⟨#[102, 99, 115, 114]⟩]) (.int .i64 3)).run Try.prog w = .ok (.string ⟨#[102, 99, 115, 114]⟩) w := fun w => run_name w 3 (by decide)
  by_cases h1 : s = nameB 1
  · subst h1
    have H := Lib.hid (show namedM (nameB 1) = (1, 0) from if_pos rfl)
    rw [show nameB 1 = ⟨#[102, 102, 108, 97, 103, 115]⟩ from rfl] at H ⊢
    go_enter Try.func24, Try.ntmps24
    go_wp2_with fail
    refine (names_any _).mono ?_
    rintro e w' ⟨rfl, hb⟩
    go_wp2_with fail
    refine wp_loop_rounds 4 ?_
    rw [rounds_succ]
    go_wp2_with fail
    rw [rounds_succ]
    go_wp2_with fail
    go_ret2
    exact ⟨by rw [H.out]; rfl, hb⟩
  by_cases h2 : s = nameB 2
  · subst h2
    have H := Lib.hid (show namedM (nameB 2) = (2, 0) from by decide +kernel)
    rw [show nameB 2 = ⟨#[102, 114, 109]⟩ from rfl] at H ⊢
    clear h1
    go_enter Try.func24, Try.ntmps24
    go_wp2_with fail
    refine (names_any _).mono ?_
    rintro e w' ⟨rfl, hb⟩
    go_wp2_with fail
    refine wp_loop_rounds 4 ?_
    rw [rounds_succ]
    go_wp2_with fail
    rw [rounds_succ]
    go_wp2_with fail
    rw [rounds_succ]
    go_wp2_with fail
    go_ret2
    exact ⟨by rw [H.out]; rfl, hb⟩
  by_cases h3 : s = nameB 3
  · subst h3
    have H := Lib.hid (show namedM (nameB 3) = (3, 0) from by decide +kernel)
    rw [show nameB 3 = ⟨#[102, 99, 115, 114]⟩ from rfl] at H ⊢
    clear h1 h2
    go_enter Try.func24, Try.ntmps24
    go_wp2_with fail
    refine (names_any _).mono ?_
    rintro e w' ⟨rfl, hb⟩
    go_wp2_with fail
    refine wp_loop_rounds 4 ?_
    rw [rounds_succ]
    go_wp2_with fail
    rw [rounds_succ]
    go_wp2_with fail
    rw [rounds_succ]
    go_wp2_with fail
    rw [rounds_succ]
    go_wp2_with fail
    go_ret2
    exact ⟨by rw [H.out]; rfl, hb⟩
  · have H := Lib.hid (show namedM s = (0, 210) by unfold namedM; rw [if_neg h1, if_neg h2, if_neg h3])
    have n1 := ne_list h1
    have n2 := ne_list h2
    have n3 := ne_list h3
    rw [show (nameB 1).toList = [102, 102, 108, 97, 103, 115] by decide +kernel] at n1
    rw [show (nameB 2).toList = [102, 114, 109] by decide +kernel] at n2
    rw [show (nameB 3).toList = [102, 99, 115, 114] by decide +kernel] at n3
    clear h1 h2 h3
    go_enter Try.func24, Try.ntmps24
    go_wp2_with fail
    refine (names_any _).mono ?_
    rintro e w' ⟨rfl, hb⟩
    go_wp2_with fail
    refine wp_loop_rounds 5 ?_
    rw [rounds_succ]
    go_wp2_with fail
    rw [rounds_succ]
    go_wp2_with fail
    rw [rounds_succ]
    go_wp2_with fail
    rw [rounds_succ]
    go_wp2_with fail
    rw [rounds_succ]
    go_wp2_with fail
    go_ret2
    exact ⟨by rw [H.out]; rfl, hb⟩

set_option maxHeartbeats 6400000 in
set_option maxRecDepth 100000 in
theorem rnamed_any (s : ByteArray) (w : World) :
    Calls Try.prog 25 #[.string s] w fun e w' => e = .returned (.tuple #[.int .i64 (namedM s).1, .int .i64 (namedM s).2]) ∧ Below w.heap.size w w' := by
  by_cases h1 : s = nameB 1
  · subst h1
    have H := Lib.hid (show namedM (nameB 1) = (1, 0) from by decide +kernel)
    rw [show nameB 1 = ⟨#[102, 102, 108, 97, 103, 115]⟩ from rfl] at H ⊢
    go_enter Try.func25, Try.ntmps25
    go_wp2
    refine wp_loop_rounds 4 ?_
    rw [rounds_succ]
    go_wp2
    go_ret2
    exact ⟨by rw [H.out]; rfl, by go_grown⟩
  by_cases h2 : s = nameB 2
  · subst h2
    have H := Lib.hid (show namedM (nameB 2) = (2, 0) from by decide +kernel)
    rw [show nameB 2 = ⟨#[102, 114, 109]⟩ from rfl] at H ⊢
    clear h1
    go_enter Try.func25, Try.ntmps25
    go_wp2
    refine wp_loop_rounds 4 ?_
    rw [rounds_succ]
    go_wp2
    rw [rounds_succ]
    go_wp2
    go_ret2
    exact ⟨by rw [H.out]; rfl, by go_grown⟩
  by_cases h3 : s = nameB 3
  · subst h3
    have H := Lib.hid (show namedM (nameB 3) = (3, 0) from by decide +kernel)
    rw [show nameB 3 = ⟨#[102, 99, 115, 114]⟩ from rfl] at H ⊢
    clear h1 h2
    go_enter Try.func25, Try.ntmps25
    go_wp2
    refine wp_loop_rounds 4 ?_
    rw [rounds_succ]
    go_wp2
    rw [rounds_succ]
    go_wp2
    rw [rounds_succ]
    go_wp2
    go_ret2
    exact ⟨by rw [H.out]; rfl, by go_grown⟩
  · have H := Lib.hid (show namedM s = (0, 210) by unfold namedM; rw [if_neg h1, if_neg h2, if_neg h3])
    have n1 := ne_list h1
    have n2 := ne_list h2
    have n3 := ne_list h3
    rw [show (nameB 1).toList = [102, 102, 108, 97, 103, 115] by decide +kernel] at n1
    rw [show (nameB 2).toList = [102, 114, 109] by decide +kernel] at n2
    rw [show (nameB 3).toList = [102, 99, 115, 114] by decide +kernel] at n3
    clear h1 h2 h3
    go_enter Try.func25, Try.ntmps25
    go_wp2
    refine wp_loop_rounds 4 ?_
    rw [rounds_succ]
    go_wp2
    rw [rounds_succ]
    go_wp2
    rw [rounds_succ]
    go_wp2
    rw [rounds_succ]
    go_wp2
    go_ret2
    exact ⟨by rw [H.out]; rfl, by go_grown⟩

def nameM (n : Int) : ByteArray × Int := if n < 1 ∨ 3 < n then (⟨#[]⟩, 210) else (nameB n, 0)
theorem name_all (n : Int) (w : World) :
    Calls Try.prog 22 #[.int .i64 n] w fun e w' => e = .returned (.tuple #[.string (nameM n).1, .int .i64 (nameM n).2]) ∧ Below w.heap.size w w' := by
  by_cases h : n < 1 ∨ 3 < n
  · rw [show nameM n = (⟨#[]⟩, 210) from if_pos h]; exact name_no n w h
  · rw [show nameM n = (nameB n, 0) from if_neg h]; exact name_ok n w (by omega) (by omega)
theorem rname_all (n : Int) (w : World) :
    Calls Try.prog 23 #[.int .i64 n] w fun e w' => e = .returned (.tuple #[.string (nameM n).1, .int .i64 (nameM n).2]) ∧ Below w.heap.size w w' := by
  by_cases h : n < 1 ∨ 3 < n
  · rw [show nameM n = (⟨#[]⟩, 210) from if_pos h]; exact rname_no n w h
  · rw [show nameM n = (nameB n, 0) from if_neg h]; exact rname_ok n w (by omega) (by omega)

set_option maxHeartbeats 3200000 in
set_option maxRecDepth 100000 in
theorem texts_walk (n f : Int) (s : ByteArray) (w : World) (n0 : -9223372036854775808 ≤ n) (n1 : n < 9223372036854775808) (h0 : 0 ≤ f) (h1 : f < 256) (hs : s.size ≤ 140737488351232) :
    Calls Try.prog 7 #[.int .i64 n, .int .u8 f, .string s] w fun e w' => e = .returned (.bool true) ∧ Below w.heap.size w w' := by
  go_enter Try.func7, Try.ntmps7
  go_wp2_with fail
  refine (name_all n _).mono ?_
  rintro e w1 ⟨rfl, b1⟩
  go_wp2_with fail
  refine (rname_all n _).mono ?_
  rintro e w2 ⟨rfl, b2⟩
  go_wp2_with fail
  refine (named_any s _).mono ?_
  rintro e w3 ⟨rfl, b3⟩
  go_wp2_with fail
  refine (rnamed_any s _).mono ?_
  rintro e w4 ⟨rfl, b4⟩
  go_wp2_with fail
  refine (text_all f _ h0 h1).mono ?_
  rintro e w5 ⟨rfl, b5⟩
  go_wp2_with fail
  refine (rtext_all f _ h0 h1).mono ?_
  rintro e w6 ⟨rfl, b6⟩
  go_wp2_with fail
  refine (readtext_any s _).mono ?_
  rintro e w7 ⟨rfl, b7⟩
  go_wp2_with fail
  refine (rreadtext_any s _).mono ?_
  rintro e w8 ⟨rfl, b8⟩
  go_wp2_with fail
  refine (lives_true _).mono ?_
  rintro e w9 ⟨rfl, b9⟩
  go_wp2
  go_ret
  have c2 := b1.trans (b2.mono b1.size)
  have c3 := c2.trans (b3.mono c2.size)
  have c4 := c3.trans (b4.mono c3.size)
  have c5 := c4.trans (b5.mono c4.size)
  have c6 := c5.trans (b6.mono c5.size)
  have c7 := c6.trans (b7.mono c6.size)
  have c8 := c7.trans (b8.mono c7.size)
  exact ⟨rfl, c8.trans (b9.mono c8.size)⟩
end Go.Proofs.Ythfoffiebifpcaa
