/- The contracts of the document's Text, and of ReadText and the names, both. -/
import Derived.Test.YthfoffiebifpcaaRef
import Derived.Test.YthfoffiebifpcaaText
namespace Go.Proofs.Ythfoffiebifpcaa
open Go.RowKit

def txt (f : Int) (j : Nat) : ByteArray := ⟨(Lib.join ((selB f j).map (·.data.toList)) [43]).toArray⟩

theorem join_snoc (l : List (List UInt8)) (x sep : List UInt8) : Lib.join (l ++ [x]) sep = if l = [] then x else Lib.join l sep ++ sep ++ x := by
  cases l with
  | nil => simp [Lib.join_one]
  | cons y r =>
    rw [if_neg (by simp), List.cons_append, Lib.join_cons, Lib.join_cons]
    simp [Lib.joinTail, List.append_assoc]
theorem and8 (x : Int) (h0 : 0 ≤ x) (h1 : x < 256) : Go.bits .and .u8 x 1 = x % 2 := by
  rw [u8_and x 1 h0 h1 (by decide) (by decide), show (1 : Int).toNat = 1 from rfl, nat_mask1]; omega
theorem test_bit (f : Int) (j : Nat) (h0 : 0 ≤ f) (h1 : f ≤ 31) (hj : j < 5) : (Go.bits .and .u8 (f / 2 ^ (4 - j)) 1 == 1) = bitB f (4 - (j : Int)) := by
  have hp : (0 : Int) < 2 ^ (4 - j) := Int.pow_pos (by decide)
  have q0 : 0 ≤ f / 2 ^ (4 - j) := Int.ediv_nonneg h0 (Int.le_of_lt hp)
  have q1 : f / 2 ^ (4 - j) ≤ f := Int.ediv_le_self _ h0
  rw [and8 _ q0 (by omega)]
  unfold bitB
  rw [show (4 - (j : Int)).toNat = 4 - j by omega, Bool.eq_iff_iff]; simp
theorem txt_no (f : Int) (j : Nat) (h0 : 0 ≤ f) (h1 : f ≤ 31) (hj : j < 5) (h : bitB f (4 - (j : Int)) = false) : txt f (j + 1) = txt f j := by
  unfold txt
  rw [selB, test_bit f j h0 h1 hj, h, if_neg (by simp)]
theorem txt_yes (f : Int) (j : Nat) (h0 : 0 ≤ f) (h1 : f ≤ 31) (hj : j < 5) (h : bitB f (4 - (j : Int)) = true) :
    txt f (j + 1) = if selB f j = [] then wordB j else txt f j ++ ⟨#[43]⟩ ++ wordB j := by
  unfold txt
  rw [selB, test_bit f j h0 h1 hj, h, if_pos rfl, List.map_append, List.map_cons, List.map_nil, join_snoc]
  by_cases hs : selB f j = []
  · rw [if_pos hs, if_pos (by rw [hs]; rfl)]
  · rw [if_neg hs, if_neg (by simpa using hs)]
    apply ByteArray.ext
    simp [ByteArray.data_append]
theorem txt_size (f : Int) (j : Nat) (hj : j ≤ 5) : (txt f j).size ≤ 15 := by
  have h := join_le [43] 2 ((selB f j).map (·.data.toList)) (by
    intro x hx
    obtain ⟨b, hb, rfl⟩ := List.mem_map.1 hx
    exact Nat.le_of_eq (selB_all f j b hb))
  have h5 := selB_len f j
  simp only [List.length_map, List.length_cons, List.length_nil] at h
  have : (txt f j).size = (Lib.join ((selB f j).map (·.data.toList)) [43]).length := by unfold txt; simp [ByteArray.size]
  omega
theorem txt_nil (f : Int) (j : Nat) (h : selB f j = []) : txt f j = ⟨#[]⟩ := by unfold txt; rw [h]; rfl
theorem txt_ne (f : Int) (j : Nat) (h : selB f j ≠ []) : (txt f j).toList.isEmpty = false := by
  rw [List.isEmpty_eq_false_iff]
  intro e
  have hl : (txt f j).data.toList = [] := by rw [← e, ByteArray.toList_eq]
  have hl2 : Lib.join ((selB f j).map (·.data.toList)) [43] = [] := by simpa [txt] using hl
  cases hs : selB f j with
  | nil => exact h hs
  | cons x r =>
    rw [hs, List.map_cons, Lib.join_cons] at hl2
    have hx := selB_all f j x (by rw [hs]; simp)
    have := (List.append_eq_nil_iff.1 hl2).1
    rw [this] at hx
    cases hx
theorem textB_txt (f : Int) : textB f = if selB f 5 = [] then ⟨#[45]⟩ else txt f 5 := rfl

set_option maxHeartbeats 3200000 in
set_option maxRecDepth 100000 in
theorem rtext_any (f : Int) (w : World) (h0 : 0 ≤ f) (h1 : f ≤ 31) :
    Calls Try.prog 27 #[.int .u8 f] w fun e w' => e = .returned (.tuple #[.string (textB f), .int .i64 0]) ∧ Below w.heap.size w w' := by
  go_enter Try.func27, Try.ntmps27
  go_wp2_with fail
  go_loop [5, 6] (fun v i => ∃ j : Nat, j ≤ 5 ∧ i = .int .i64 (4 - (j : Int)) ∧ v = .string (txt f j)) (fun _ i => (intOf i + 1).toNat)
  case atStart => exact ⟨0, by omega, rfl, rfl⟩
  case round =>
    obtain ⟨j, hj, rfl, rfl⟩ := hrel
    by_cases hlt : j < 5
    · have hsz := txt_size f j hj
      have tn := txt_no f j h0 h1 hlt
      have ty := txt_yes f j h0 h1 hlt
      have t0 := txt_nil f j
      have t1 := txt_ne f j
      have hc : j = 0 ∨ j = 1 ∨ j = 2 ∨ j = 3 ∨ j = 4 := by omega
      rcases hc with rfl | rfl | rfl | rfl | rfl
      · have hb' : bitB f 4 = bitB f (4 - (0 : Nat) : Int) := rfl
        obtain ⟨t, ht⟩ : ∃ t, txt f 0 = t := ⟨_, rfl⟩
        cases hb : bitB f 4
        · have N := Lib.hid (tn (hb'.symm.trans hb))
          rw [ht] at hsz N ⊢
          clear tn ty t0 t1 hb' ht
          go_wp2_with fail
          refine (bit_any _ _ _ (by omega) (by omega) (by omega) (by omega)).mono ?_
          rintro e w' ⟨rfl, rfl⟩
          go_wp2_with fail
          go_round
          case rel => exact ⟨1, by omega, rfl, by rw [N.out]⟩
          case measure => simp [intOf]
        · have N := Lib.hid (ty (hb'.symm.trans hb))
          by_cases hs : selB f 0 = []
          · have e := t0 hs
            rw [ht] at e hsz N ⊢
            have M := Lib.hid (N.out.trans (if_pos hs))
            subst e
            clear tn ty t0 t1 hb' ht N hs
            go_wp2_with fail
            refine (bit_any _ _ _ (by omega) (by omega) (by omega) (by omega)).mono ?_
            rintro e w' ⟨rfl, rfl⟩
            go_wp2_with fail
            go_round
            case rel => exact ⟨1, by omega, rfl, by rw [M.out]; rfl⟩
            case measure => simp [intOf]
          · have e := t1 hs
            rw [ht] at e hsz N ⊢
            have M := Lib.hid (N.out.trans (if_neg hs))
            have e2 : (!t.toList.isEmpty) = true := by rw [e]; rfl
            clear tn ty t0 t1 hb' ht N hs
            go_wp2_with fail
            refine (bit_any _ _ _ (by omega) (by omega) (by omega) (by omega)).mono ?_
            rintro e w' ⟨rfl, rfl⟩
            go_wp2_with fail
            go_round
            case rel => exact ⟨1, by omega, rfl, by rw [M.out]; rfl⟩
            case measure => simp [intOf]
      · have hb' : bitB f 3 = bitB f (4 - (1 : Nat) : Int) := rfl
        obtain ⟨t, ht⟩ : ∃ t, txt f 1 = t := ⟨_, rfl⟩
        cases hb : bitB f 3
        · have N := Lib.hid (tn (hb'.symm.trans hb))
          rw [ht] at hsz N ⊢
          clear tn ty t0 t1 hb' ht
          go_wp2_with fail
          refine (bit_any _ _ _ (by omega) (by omega) (by omega) (by omega)).mono ?_
          rintro e w' ⟨rfl, rfl⟩
          go_wp2_with fail
          go_round
          case rel => exact ⟨2, by omega, rfl, by rw [N.out]⟩
          case measure => simp [intOf]
        · have N := Lib.hid (ty (hb'.symm.trans hb))
          by_cases hs : selB f 1 = []
          · have e := t0 hs
            rw [ht] at e hsz N ⊢
            have M := Lib.hid (N.out.trans (if_pos hs))
            subst e
            clear tn ty t0 t1 hb' ht N hs
            go_wp2_with fail
            refine (bit_any _ _ _ (by omega) (by omega) (by omega) (by omega)).mono ?_
            rintro e w' ⟨rfl, rfl⟩
            go_wp2_with fail
            go_round
            case rel => exact ⟨2, by omega, rfl, by rw [M.out]; rfl⟩
            case measure => simp [intOf]
          · have e := t1 hs
            rw [ht] at e hsz N ⊢
            have M := Lib.hid (N.out.trans (if_neg hs))
            have e2 : (!t.toList.isEmpty) = true := by rw [e]; rfl
            clear tn ty t0 t1 hb' ht N hs
            go_wp2_with fail
            refine (bit_any _ _ _ (by omega) (by omega) (by omega) (by omega)).mono ?_
            rintro e w' ⟨rfl, rfl⟩
            go_wp2_with fail
            go_round
            case rel => exact ⟨2, by omega, rfl, by rw [M.out]; rfl⟩
            case measure => simp [intOf]
      · have hb' : bitB f 2 = bitB f (4 - (2 : Nat) : Int) := rfl
        obtain ⟨t, ht⟩ : ∃ t, txt f 2 = t := ⟨_, rfl⟩
        cases hb : bitB f 2
        · have N := Lib.hid (tn (hb'.symm.trans hb))
          rw [ht] at hsz N ⊢
          clear tn ty t0 t1 hb' ht
          go_wp2_with fail
          refine (bit_any _ _ _ (by omega) (by omega) (by omega) (by omega)).mono ?_
          rintro e w' ⟨rfl, rfl⟩
          go_wp2_with fail
          go_round
          case rel => exact ⟨3, by omega, rfl, by rw [N.out]⟩
          case measure => simp [intOf]
        · have N := Lib.hid (ty (hb'.symm.trans hb))
          by_cases hs : selB f 2 = []
          · have e := t0 hs
            rw [ht] at e hsz N ⊢
            have M := Lib.hid (N.out.trans (if_pos hs))
            subst e
            clear tn ty t0 t1 hb' ht N hs
            go_wp2_with fail
            refine (bit_any _ _ _ (by omega) (by omega) (by omega) (by omega)).mono ?_
            rintro e w' ⟨rfl, rfl⟩
            go_wp2_with fail
            go_round
            case rel => exact ⟨3, by omega, rfl, by rw [M.out]; rfl⟩
            case measure => simp [intOf]
          · have e := t1 hs
            rw [ht] at e hsz N ⊢
            have M := Lib.hid (N.out.trans (if_neg hs))
            have e2 : (!t.toList.isEmpty) = true := by rw [e]; rfl
            clear tn ty t0 t1 hb' ht N hs
            go_wp2_with fail
            refine (bit_any _ _ _ (by omega) (by omega) (by omega) (by omega)).mono ?_
            rintro e w' ⟨rfl, rfl⟩
            go_wp2_with fail
            go_round
            case rel => exact ⟨3, by omega, rfl, by rw [M.out]; rfl⟩
            case measure => simp [intOf]
      · have hb' : bitB f 1 = bitB f (4 - (3 : Nat) : Int) := rfl
        obtain ⟨t, ht⟩ : ∃ t, txt f 3 = t := ⟨_, rfl⟩
        cases hb : bitB f 1
        · have N := Lib.hid (tn (hb'.symm.trans hb))
          rw [ht] at hsz N ⊢
          clear tn ty t0 t1 hb' ht
          go_wp2_with fail
          refine (bit_any _ _ _ (by omega) (by omega) (by omega) (by omega)).mono ?_
          rintro e w' ⟨rfl, rfl⟩
          go_wp2_with fail
          go_round
          case rel => exact ⟨4, by omega, rfl, by rw [N.out]⟩
          case measure => simp [intOf]
        · have N := Lib.hid (ty (hb'.symm.trans hb))
          by_cases hs : selB f 3 = []
          · have e := t0 hs
            rw [ht] at e hsz N ⊢
            have M := Lib.hid (N.out.trans (if_pos hs))
            subst e
            clear tn ty t0 t1 hb' ht N hs
            go_wp2_with fail
            refine (bit_any _ _ _ (by omega) (by omega) (by omega) (by omega)).mono ?_
            rintro e w' ⟨rfl, rfl⟩
            go_wp2_with fail
            go_round
            case rel => exact ⟨4, by omega, rfl, by rw [M.out]; rfl⟩
            case measure => simp [intOf]
          · have e := t1 hs
            rw [ht] at e hsz N ⊢
            have M := Lib.hid (N.out.trans (if_neg hs))
            have e2 : (!t.toList.isEmpty) = true := by rw [e]; rfl
            clear tn ty t0 t1 hb' ht N hs
            go_wp2_with fail
            refine (bit_any _ _ _ (by omega) (by omega) (by omega) (by omega)).mono ?_
            rintro e w' ⟨rfl, rfl⟩
            go_wp2_with fail
            go_round
            case rel => exact ⟨4, by omega, rfl, by rw [M.out]; rfl⟩
            case measure => simp [intOf]
      · have hb' : bitB f 0 = bitB f (4 - (4 : Nat) : Int) := rfl
        obtain ⟨t, ht⟩ : ∃ t, txt f 4 = t := ⟨_, rfl⟩
        cases hb : bitB f 0
        · have N := Lib.hid (tn (hb'.symm.trans hb))
          rw [ht] at hsz N ⊢
          clear tn ty t0 t1 hb' ht
          go_wp2_with fail
          refine (bit_any _ _ _ (by omega) (by omega) (by omega) (by omega)).mono ?_
          rintro e w' ⟨rfl, rfl⟩
          go_wp2_with fail
          go_round
          case rel => exact ⟨5, by omega, rfl, by rw [N.out]⟩
          case measure => simp [intOf]
        · have N := Lib.hid (ty (hb'.symm.trans hb))
          by_cases hs : selB f 4 = []
          · have e := t0 hs
            rw [ht] at e hsz N ⊢
            have M := Lib.hid (N.out.trans (if_pos hs))
            subst e
            clear tn ty t0 t1 hb' ht N hs
            go_wp2_with fail
            refine (bit_any _ _ _ (by omega) (by omega) (by omega) (by omega)).mono ?_
            rintro e w' ⟨rfl, rfl⟩
            go_wp2_with fail
            go_round
            case rel => exact ⟨5, by omega, rfl, by rw [M.out]; rfl⟩
            case measure => simp [intOf]
          · have e := t1 hs
            rw [ht] at e hsz N ⊢
            have M := Lib.hid (N.out.trans (if_neg hs))
            have e2 : (!t.toList.isEmpty) = true := by rw [e]; rfl
            clear tn ty t0 t1 hb' ht N hs
            go_wp2_with fail
            refine (bit_any _ _ _ (by omega) (by omega) (by omega) (by omega)).mono ?_
            rintro e w' ⟨rfl, rfl⟩
            go_wp2_with fail
            go_round
            case rel => exact ⟨5, by omega, rfl, by rw [M.out]; rfl⟩
            case measure => simp [intOf]
    · have hj5 : j = 5 := by omega
      subst hj5
      obtain ⟨t, ht⟩ : ∃ t, txt f 5 = t := ⟨_, rfl⟩
      by_cases hs : selB f 5 = []
      · have e := txt_nil f 5 hs
        have M := Lib.hid ((textB_txt f).trans (if_pos hs))
        rw [ht] at e ⊢
        subst e
        clear hs ht
        go_wp2_with fail
        go_ret2
        exact ⟨by rw [M.out]; rfl, (Below.refl _ _).alloc (Nat.le_refl _) _⟩
      · have e := txt_ne f 5 hs
        have M := Lib.hid ((textB_txt f).trans (if_neg hs))
        rw [ht] at e M ⊢
        clear hs ht
        go_wp2_with fail
        go_ret2
        exact ⟨by rw [M.out]; rfl, (Below.refl _ _).alloc (Nat.le_refl _) _⟩
end Go.Proofs.Ythfoffiebifpcaa
