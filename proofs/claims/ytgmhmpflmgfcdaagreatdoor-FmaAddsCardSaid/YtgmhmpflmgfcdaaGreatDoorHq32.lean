/- Part 32 of the proof. -/
import Derived.Deep.OwnRows
import Derived.Test.YtgmhmpflmgfcdaaGreatDoorHq5
import Derived.Test.YtgmhmpflmgfcdaaGreatDoorHq6
import Derived.Test.YtgmhmpflmgfcdaaGreatDoorHq7
import Derived.Test.YtgmhmpflmgfcdaaGreatDoorHq8
import Derived.Test.YtgmhmpflmgfcdaaGreatDoorHq9
import Derived.Test.YtgmhmpflmgfcdaaGreatDoorHq22
import Derived.Test.YtgmhmpflmgfcdaaGreatDoorHq23
import Derived.Test.YtgmhmpflmgfcdaaGreatDoorHq24
import Derived.Test.YtgmhmpflmgfcdaaGreatDoorHq25
import Derived.Test.YtgmhmpflmgfcdaaGreatDoorHq26
import Derived.Test.YtgmhmpflmgfcdaaGreatDoorHq27
import Derived.Test.YtgmhmpflmgfcdaaGreatDoorHq28
import Derived.Test.YtgmhmpflmgfcdaaGreatDoorHq29
import Derived.Test.YtgmhmpflmgfcdaaGreatDoorHq30
import Derived.Test.YtgmhmpflmgfcdaaGreatDoorHq31
set_option linter.unusedSimpArgs false
set_option linter.unusedVariables false
set_option linter.unnecessarySimpa false
set_option maxRecDepth 100000
set_option maxHeartbeats 3200000
namespace Go.Proofs.YtgmhmpflmgfcdaaGreatDoor
open Go.RowKit Go.Proofs.YtgmhmpflmgfcdaaGreatDoorW.PrintWords
def byt (n i : Nat) : Nat := n / 256 ^ i % 256
theorem byt_lt (n i : Nat) : byt n i < 256 := Nat.mod_lt _ (by decide)
theorem pos256 (i : Nat) : 0 < 256 ^ i := Nat.pow_pos (by decide)
theorem mod_byte (n i : Nat) : n % 256 ^ (i + 1) = n % 256 ^ i + byt n i * 256 ^ i := by rw [Nat.pow_succ, Nat.mod_mul, Nat.mul_comm]; rfl
theorem byt_big (n i : Nat) (h : n < 256 ^ i) : byt n i = 0 := by unfold byt; rw [Nat.div_eq_of_lt h]
theorem byt_add_hi (v b i : Nat) (hv : v < 256 ^ i) (hb : b < 256) : byt (v + b * 256 ^ i) i = b := by
 unfold byt
 rw [Nat.add_mul_div_right _ _ (pos256 i), Nat.div_eq_of_lt hv, Nat.zero_add, Nat.mod_eq_of_lt hb]
theorem byt_add_lo (v b i j : Nat) (hj : j < i) : byt (v + b * 256 ^ i) j = byt v j := by
 unfold byt
 obtain ⟨d, rfl⟩ : ∃ d, i = j + (d + 1) := ⟨i - j - 1, by omega⟩
 have e : b * 256 ^ (j + (d + 1)) = (b * 256 ^ d * 256) * 256 ^ j := by rw [Nat.pow_add, Nat.pow_succ]; simp only [Nat.mul_assoc, Nat.mul_comm, Nat.mul_left_comm]
 rw [e, Nat.add_mul_div_right _ _ (pos256 j), Nat.add_mul_mod_self_right]
theorem byt_add_top (v b i j : Nat) (hv : v < 256 ^ i) (hb : b < 256) (hj : i < j) : byt (v + b * 256 ^ i) j = 0 := by
 apply byt_big
 have h1 : v + b * 256 ^ i < 256 ^ (i + 1) := by
  rw [Nat.pow_succ]
  have : (b + 1) * 256 ^ i ≤ 256 * 256 ^ i := Nat.mul_le_mul_right _ hb
  rw [Nat.add_mul] at this; omega
 exact Nat.lt_of_lt_of_le h1 (Nat.pow_le_pow_right (by decide) hj)
def nb (n : Nat) : Nat := (lenN n + 7) / 8
theorem pow256 (i : Nat) : 256 ^ i = 2 ^ (8 * i) := by rw [Nat.pow_mul]
theorem nb_le (n k : Nat) : nb n ≤ k ↔ n < 256 ^ k := by
 rw [pow256, ← lenN_le]; unfold nb; omega
theorem nb_lt (n : Nat) : n < 256 ^ nb n := (nb_le n _).1 (Nat.le_refl _)
theorem nb_zero : nb 0 = 0 := rfl
theorem nb_ge (n : Nat) (h : n ≠ 0) : 256 ^ (nb n - 1) ≤ n := by
 rcases Nat.lt_or_ge n (256 ^ (nb n - 1)) with hl | hl
 ·have := (nb_le n _).2 hl
  have hp := lenN_pos n h
  have : nb n ≠ 0 := by unfold nb; omega
  omega
 ·exact hl
theorem nb_pos (n : Nat) (h : n ≠ 0) : 1 ≤ nb n := by have := lenN_pos n h; unfold nb; omega
theorem byt_top (n : Nat) (h : n ≠ 0) : byt n (nb n - 1) ≠ 0 := by
 have h1 := nb_ge n h
 have h2 := nb_lt n
 have hp := nb_pos n h
 unfold byt
 have h3 : n / 256 ^ (nb n - 1) < 256 := by
  rw [Nat.div_lt_iff_lt_mul (pos256 _), Nat.mul_comm, ← Nat.pow_succ, show (nb n - 1).succ = nb n by omega]; exact h2
 rw [Nat.mod_eq_of_lt h3]
 have := Nat.div_pos h1 (pos256 _); omega
def mkL (N : Nat) (f : Nat → Int) : List Int := (List.range N).map f
theorem mkL_length (N : Nat) (f : Nat → Int) : (mkL N f).length = N := by unfold mkL; simp
theorem mkL_get (N : Nat) (f : Nat → Int) (i : Nat) (h : i < N) : (mkL N f)[i]? = some (f i) := by unfold mkL; simp [h]
theorem mkL_rd (N : Nat) (f : Nat → Int) (i : Nat) (h : i < N) : rd (mkL N f) (i : Int) = f i := by
 unfold rd; rw [Int.toNat_natCast, List.getD_eq_getElem?_getD, mkL_get N f i h]; rfl
theorem mkL_ext (N : Nat) (f g : Nat → Int) (h : ∀ i, i < N → f i = g i) : mkL N f = mkL N g := by
 unfold mkL; exact List.map_congr_left fun i hi => h i (List.mem_range.1 hi)
theorem mkL_set (N : Nat) (f : Nat → Int) (i : Nat) (b : Int) : (mkL N f).set i b = mkL N (fun j => if j = i then b else f j) := by
 apply List.ext_getElem?
 intro j
 rw [List.getElem?_set]
 by_cases hj : j < N
 ·rw [mkL_get _ _ j hj, mkL_get _ _ j hj, mkL_length]
  by_cases hij : i = j
  ·subst hij; rw [if_pos rfl, if_pos hj, if_pos rfl]
  ·rw [if_neg hij, if_neg (fun h => hij h.symm)]
 ·rw [List.getElem?_eq_none (by rw [mkL_length]; omega), List.getElem?_eq_none (by rw [mkL_length]; omega), mkL_length]
  by_cases hij : i = j
  ·rw [if_pos hij, if_neg (by omega)]
  ·rw [if_neg hij]
theorem mkL_replicate (N : Nat) : List.replicate N (0 : Int) = mkL N (fun _ => 0) := by
 unfold mkL; rw [List.map_const', List.length_range]
def byL (v N : Nat) : List Int := mkL N (fun i => (byt v i : Int))
theorem byL_zero (N : Nat) : List.replicate N (0 : Int) = byL 0 N := by
 rw [mkL_replicate]; exact mkL_ext _ _ _ fun i _ => by unfold byt; simp
theorem byL_length (v N : Nat) : (byL v N).length = N := mkL_length _ _
theorem byL_rd (v N i : Nat) (h : i < N) : rd (byL v N) (i : Int) = (byt v i : Int) := mkL_rd _ _ i h
theorem byL_put (v N i b : Nat) (hv : v < 256 ^ i) (hb : b < 256) : (byL v N).set i (b : Int) = byL (v + b * 256 ^ i) N := by
 unfold byL; rw [mkL_set]
 apply mkL_ext
 intro j _
 by_cases h : j = i
 ·rw [if_pos h, h, byt_add_hi v b i hv hb]
 ·rw [if_neg h]
  rcases Nat.lt_or_ge j i with hlt | hge
  ·rw [byt_add_lo v b i j hlt]
  ·rw [byt_add_top v b i j hv hb (by omega), byt_big v j (Nat.lt_of_lt_of_le hv (Nat.pow_le_pow_right (by decide) (by omega)))]
def strB (n : Nat) : ByteArray := strOfNums (mkL (nb n) (fun i => (byt n (nb n - 1 - i) : Int)))
theorem size_strB (n : Nat) : (strB n).size = nb n := by unfold strB; rw [strOfNums_size, mkL_length]
theorem strB_zero : strB 0 = ⟨#[]⟩ := rfl
theorem bt_strOfNums (l : List Int) (i : Nat) (h : i < l.length) (hb : 0 ≤ rd l i ∧ rd l i < 256) : bt (strOfNums l) (i : Int) = rd l (i : Int) := by
 unfold bt rd at *
 rw [Int.toNat_natCast] at *
 rw [dif_pos (by rw [strOfNums_size]; exact h)]
 have e : (strOfNums l).data.toList[i]? = some (UInt8.ofNat (l.getD i 0).toNat) := by
  rw [strOfNums_data, List.getElem?_map, List.getElem?_eq_getElem h, List.getD_eq_getElem?_getD, List.getElem?_eq_getElem h]; rfl
 have hs : i < (strOfNums l).size := by rw [strOfNums_size]; exact h
 have e2 : (strOfNums l)[i]'hs = UInt8.ofNat (l.getD i 0).toNat := by
  have : (strOfNums l).data.toList[i]? = some ((strOfNums l)[i]'hs) := by
   rw [Array.getElem?_toList]; exact Array.getElem?_eq_getElem hs
  rw [this] at e; exact Option.some.inj e
 rw [e2, UInt8.toNat_ofNat']
 omega
theorem bt_strB (n i : Nat) (h : i < nb n) : bt (strB n) (i : Int) = (byt n (nb n - 1 - i) : Int) := by
 unfold strB
 have hr := mkL_rd (nb n) (fun i => (byt n (nb n - 1 - i) : Int)) i h
 have := byt_lt n (nb n - 1 - i)
 rw [bt_strOfNums _ i (by rw [mkL_length]; exact h) (by rw [hr]; omega), hr]
theorem strB_list (n : Nat) : (strB n).toList = (mkL (nb n) (fun i => (byt n (nb n - 1 - i) : Int))).map fun n => UInt8.ofNat n.toNat := by
 rw [ByteArray.toList_eq]; exact strOfNums_data _
theorem strB_empty (n : Nat) : (strB n).toList = ([] : List UInt8) ↔ n = 0 := by
 rw [strB_list]
 constructor
 ·intro h
  have := congrArg List.length h
  rw [List.length_map, mkL_length, List.length_nil] at this
  rcases Nat.eq_zero_or_pos n with h0 | h0
  ·exact h0
  ·have := nb_pos n (by omega); omega
 ·rintro rfl; rfl
open Go.Proofs.YtgmhmpflmgfcdaaGreatDoor.PDivQuotients
theorem wrap_id (x : Int) (h1 : -9223372036854775808 ≤ x) (h2 : x < 9223372036854775808) : wrap64 x = x := by unfold wrap64; omega
def Fine (n : Nat) : Prop := nb n ≤ 1099511627776
theorem at_strB (n i : Nat) (hn : Fine n) (hi : i ≤ 1099511627776) : z05_at.f (strB n) (i : Int) = some (byt n i : Int) := by
 unfold Fine at hn
 unfold z05_at.f
 rw [size_strB]
 by_cases h : (i : Int) ≥ (nb n : Int)
 ·rw [if_pos h, byt_big n i (Nat.lt_of_lt_of_le (nb_lt n) (Nat.pow_le_pow_right (by decide) (by omega)))]; rfl
 ·have e : wrap64 (wrap64 ((nb n : Int) - 1) - (i : Int)) = ((nb n - 1 - i : Nat) : Int) := by
   rw [wrap_id ((nb n : Int) - 1) (by omega) (by omega), wrap_id ((nb n : Int) - 1 - (i : Int)) (by omega) (by omega)]; omega
  rw [if_neg h, e, if_pos (by omega), if_pos (by omega), bt_strB n _ (by omega), show nb n - 1 - (nb n - 1 - i) = i by omega]
  have := byt_lt n i
  rw [wrap_id (byt n i : Int) (by omega) (by omega)]
theorem may_strB (n : Nat) (hn : nb n ≤ 16384) : z05_May.f (strB n) = some true := by
 unfold z05_May.f
 rw [size_strB, if_pos (by omega)]
 by_cases h : n = 0
 ·rw [if_pos ((strB_empty n).2 h)]
 ·rw [if_neg (fun e => h ((strB_empty n).1 e))]
  have hp := nb_pos n h
  have hb := bt_strB n 0 (by omega)
  rw [if_pos (by omega), show (0 : Int) = ((0 : Nat) : Int) from rfl, hb, Nat.sub_zero]
  have := byt_top n h
  congr 1
  simp; omega
def exC (neg : Bool) (n d : ByteArray) (e : Int) : Array Value := #[.bool neg, .string n, .string d, .int .i64 e]
theorem ext_ex (neg : Bool) (n d : ByteArray) (e : Int) : (exC neg n d e).extract 0 (0 + (exC neg n d e).size) = exC neg n d e := by rw [Nat.zero_add]; exact Array.extract_size
theorem get_ex0 (neg : Bool) (n d : ByteArray) (e : Int) : (exC neg n d e)[0]? = some (.bool neg) := rfl
theorem get_ex1 (neg : Bool) (n d : ByteArray) (e : Int) : (exC neg n d e)[1]? = some (.string n) := rfl
theorem get_ex2 (neg : Bool) (n d : ByteArray) (e : Int) : (exC neg n d e)[2]? = some (.string d) := rfl
theorem get_ex3 (neg : Bool) (n d : ByteArray) (e : Int) : (exC neg n d e)[3]? = some (.int .i64 e) := rfl
theorem set_ex (neg : Bool) (n d : ByteArray) (e : Int) (neg' : Bool) (n' d' : ByteArray) (e' : Int) : setRow (exC neg n d e) 0 (exC neg' n' d' e').toList = exC neg' n' d' e' := set_all _ _ rfl
theorem tEx_s : (Tryz.prog.info? 87).map (·.size) = some 4 := by kernel_rfl
theorem tEx_z : (Tryz.prog.info? 87).bind (·.zero) = some (.agg (exC false ⟨#[]⟩ ⟨#[]⟩ 0)) := by unfold exC; kernel_rfl
theorem rEx : IsRow Tryz.prog 87 4 (exC false ⟨#[]⟩ ⟨#[]⟩ 0) := ⟨⟨_, Tryz.underlying87, rfl⟩, tEx_s, tEx_z⟩
theorem tstr_s : (Tryz.prog.info? 9).map (·.size) = some 1 := by kernel_rfl
theorem oS : IsOne Tryz.prog 9 := ⟨⟨_, Tryz.underlying9, rfl⟩, tstr_s⟩
theorem tby_s : (Tryz.prog.info? 5).map (·.size) = some 1 := by kernel_rfl
theorem oY : IsOne Tryz.prog 5 := ⟨⟨_, Tryz.underlying5, rfl⟩, tby_s⟩
theorem tnat_s : (Tryz.prog.info? 85).map (·.size) = some 1 := by kernel_rfl
theorem oNat : IsOne Tryz.prog 85 := ⟨⟨_, Tryz.underlying85, rfl⟩, tnat_s⟩
def rowB (v N : Nat) : Array Value := ((byL v N).map fun x => Value.int .u8 x).toArray
theorem rowB_size (v N : Nat) : (rowB v N).size = N := by unfold rowB; rw [List.size_toArray, List.length_map, byL_length]
theorem rowB_set (v N i b : Nat) (hv : v < 256 ^ i) (hb : b < 256) : setRow (rowB v N) i (#[.int .u8 ((b : Nat) : Int)] : Array Value).toList = rowB (v + b * 256 ^ i) N := by
 show (rowB v N).setIfInBounds i (.int .u8 ((b : Nat) : Int)) = _
 unfold rowB
 rw [List.setIfInBounds_toArray, ← List.map_set, byL_put v N i b hv hb]
theorem rowB_get (v N i : Nat) (hi : i < N) : (rowB v N)[i]? = some (.int .u8 (byt v i : Nat)) := by
 unfold rowB byL
 rw [List.getElem?_toArray, List.getElem?_map, mkL_get N _ i hi]; rfl
theorem info_by : (Tryz.prog.info? 5).map (fun i => (i.zero, i.size, i.bytes)) = some (some (.int .u8 0), 1, 1) := by kernel_rfl
section
variable {w0 w : World} {L : List Bk} {op : Oper} {a : Act} {Q : Exit → Act → World → Prop} {ops : Array Oper} {rest : List Oper}
theorem Own.mks (H : Own w0 w L) (hw : Region.wanted op (yielded ops a.tmps) = true) {l c : Operand} {n : Nat} (ho : op.op = .makeSlice 143 l c) (hl : a.eval l = .int .i64 (n : Int)) (hc : a.eval c = .int .i64 (n : Int)) (hn : n ≤ 65536)
  (h : ∀ g w', Own w0 w' ((g, 5, rowB 0 n) :: L) → wpList Tryz.prog ops Q rest (a.put op.dst (.slice (some ⟨g, 0, none⟩) n n)) w') : wpList Tryz.prog ops Q (op :: rest) a w := by
 refine wp_wanted hw fun K hK => ?_
 have e : madeCells #[(.int .u8 0 : Value)] n = rowB 0 n := by
  apply Array.ext_getElem?
  intro i
  by_cases hi : i < n
  ·rw [rowB_get 0 n i hi]
   have : byt 0 i = 0 := by unfold byt; simp
   rw [this]
   simp [madeCells, hi, Nat.mod_one]
  ·rw [Array.getElem?_eq_none (by rw [size_madeCells]; omega), Array.getElem?_eq_none (by rw [rowB_size]; omega)]
 have hk := hK _ _ (h _ _ (H.alloc 5 (rowB 0 n)))
 have hr := run_make_row' 143 5 (.int .u8 0) 1 Tryz.underlying143 info_by rfl .i64 .i64 n (by omega) (by omega) w
 rw [e] at hr
 unfold Oper.wp execOp
 simp only [ho, hl, hc, Sem.run_bind, hr, Result.andThen_ok]
 exact hk
end
theorem Blk.bytes {w : World} {g v N : Nat} (h : Blk 5 w g (rowB v N)) (hN : N ≤ 65536) : Kd.C (Kd.int .u8) w (some ⟨g, 0, none⟩) N (byL v N) := by
 refine ⟨byL_length v N, by omega, fun _ => ⟨_, rfl, fun j p hj => ?_⟩⟩
 have hlt : j < N := by
  rcases Nat.lt_or_ge j N with h1 | h1
  ·exact h1
  ·rw [List.getElem?_eq_none (by rw [byL_length]; exact h1)] at hj; cases hj
 have hp : p = (byt v j : Nat) := by
  unfold byL at hj
  rw [mkL_get N _ j hlt] at hj; exact (Option.some.inj hj).symm
 subst hp
 refine ⟨[.int .u8 (byt v j : Nat)], rfl, rfl, fun i u hu => ?_⟩
 cases i with
 | zero =>
  obtain rfl : Value.int .u8 (byt v j : Nat) = u := Option.some.inj hu
  have := h.cell j (rowB_get v N j hlt)
  rw [show (⟨g, 0, none⟩ : Addr).add (j * (Kd.int .u8).sz + 0) = ⟨g, j, none⟩ by rw [show (Kd.int .u8).sz = 1 from rfl]; simp [Addr.add] <;> omega]
  exact this
 | succ i => cases i <;> cases hu
open Go.RowKit Go.Proofs.YtgmhmpflmgfcdaaGreatDoorW.PrintWords Go.Proofs.YtgmhmpflmgfcdaaGreatDoor.PDivQuotients
theorem wrap_succ (i : Nat) (h : i ≤ 1099511627776) : wrap64 ((i : Int) + 1) = ((i + 1 : Nat) : Int) := by rw [wrap_id _ (by omega) (by omega)]; omega
theorem wrap_pred (n : Nat) (h0 : 1 ≤ n) (h : n ≤ 1099511627776) : wrap64 ((n : Int) - 1) = ((n - 1 : Nat) : Int) := by rw [wrap_id ((n : Int) - 1) (by omega) (by omega)]; omega
theorem fit_l1 (v N : Nat) (hn : nb v ≤ N) (hN : N ≤ 1099511627776) : ∀ d i k : Nat, i + d = nb v → d + 1 ≤ k →
  z05_fit.l1 k (byL v N) (nb v : Int) (mkL (nb v) (fun j => if nb v - 1 - j < i then (byt v (nb v - 1 - j) : Int) else 0)) (i : Int) = some (strB v) := by
 intro d
 induction d with
 | zero =>
  intro i k hi hk
  obtain ⟨k, rfl⟩ : ∃ m, k = m + 1 := ⟨k - 1, by omega⟩
  rw [z05_fit.l1, if_neg (by omega)]
  congr 1
  unfold strB
  congr 1
  exact mkL_ext _ _ _ fun j hj => by rw [if_pos (by omega)]
 | succ d ih =>
  intro i k hi hk
  obtain ⟨k, rfl⟩ : ∃ m, k = m + 1 := ⟨k - 1, by omega⟩
  have e : wrap64 (wrap64 ((nb v : Int) - 1) - (i : Int)) = ((nb v - 1 - i : Nat) : Int) := by
   rw [wrap_pred _ (by omega) (by omega), wrap_id (((nb v - 1 : Nat) : Int) - (i : Int)) (by omega) (by omega)]; omega
  rw [z05_fit.l1, if_pos (by omega), if_pos (by omega), byL_length, if_pos (by omega), e, if_pos (by omega), mkL_length, if_pos (by omega), Int.toNat_natCast, byL_rd v N i (by omega), mkL_set, wrap_succ i (by omega)]
  rw [← ih (i + 1) k (by omega) (by omega)]
  congr 1
  apply mkL_ext
  intro j hj
  by_cases h : j = nb v - 1 - i
  ·rw [if_pos h, if_pos (by omega), h, show nb v - 1 - (nb v - 1 - i) = i by omega]
  ·rw [if_neg h]
   by_cases h2 : nb v - 1 - j < i
   ·rw [if_pos h2, if_pos (by omega)]
   ·rw [if_neg h2, if_neg (by omega)]
theorem fit_j1 (v N : Nat) (hn : nb v ≤ N) (hN : N ≤ 1099511627776) (k : Nat) (hk : nb v + 2 ≤ k) : z05_fit.j1 k (byL v N) (nb v : Int) = some (strB v) := by
 obtain ⟨k, rfl⟩ : ∃ m, k = m + 1 := ⟨k - 1, by omega⟩
 rw [z05_fit.j1, if_pos (by omega), Int.toNat_natCast, if_pos (by omega), ← fit_l1 v N hn hN (nb v) 0 k (by omega) (by omega), mkL_replicate]
 congr 1
theorem fit_l0 (v N : Nat) (hN : N ≤ 1099511627776) : ∀ d n k : Nat, n = nb v + d → n ≤ N → n + 4 ≤ k → z05_fit.l0 k (byL v N) (n : Int) = some (strB v) := by
 intro d
 induction d with
 | zero =>
  intro n k hn hnN hk
  obtain ⟨k, rfl⟩ : ∃ m, k = m + 1 := ⟨k - 1, by omega⟩
  rw [Nat.add_zero] at hn
  subst hn
  rw [z05_fit.l0]
  by_cases h0 : v = 0
  ·subst h0
   rw [if_neg (by rw [nb_zero]; omega)]
   exact fit_j1 0 N hnN hN k (by rw [nb_zero] at *; omega)
  ·have hp := nb_pos v h0
   have hb := byt_top v h0
   rw [if_pos (by omega), wrap_pred _ hp (by omega), if_pos (by omega), byL_length, if_pos (by omega), byL_rd v N _ (by omega), if_neg (by omega)]
   exact fit_j1 v N hnN hN k (by omega)
 | succ d ih =>
  intro n k hn hnN hk
  obtain ⟨k, rfl⟩ : ∃ m, k = m + 1 := ⟨k - 1, by omega⟩
  rw [z05_fit.l0, if_pos (by omega), wrap_pred _ (by omega) (by omega), if_pos (by omega), byL_length, if_pos (by omega), byL_rd v N _ (by omega),
   byt_big v (n - 1) (Nat.lt_of_lt_of_le (nb_lt v) (Nat.pow_le_pow_right (by decide) (by omega))), if_pos (by rfl)]
  exact ih (n - 1) k (by omega) (by omega) (by omega)
theorem fit_byL (v N k : Nat) (hv : v < 256 ^ N) (hN : N ≤ 1099511627776) (hk : N + 4 ≤ k) : z05_fit.f k (byL v N) = some (strB v) := by
 have hn := (nb_le v N).2 hv
 unfold z05_fit.f
 rw [byL_length]
 exact fit_l0 v N hN (N - nb v) N k (by omega) (Nat.le_refl _) hk
theorem carry_step (low t P : Nat) (h : low < P) : (low + t * P) % (256 * P) = low + t % 256 * P ∧ (low + t * P) / (256 * P) = t / 256 := by
 have hP : 0 < P := by omega
 have e1 : (low + t * P) / P = t := by rw [Nat.add_mul_div_right _ _ hP, Nat.div_eq_of_lt h, Nat.zero_add]
 have e2 : (low + t * P) % P = low := by rw [Nat.add_mul_mod_self_right, Nat.mod_eq_of_lt h]
 constructor
 ·rw [Nat.mul_comm 256, Nat.mod_mul, e1, e2, Nat.mul_comm P]
 ·rw [Nat.mul_comm 256, ← Nat.div_div_eq_div_mul, e1]
theorem pow_succ256 (i : Nat) : 256 ^ (i + 1) = 256 * 256 ^ i := by rw [Nat.pow_succ, Nat.mul_comm]
theorem add_step (a b i : Nat) (low c : Nat) (hl : low < 256 ^ i) (hs : a % 256 ^ i + b % 256 ^ i = low + c * 256 ^ i) :
  a % 256 ^ (i + 1) + b % 256 ^ (i + 1) = (low + (c + byt a i + byt b i) % 256 * 256 ^ i) + (c + byt a i + byt b i) / 256 * 256 ^ (i + 1) ∧ low + (c + byt a i + byt b i) % 256 * 256 ^ i < 256 ^ (i + 1) := by
 obtain ⟨t, ht⟩ : ∃ t, c + byt a i + byt b i = t := ⟨_, rfl⟩
 have h1 := carry_step low t (256 ^ i) hl
 have h2 := Nat.div_add_mod (low + t * 256 ^ i) (256 * 256 ^ i)
 rw [h1.1, h1.2] at h2
 rw [ht, pow_succ256]
 constructor
 ·rw [← pow_succ256, mod_byte, mod_byte, pow_succ256]
  have e : a % 256 ^ i + byt a i * 256 ^ i + (b % 256 ^ i + byt b i * 256 ^ i) = low + t * 256 ^ i := by
   rw [← ht, Nat.add_mul, Nat.add_mul]; omega
  rw [e, ← h2, Nat.mul_comm (t / 256)]; omega
 ·rw [← h1.1]; exact Nat.mod_lt _ (Nat.mul_pos (by decide) (pos256 i))
theorem add_l0 (a b n : Nat) (ha : nb a ≤ n) (hb : nb b ≤ n) (hn : n ≤ 1099511627770) : ∀ d i k low c : Nat, i + d = n + 1 → d + n + 8 ≤ k → low < 256 ^ i → c ≤ 1 → a % 256 ^ i + b % 256 ^ i = low + c * 256 ^ i →
  z05_add.l0 k (strB a) (strB b) (n : Int) (byL low (n + 1)) (c : Int) (i : Int) = some (strB (a + b)) := by
 intro d
 induction d with
 | zero =>
  intro i k low c hi hk hl hc hs
  obtain ⟨k, rfl⟩ : ∃ m, k = m + 1 := ⟨k - 1, by omega⟩
  obtain rfl : i = n + 1 := by omega
  have pa := (nb_le a n).1 ha
  have pb := (nb_le b n).1 hb
  have pp : 256 ^ (n + 1) = 256 * 256 ^ n := pow_succ256 n
  have p0 := pos256 n
  rw [Nat.mod_eq_of_lt (by omega), Nat.mod_eq_of_lt (by omega)] at hs
  have hc0 : c = 0 := by
   rcases Nat.eq_zero_or_pos c with h | h
   ·exact h
   ·have : 1 * 256 ^ (n + 1) ≤ c * 256 ^ (n + 1) := Nat.mul_le_mul_right _ h
    omega
  subst hc0
  have hab : low = a + b := by omega
  rw [z05_add.l0, if_neg (by omega), fit_byL low (n + 1) k hl (by omega) (by omega), hab]; rfl
 | succ d ih =>
  intro i k low c hi hk hl hc hs
  obtain ⟨k, rfl⟩ : ∃ m, k = m + 1 := ⟨k - 1, by omega⟩
  have fa : Fine a := by unfold Fine; omega
  have fb : Fine b := by unfold Fine; omega
  have l1 := byt_lt a i
  have l2 := byt_lt b i
  have hc2 : (c + byt a i + byt b i) / 256 ≤ 1 := by clear hs hl ih; omega
  obtain ⟨s1, s2⟩ := add_step a b i low c hl hs
  rw [z05_add.l0, if_pos (by omega), at_strB a i fa (by omega), Option.bind_some, at_strB b i fb (by omega), Option.bind_some, if_pos (by omega), byL_length, if_pos (by omega), Int.toNat_natCast]
  have e : wrap64 (wrap64 ((c : Int) + (byt a i : Int)) + (byt b i : Int)) = ((c + byt a i + byt b i : Nat) : Int) := by
   rw [wrap_id ((c : Int) + (byt a i : Int)) (by omega) (by omega), wrap_id ((c : Int) + (byt a i : Int) + (byt b i : Int)) (by omega) (by omega)]; omega
  rw [e, wrap_succ i (by omega), show (((c + byt a i + byt b i : Nat) : Int) % 256) = (((c + byt a i + byt b i) % 256 : Nat) : Int) by omega, show (((c + byt a i + byt b i : Nat) : Int) / 256) = (((c + byt a i + byt b i) / 256 : Nat) : Int) by omega,
   byL_put low (n + 1) i _ hl (Nat.mod_lt _ (by decide))]
  exact ih (i + 1) k (low + (c + byt a i + byt b i) % 256 * 256 ^ i) ((c + byt a i + byt b i) / 256) (by omega) (by omega) s2 hc2 s1
theorem add_j0 (a b n k : Nat) (ha : nb a ≤ n) (hb : nb b ≤ n) (hn : n ≤ 1099511627770) (hk : 2 * n + 16 ≤ k) : z05_add.j0 k (strB a) (strB b) (n : Int) = some (strB (a + b)) := by
 obtain ⟨k, rfl⟩ : ∃ m, k = m + 1 := ⟨k - 1, by omega⟩
 rw [z05_add.j0, wrap_succ n (by omega), if_pos (by omega), Int.toNat_natCast, if_pos (by omega), byL_zero]
 have h := add_l0 a b n ha hb hn (n + 1) 0 k 0 0 (by omega) (by omega) (by rw [Nat.pow_zero]; decide) (by decide) (by simp [Nat.mod_one])
 rw [Int.natCast_zero] at h
 exact h
theorem add_strB (a b k : Nat) (ha : nb a ≤ 1099511627770) (hb : nb b ≤ 1099511627770) (hk : 2 * (nb a + nb b) + 16 ≤ k) : z05_add.f k (strB a) (strB b) = some (strB (a + b)) := by
 unfold z05_add.f
 rw [size_strB, size_strB]
 by_cases h : (nb b : Int) > (nb a : Int)
 ·rw [if_pos h]; exact add_j0 a b (nb b) k (by omega) (Nat.le_refl _) hb (by omega)
 ·rw [if_neg h]; exact add_j0 a b (nb a) k (Nat.le_refl _) (by omega) ha (by omega)
theorem sub_step (a b i low c d c2 : Nat) (hs : a % 256 ^ i + c * 256 ^ i = low + b % 256 ^ i) (hd : byt a i + 256 * c2 = d + byt b i + c) :
  a % 256 ^ (i + 1) + c2 * 256 ^ (i + 1) = (low + d * 256 ^ i) + b % 256 ^ (i + 1) := by
 rw [mod_byte, mod_byte, pow_succ256, Nat.mul_left_comm c2, ← Nat.mul_assoc 256]
 have h := congrArg (· * 256 ^ i) hd
 simp only [Nat.add_mul] at h
 omega
theorem sub_l0 (a b : Nat) (hab : b ≤ a) (hn : nb a ≤ 1099511627770) : ∀ d i k low c : Nat, i + d = nb a → d + nb a + 8 ≤ k → low < 256 ^ i → c ≤ 1 → a % 256 ^ i + c * 256 ^ i = low + b % 256 ^ i →
  z05_sub.l0 k (strB a) (strB b) (byL low (nb a)) (c : Int) (i : Int) = some (strB (a - b)) := by
 have hnb : nb b ≤ nb a := (nb_le b _).2 (Nat.lt_of_le_of_lt hab (nb_lt a))
 intro d
 induction d with
 | zero =>
  intro i k low c hi hk hl hc hs
  obtain ⟨k, rfl⟩ : ∃ m, k = m + 1 := ⟨k - 1, by omega⟩
  obtain rfl : i = nb a := by omega
  have pa := nb_lt a
  rw [Nat.mod_eq_of_lt pa, Nat.mod_eq_of_lt (Nat.lt_of_le_of_lt hab pa)] at hs
  have hc0 : c = 0 := by
   rcases Nat.eq_zero_or_pos c with h | h
   ·exact h
   ·have : 1 * 256 ^ nb a ≤ c * 256 ^ nb a := Nat.mul_le_mul_right _ h
    omega
  subst hc0
  have : low = a - b := by omega
  rw [z05_sub.l0, size_strB, if_neg (by omega), fit_byL low (nb a) k hl (by omega) (by omega), this]; rfl
 | succ d ih =>
  intro i k low c hi hk hl hc hs
  obtain ⟨k, rfl⟩ : ∃ m, k = m + 1 := ⟨k - 1, by omega⟩
  have fa : Fine a := by unfold Fine; omega
  have fb : Fine b := by unfold Fine; omega
  have l1 := byt_lt a i
  have l2 := byt_lt b i
  rw [z05_sub.l0, size_strB, if_pos (by omega), at_strB a i fa (by omega), Option.bind_some, at_strB b i fb (by omega), Option.bind_some, if_pos (by omega), byL_length, if_pos (by omega), Int.toNat_natCast]
  have e : wrap64 (wrap64 ((byt a i : Int) - (byt b i : Int)) - (c : Int)) = (byt a i : Int) - (byt b i : Int) - (c : Int) := by
   rw [wrap_id ((byt a i : Int) - (byt b i : Int)) (by omega) (by omega), wrap_id ((byt a i : Int) - (byt b i : Int) - (c : Int)) (by omega) (by omega)]
  rw [e, wrap_succ i (by omega), Option.bind_some]
  by_cases ht : (byt a i : Int) - (byt b i : Int) - (c : Int) < 0
  ·obtain ⟨g, hg, hg2⟩ : ∃ g : Nat, ((byt a i : Int) - (byt b i : Int) - (c : Int)) % 256 = (g : Int) ∧ byt a i + 256 * 1 = g + byt b i + c := ⟨byt a i + 256 - byt b i - c, by omega, by omega⟩
   have hg3 : g < 256 := by omega
   have s1 := sub_step a b i low c g 1 hs hg2
   have hl2 : low + g * 256 ^ i < 256 ^ (i + 1) := by
    rw [pow_succ256]
    have : (g + 1) * 256 ^ i ≤ 256 * 256 ^ i := Nat.mul_le_mul_right _ hg3
    rw [Nat.add_mul] at this; omega
   rw [if_pos ht, hg, byL_put low (nb a) i g hl hg3]
   have h := ih (i + 1) k (low + g * 256 ^ i) 1 (by omega) (by omega) hl2 (by decide) s1
   exact h
  ·obtain ⟨g, hg, hg2⟩ : ∃ g : Nat, ((byt a i : Int) - (byt b i : Int) - (c : Int)) % 256 = (g : Int) ∧ byt a i + 256 * 0 = g + byt b i + c := ⟨byt a i - byt b i - c, by omega, by omega⟩
   have hg3 : g < 256 := by omega
   have s1 := sub_step a b i low c g 0 hs hg2
   have hl2 : low + g * 256 ^ i < 256 ^ (i + 1) := by
    rw [pow_succ256]
    have : (g + 1) * 256 ^ i ≤ 256 * 256 ^ i := Nat.mul_le_mul_right _ hg3
    rw [Nat.add_mul] at this; omega
   rw [if_neg ht, hg, byL_put low (nb a) i g hl hg3]
   have h := ih (i + 1) k (low + g * 256 ^ i) 0 (by omega) (by omega) hl2 (by decide) s1
   exact h
theorem sub_strB (a b k : Nat) (hab : b ≤ a) (hn : nb a ≤ 1099511627770) (hk : 2 * nb a + 8 ≤ k) : z05_sub.f k (strB a) (strB b) = some (strB (a - b)) := by
 unfold z05_sub.f
 rw [size_strB, if_pos (by omega), Int.toNat_natCast, if_pos (by omega), byL_zero]
 exact sub_l0 a b hab hn (nb a) 0 k 0 0 (by omega) (by omega) (by rw [Nat.pow_zero]; decide) (by decide) (by simp [Nat.mod_one])
theorem dbl_step (a i low c one : Nat) (hl : low < 256 ^ i) (hs : 2 * (a % 256 ^ i) + one = low + c * 256 ^ i) :
  2 * (a % 256 ^ (i + 1)) + one = (low + (c + 2 * byt a i) % 256 * 256 ^ i) + (c + 2 * byt a i) / 256 * 256 ^ (i + 1) ∧ low + (c + 2 * byt a i) % 256 * 256 ^ i < 256 ^ (i + 1) := by
 obtain ⟨t, ht⟩ : ∃ t, c + 2 * byt a i = t := ⟨_, rfl⟩
 have h1 := carry_step low t (256 ^ i) hl
 have h2 := Nat.div_add_mod (low + t * 256 ^ i) (256 * 256 ^ i)
 rw [h1.1, h1.2] at h2
 rw [ht, pow_succ256]
 constructor
 ·rw [← pow_succ256, mod_byte, pow_succ256]
  have e : 2 * (a % 256 ^ i + byt a i * 256 ^ i) + one = low + t * 256 ^ i := by
   rw [← ht, Nat.add_mul, Nat.mul_assoc]; omega
  rw [e, ← h2, Nat.mul_comm (t / 256)]; omega
 ·rw [← h1.1]; exact Nat.mod_lt _ (Nat.mul_pos (by decide) (pos256 i))
theorem dbl_l0 (a one : Nat) (ho : one ≤ 1) (hn : nb a ≤ 1099511627770) : ∀ d i k low c : Nat, i + d = nb a + 1 → d + nb a + 8 ≤ k → low < 256 ^ i → c ≤ 1 → 2 * (a % 256 ^ i) + one = low + c * 256 ^ i →
  z05_double.l0 k (strB a) (byL low (nb a + 1)) (c : Int) (i : Int) = some (strB (2 * a + one)) := by
 intro d
 induction d with
 | zero =>
  intro i k low c hi hk hl hc hs
  obtain ⟨k, rfl⟩ : ∃ m, k = m + 1 := ⟨k - 1, by omega⟩
  obtain rfl : i = nb a + 1 := by omega
  have pa := nb_lt a
  have pp := pow_succ256 (nb a)
  have p0 := pos256 (nb a)
  rw [Nat.mod_eq_of_lt (by omega)] at hs
  have hc0 : c = 0 := by
   rcases Nat.eq_zero_or_pos c with h | h
   ·exact h
   ·have : 1 * 256 ^ (nb a + 1) ≤ c * 256 ^ (nb a + 1) := Nat.mul_le_mul_right _ h
    omega
  subst hc0
  have : low = 2 * a + one := by omega
  rw [z05_double.l0, size_strB, if_neg (by omega), fit_byL low (nb a + 1) k hl (by omega) (by omega), this]; rfl
 | succ d ih =>
  intro i k low c hi hk hl hc hs
  obtain ⟨k, rfl⟩ : ∃ m, k = m + 1 := ⟨k - 1, by omega⟩
  have fa : Fine a := by unfold Fine; omega
  have l1 := byt_lt a i
  have hc2 : (c + 2 * byt a i) / 256 ≤ 1 := by clear hs hl ih; omega
  obtain ⟨s1, s2⟩ := dbl_step a i low c one hl hs
  rw [z05_double.l0, size_strB, if_pos (by omega), at_strB a i fa (by omega), Option.bind_some, if_pos (by omega), byL_length, if_pos (by omega), Int.toNat_natCast]
  have e : wrap64 ((c : Int) + wrap64 (2 * (byt a i : Int))) = ((c + 2 * byt a i : Nat) : Int) := by
   rw [wrap_id (2 * (byt a i : Int)) (by omega) (by omega), wrap_id ((c : Int) + 2 * (byt a i : Int)) (by omega) (by omega)]; omega
  rw [e, wrap_succ i (by omega), show (((c + 2 * byt a i : Nat) : Int) % 256) = (((c + 2 * byt a i) % 256 : Nat) : Int) by omega, show (((c + 2 * byt a i : Nat) : Int) / 256) = (((c + 2 * byt a i) / 256 : Nat) : Int) by omega,
   byL_put low (nb a + 1) i _ hl (Nat.mod_lt _ (by decide))]
  exact ih (i + 1) k (low + (c + 2 * byt a i) % 256 * 256 ^ i) ((c + 2 * byt a i) / 256) (by omega) (by omega) s2 hc2 s1
theorem double_strB (a one k : Nat) (ho : one ≤ 1) (hn : nb a ≤ 1099511627770) (hk : 2 * nb a + 16 ≤ k) : z05_double.f k (strB a) (one : Int) = some (strB (2 * a + one)) := by
 unfold z05_double.f
 rw [size_strB, wrap_succ _ (by omega), if_pos (by omega), Int.toNat_natCast, if_pos (by omega), byL_zero]
 exact dbl_l0 a one ho hn (nb a + 1) 0 k 0 one (by omega) (by omega) (by rw [Nat.pow_zero]; decide) ho (by simp [Nat.mod_one])
def bitN (a i : Nat) : Nat := a / 2 ^ i % 2
theorem mod_bit (x i : Nat) : x % 2 ^ (i + 1) = x % 2 ^ i + bitN x i * 2 ^ i := by rw [Nat.pow_succ, Nat.mod_mul, Nat.mul_comm]; rfl
theorem bitN_lt (a i : Nat) : bitN a i < 2 := Nat.mod_lt _ (by decide)
def lowGZ : Nat → Nat → Nat
 | 0, _ => 0
 | k + 1, n => if n % 2 = 1 then 0 else lowGZ k (n / 2) + 1
def lowZ (n : Nat) : Nat := if n = 0 then 0 else lowGZ n n
theorem lowGZ_spec : ∀ k n : Nat, n ≠ 0 → n ≤ k → n % 2 ^ lowGZ k n = 0 ∧ bitN n (lowGZ k n) = 1 := by
 intro k
 induction k with
 | zero => intro n h0 h; omega
 | succ k ih =>
  intro n h0 hk
  unfold lowGZ
  by_cases h : n % 2 = 1
  ·rw [if_pos h]; unfold bitN; rw [Nat.pow_zero, Nat.mod_one, Nat.div_one]; exact ⟨rfl, h⟩
  ·rw [if_neg h]
   obtain ⟨h1, h2⟩ := ih (n / 2) (by omega) (by omega)
   generalize lowGZ k (n / 2) = l at *
   constructor
   ·rw [Nat.pow_succ, Nat.mul_comm, Nat.mod_mul, h1]; omega
   ·unfold bitN at *
    rw [Nat.pow_succ, Nat.mul_comm, ← Nat.div_div_eq_div_mul]; exact h2
theorem lowZ_spec (n : Nat) (h : n ≠ 0) : n % 2 ^ lowZ n = 0 ∧ bitN n (lowZ n) = 1 := by
 unfold lowZ; rw [if_neg h]; exact lowGZ_spec n n h (Nat.le_refl _)
theorem low_lt (n i j : Nat) (hi : bitN n i = 1) (hj : n % 2 ^ j = 0) : j ≤ i := by
 rcases Nat.lt_or_ge i j with h | h
 ·exfalso
  obtain ⟨d, rfl⟩ : ∃ d, j = i + 1 + d := ⟨j - i - 1, by omega⟩
  rw [Nat.pow_add, Nat.mod_mul] at hj
  have h2 := mod_bit n i
  rw [hi] at h2
  have := Nat.two_pow_pos i
  omega
 ·exact h
theorem lowZ_unique (n i : Nat) (h1 : n % 2 ^ i = 0) (h2 : bitN n i = 1) : lowZ n = i := by
 have h0 : n ≠ 0 := by rintro rfl; unfold bitN at h2; simp at h2
 obtain ⟨s1, s2⟩ := lowZ_spec n h0
 have a := low_lt n _ _ s2 h1
 have b := low_lt n _ _ h2 s1
 omega
def beL (n v : Nat) : List UInt8 := (List.range n).map fun i => UInt8.ofNat (byt v (n - 1 - i))
theorem beL_strB (v : Nat) : (strB v).toList = beL (nb v) v := by
 rw [strB_list]; unfold mkL beL
 rw [List.map_map]
 rfl
theorem beL_succ (n v : Nat) : beL (n + 1) v = UInt8.ofNat (byt v n) :: beL n v := by
 unfold beL
 rw [List.range_succ_eq_map, List.map_cons, List.map_map]
 congr 1
 apply List.map_congr_left
 intro i _
 show UInt8.ofNat (byt v (n + 1 - 1 - (i + 1))) = _
 rw [show n + 1 - 1 - (i + 1) = n - 1 - i by omega]
theorem u8_lt (x y : Nat) (hx : x < 256) (hy : y < 256) : (UInt8.ofNat x < UInt8.ofNat y) ↔ x < y := by
 rw [UInt8.lt_iff_toNat_lt, UInt8.toNat_ofNat', UInt8.toNat_ofNat']
 omega
theorem u8_eqB (x y : Nat) (hx : x < 256) (hy : y < 256) : (UInt8.ofNat x = UInt8.ofNat y) ↔ x = y := by
 constructor
 ·intro h
  have := congrArg UInt8.toNat h
  rw [UInt8.toNat_ofNat', UInt8.toNat_ofNat'] at this
  omega
 ·rintro rfl; rfl
theorem less_be (n a b : Nat) : Op.bytesLess (beL n a) (beL n b) = decide (a % 256 ^ n < b % 256 ^ n) := by
 induction n with
 | zero => simp [beL, Op.bytesLess, Nat.mod_one]
 | succ n ih =>
  rw [beL_succ, beL_succ, Op.bytesLess, ih, mod_byte, mod_byte]
  have hx := byt_lt a n
  have hy := byt_lt b n
  have hA := Nat.mod_lt a (pos256 n)
  have hB := Nat.mod_lt b (pos256 n)
  generalize byt a n = x at *
  generalize byt b n = y at *
  generalize a % 256 ^ n = A at *
  generalize b % 256 ^ n = B at *
  generalize 256 ^ n = P at *
  rw [Bool.eq_iff_iff]
  simp only [Bool.or_eq_true, Bool.and_eq_true, decide_eq_true_iff, beq_iff_eq, u8_lt x y hx hy, u8_eqB x y hx hy]
  constructor
  ·rintro (h | ⟨rfl, h⟩)
   ·have : (x + 1) * P ≤ y * P := Nat.mul_le_mul_right _ h
    rw [Nat.add_mul] at this; omega
   ·omega
  ·intro h
   rcases Nat.lt_trichotomy x y with h1 | h1 | h1
   ·exact Or.inl h1
   ·subst h1; right; exact ⟨rfl, by omega⟩
   ·have : (y + 1) * P ≤ x * P := Nat.mul_le_mul_right _ h1
    rw [Nat.add_mul] at this; omega
theorem nb_lt_lt (a b : Nat) (h : nb a < nb b) : a < b := by
 have h1 := nb_lt a
 have hb : b ≠ 0 := by rintro rfl; rw [nb_zero] at h; omega
 have h2 := nb_ge b hb
 exact Nat.lt_of_lt_of_le h1 (Nat.le_trans (Nat.pow_le_pow_right (by decide) (by omega)) h2)
theorem cmp_strB (a b : Nat) : z05_Cmp.f (strB a) (strB b) = some (cmpN a b) := by
 unfold z05_Cmp.f cmpN
 rw [size_strB, size_strB]
 by_cases h : (nb a : Int) = (nb b : Int)
 ·have h' : nb a = nb b := by omega
  have ea : a % 256 ^ nb b = a := Nat.mod_eq_of_lt (by rw [← h']; exact nb_lt a)
  have eb : b % 256 ^ nb b = b := Nat.mod_eq_of_lt (nb_lt b)
  rw [if_pos h, beL_strB, beL_strB, h', less_be, less_be, ea, eb]
  by_cases h1 : a < b
  ·rw [if_pos (decide_eq_true h1), if_pos h1]
  ·rw [if_neg (by rw [decide_eq_false h1]; decide), if_neg h1]
   by_cases h2 : b < a
   ·rw [if_pos (decide_eq_true h2), if_pos h2]
   ·rw [if_neg (by rw [decide_eq_false h2]; decide), if_neg h2]
 ·rw [if_neg h]
  by_cases h2 : (nb a : Int) < (nb b : Int)
  ·rw [if_pos h2, if_pos (nb_lt_lt a b (by omega))]
  ·have h3 := nb_lt_lt b a (by omega)
   rw [if_neg h2, if_neg (by omega), if_pos h3]
theorem and1_u64 (n : Nat) (hn : n < 18446744073709551616) : Go.bits .and .u64 (n : Int) 1 = ((n % 2 : Nat) : Int) := by
 have h1 : (BitVec.ofInt 64 1).toNat = 2 ^ 1 - 1 := by decide
 have key : (BitVec.ofInt 64 (n : Int) &&& BitVec.ofInt 64 1).toNat = ((n : Int) % ((2 ^ 64 : Nat) : Int)).toNat % 2 ^ 1 := by
  rw [BitVec.toNat_and, BitVec.toNat_ofInt, h1, Nat.and_two_pow_sub_one_eq_mod]
 show IntKind.u64.wrap ((BitVec.ofInt 64 (n : Int) &&& BitVec.ofInt 64 1).toNat : Nat) = _
 rw [key, IntKind.wrap_u64]
 omega
theorem and1_i64 (n : Int) : Go.bits .and .i64 n 1 = n % 2 := by
 have h1 : (BitVec.ofInt 64 1).toNat = 2 ^ 1 - 1 := by decide
 have key : (BitVec.ofInt 64 n &&& BitVec.ofInt 64 1).toNat = (n % ((2 ^ 64 : Nat) : Int)).toNat % 2 ^ 1 := by
  rw [BitVec.toNat_and, BitVec.toNat_ofInt, h1, Nat.and_two_pow_sub_one_eq_mod]
 show IntKind.i64.wrap ((BitVec.ofInt 64 n &&& BitVec.ofInt 64 1).toNat : Nat) = n % 2
 rw [key, IntKind.wrap_i64]
 omega
theorem shr_nat (k : IntKind) (x i : Nat) (hi : i ≤ k.bits) : shr k (x : Int) (i : Int) = ((x / 2 ^ i : Nat) : Int) := by
 unfold shr
 rw [Int.toNat_natCast, Nat.min_eq_left hi, Int.natCast_ediv, Int.natCast_pow]; rfl
theorem bit_word (x i : Nat) (hx : x < 18446744073709551616) (hi : i < 64) : z01_Bit.f (x : Int) (i : Int) = some (decide (bitN x i = 1)) := by
 unfold z01_Bit.f bitN
 have e : IntKind.u64.wrap (i : Int) = (i : Int) := by rw [IntKind.wrap_u64]; omega
 rw [if_pos (by omega), if_pos (by omega), e, if_pos (by omega), shr_nat .u64 x i (by show i ≤ 64; omega), and1_u64 _ (Nat.lt_of_le_of_lt (Nat.div_le_self _ _) hx)]
 congr 1
 rw [Bool.eq_iff_iff, beq_iff_eq, decide_eq_true_iff]
 omega
theorem len_bit (x i : Nat) : lenN (x % 2 ^ (i + 1)) = if bitN x i = 1 then i + 1 else lenN (x % 2 ^ i) := by
 have h1 := Nat.mod_lt x (Nat.two_pow_pos i)
 have h2 := bitN_lt x i
 rw [mod_bit]
 by_cases h : bitN x i = 1
 ·rw [if_pos h, h, Nat.one_mul]
  apply lenN_unique
  ·rw [Nat.add_sub_cancel]; omega
  ·rw [Nat.pow_succ]; omega
  ·omega
 ·rw [if_neg h, show bitN x i = 0 by omega, Nat.zero_mul, Nat.add_zero]
theorem len_l0 (x : Nat) (hx : x < 18446744073709551616) : ∀ d i k : Nat, i + d = 64 → d + 1 ≤ k → z01_Len.l0 k (x : Int) (lenN (x % 2 ^ i) : Int) (i : Int) = some (lenN x : Int) := by
 intro d
 induction d with
 | zero =>
  intro i k hi hk
  obtain ⟨k, rfl⟩ : ∃ m, k = m + 1 := ⟨k - 1, by omega⟩
  obtain rfl : i = 64 := by omega
  rw [z01_Len.l0, if_neg (by omega), Nat.mod_eq_of_lt (by rw [show (2 : Nat) ^ 64 = 18446744073709551616 by decide]; exact hx)]
 | succ d ih =>
  intro i k hi hk
  obtain ⟨k, rfl⟩ : ∃ m, k = m + 1 := ⟨k - 1, by omega⟩
  have h := ih (i + 1) k (by omega) (by omega)
  rw [len_bit] at h
  rw [z01_Len.l0, if_pos (by omega), bit_word x i hx (by omega), Option.bind_some, wrap_succ i (by omega)]
  by_cases hb : bitN x i = 1
  ·rw [if_pos hb] at h
   rw [if_pos (decide_eq_true hb)]; exact h
  ·rw [if_neg hb] at h
   rw [if_neg (by rw [decide_eq_false hb]; decide)]; exact h
theorem len_word (x k : Nat) (hx : x < 18446744073709551616) (hk : 65 ≤ k) : z01_Len.f k (x : Int) = some (lenN x : Int) := by
 unfold z01_Len.f
 have h := len_l0 x hx 64 0 k (by omega) hk
 rw [Nat.pow_zero, Nat.mod_one] at h
 exact h
theorem lenN_topB (a : Nat) (h : a ≠ 0) : lenN a = 8 * (nb a - 1) + lenN (byt a (nb a - 1)) := by
 have hp := nb_pos a h
 have hb := byt_top a h
 have h2 := nb_lt a
 have e : a / 2 ^ (8 * (nb a - 1)) = byt a (nb a - 1) := by
  unfold byt
  rw [pow256, Nat.mod_eq_of_lt]
  rw [Nat.div_lt_iff_lt_mul (Nat.two_pow_pos _), ← pow256, Nat.mul_comm, ← Nat.pow_succ, show (nb a - 1).succ = nb a by omega]; exact h2
 have := lenN_div a (8 * (nb a - 1)) (by rw [e]; exact hb)
 rw [e] at this; omega
theorem len_strB (a k : Nat) (hn : nb a ≤ 16384) (hk : 65 ≤ k) : z05_Len.f k (strB a) = some (lenN a : Int) := by
 unfold z05_Len.f
 rw [may_strB a hn, Option.bind_some, if_pos rfl]
 by_cases h : a = 0
 ·subst h; rw [if_pos ((strB_empty 0).2 rfl)]; rfl
 ·have hp := nb_pos a h
  have hb := bt_strB a 0 (by omega)
  have hl := byt_lt a (nb a - 1 - 0)
  have e : IntKind.u64.wrap (byt a (nb a - 1 - 0) : Int) = (byt a (nb a - 1 - 0) : Int) := by rw [IntKind.wrap_u64]; omega
  have ht := lenN_topB a h
  have hl2 := (lenN_le (byt a (nb a - 1)) 8).2 (byt_lt a (nb a - 1))
  rw [if_neg (fun q => h ((strB_empty a).1 q)), size_strB, if_pos (by omega), show (0 : Int) = ((0 : Nat) : Int) from rfl, hb, e, len_word _ k (by omega) hk, Option.bind_some, Nat.sub_zero, wrap_pred _ hp (by omega), wrap_id (8 * ((nb a - 1 : Nat) : Int)) (by omega) (by omega), wrap_id (8 * ((nb a - 1 : Nat) : Int) + (lenN (byt a (nb a - 1)) : Int)) (by omega) (by omega)]
  congr 1; omega
theorem bit_strB (a i : Nat) (ha : Fine a) (hi : i ≤ 1099511627776) : z05_bit.f (strB a) (i : Int) = some (bitN a i : Int) := by
 unfold z05_bit.f
 have e1 : wrap64 (Int.tdiv (i : Int) 8) = ((i / 8 : Nat) : Int) := by
  rw [Int.tdiv_eq_ediv_of_nonneg (by omega), wrap_id ((i : Int) / 8) (by omega) (by omega)]; omega
 have e2 : IntKind.u64.wrap (Int.tmod (i : Int) 8) = ((i % 8 : Nat) : Int) := by
  rw [Int.tmod_eq_emod_of_nonneg (by omega), IntKind.wrap_u64]; omega
 rw [e1, at_strB a _ ha (by omega), Option.bind_some, e2, if_pos (by omega), shr_nat .i64 _ _ (by show i % 8 ≤ 64; omega), and1_i64]
 congr 1
 have key : byt a (i / 8) / 2 ^ (i % 8) % 2 = bitN a i := by
  unfold byt bitN
  rw [pow256]
  have h := Nat.testBit_mod_two_pow (a / 2 ^ (8 * (i / 8))) 8 (i % 8)
  rw [Nat.testBit_eq_decide_div_mod_eq, Nat.testBit_eq_decide_div_mod_eq, decide_eq_true (show i % 8 < 8 by omega), Bool.true_and, Nat.div_div_eq_div_mul, ← Nat.pow_add, show 8 * (i / 8) + i % 8 = i by omega] at h
  have h1 : a / 2 ^ (8 * (i / 8)) % 2 ^ 8 / 2 ^ (i % 8) % 2 < 2 := Nat.mod_lt _ (by decide)
  have h2 : a / 2 ^ i % 2 < 2 := Nat.mod_lt _ (by decide)
  have h3 := decide_eq_decide.1 h
  show a / 2 ^ (8 * (i / 8)) % 2 ^ 8 / 2 ^ (i % 8) % 2 = a / 2 ^ i % 2
  omega
 omega
theorem low_l0 (x : Nat) (h0 : x ≠ 0) (hx : x < 18446744073709551616) : ∀ d i k : Nat, i + d = 64 → d + 1 ≤ k → x % 2 ^ i = 0 → z01_Low.l0 k (x : Int) (i : Int) = some (lowZ x : Int) := by
 intro d
 induction d with
 | zero =>
  intro i k hi hk hz
  obtain rfl : i = 64 := by omega
  rw [Nat.mod_eq_of_lt (by rw [show (2 : Nat) ^ 64 = 18446744073709551616 by decide]; exact hx)] at hz
  exact absurd hz h0
 | succ d ih =>
  intro i k hi hk hz
  obtain ⟨k, rfl⟩ : ∃ m, k = m + 1 := ⟨k - 1, by omega⟩
  rw [z01_Low.l0, if_pos (by omega), bit_word x i hx (by omega), Option.bind_some, wrap_succ i (by omega)]
  by_cases hb : bitN x i = 1
  ·rw [if_pos (decide_eq_true hb), lowZ_unique x i hz hb]
  ·rw [if_neg (by rw [decide_eq_false hb]; decide)]
   refine ih (i + 1) k (by omega) (by omega) ?_
   have := bitN_lt x i
   rw [mod_bit, hz, show bitN x i = 0 by omega]; simp
theorem low_wordB (x k : Nat) (h0 : x ≠ 0) (hx : x < 18446744073709551616) (hk : 65 ≤ k) : z01_Low.f k (x : Int) = some (lowZ x : Int) := by
 unfold z01_Low.f
 have h := low_l0 x h0 hx 64 0 k (by omega) hk (by rw [Nat.pow_zero, Nat.mod_one])
 exact h
theorem byte_bit (a i l : Nat) (hl : l < 8) : bitN (byt a i) l = bitN a (8 * i + l) := by
 unfold byt bitN
 rw [pow256]
 have h := Nat.testBit_mod_two_pow (a / 2 ^ (8 * i)) 8 l
 rw [Nat.testBit_eq_decide_div_mod_eq, Nat.testBit_eq_decide_div_mod_eq, decide_eq_true hl, Bool.true_and, Nat.div_div_eq_div_mul, ← Nat.pow_add] at h
 have h1 : a / 2 ^ (8 * i) % 2 ^ 8 / 2 ^ l % 2 < 2 := Nat.mod_lt _ (by decide)
 have h2 : a / 2 ^ (8 * i + l) % 2 < 2 := Nat.mod_lt _ (by decide)
 have h3 := decide_eq_decide.1 h
 show a / 2 ^ (8 * i) % 2 ^ 8 / 2 ^ l % 2 = a / 2 ^ (8 * i + l) % 2
 omega
theorem lowZ_byte (a i : Nat) (hz : a % 256 ^ i = 0) (hb : byt a i ≠ 0) : lowZ a = 8 * i + lowZ (byt a i) := by
 obtain ⟨s1, s2⟩ := lowZ_spec (byt a i) hb
 have hl : lowZ (byt a i) < 8 := by
  rcases Nat.lt_or_ge (lowZ (byt a i)) 8 with h | h
  ·exact h
  ·exfalso
   have h1 := byt_lt a i
   have h2 : 2 ^ 8 ≤ 2 ^ lowZ (byt a i) := Nat.pow_le_pow_right (by decide) h
   rw [Nat.mod_eq_of_lt (by omega)] at s1
   exact hb s1
 refine lowZ_unique a _ ?_ (by rw [← byte_bit a i _ hl]; exact s2)
 generalize lowZ (byt a i) = l at *
 rw [pow256] at hz
 rw [Nat.pow_add, Nat.mod_mul, hz]
 have h3 : a / 2 ^ (8 * i) % 2 ^ l = byt a i % 2 ^ l := by
  unfold byt; rw [pow256, show (256 : Nat) = 2 ^ 8 from rfl, Nat.mod_mod_of_dvd _ (Nat.pow_dvd_pow 2 (by omega))]
 rw [h3, s1]; simp
theorem low5_l0 (a : Nat) (hn : nb a ≤ 16384) : ∀ d i k : Nat, i + d = nb a → d + 70 ≤ k → a % 256 ^ i = 0 → z05_Low.l0 k (strB a) (i : Int) = some (lowZ a : Int) := by
 intro d
 induction d with
 | zero =>
  intro i k hi hk hz
  obtain ⟨k, rfl⟩ : ∃ m, k = m + 1 := ⟨k - 1, by omega⟩
  obtain rfl : i = nb a := by omega
  rw [Nat.mod_eq_of_lt (nb_lt a)] at hz
  subst hz
  rw [z05_Low.l0, size_strB, if_neg (by omega)]; rfl
 | succ d ih =>
  intro i k hi hk hz
  obtain ⟨k, rfl⟩ : ∃ m, k = m + 1 := ⟨k - 1, by omega⟩
  have fa : Fine a := by unfold Fine; omega
  have hbl := byt_lt a i
  rw [z05_Low.l0, size_strB, if_pos (by omega), at_strB a i fa (by omega), Option.bind_some]
  by_cases hb : byt a i = 0
  ·rw [if_pos (by omega), wrap_succ i (by omega)]
   exact ih (i + 1) k (by omega) (by omega) (by rw [mod_byte, hz, hb]; simp)
  ·have e : IntKind.u64.wrap (byt a i : Int) = (byt a i : Int) := by rw [IntKind.wrap_u64]; omega
   have hlow := lowZ_byte a i hz hb
   have h8 : lowZ (byt a i) ≤ 64 := by
    obtain ⟨s1, s2⟩ := lowZ_spec (byt a i) hb
    rcases Nat.lt_or_ge 64 (lowZ (byt a i)) with h | h
    ·exfalso
     have h2 : 2 ^ 8 ≤ 2 ^ lowZ (byt a i) := Nat.pow_le_pow_right (by decide) (by omega)
     rw [Nat.mod_eq_of_lt (by omega)] at s1
     exact hb s1
    ·exact h
   rw [if_neg (by omega), Option.bind_some, e, low_wordB _ k hb (by omega) (by omega), Option.bind_some, wrap_id (8 * (i : Int)) (by omega) (by omega), wrap_id (8 * (i : Int) + (lowZ (byt a i) : Int)) (by omega) (by omega), hlow]
   first | rfl | (congr 1; omega)
theorem low_strB (a k : Nat) (hn : nb a ≤ 16384) (hk : nb a + 70 ≤ k) : z05_Low.f k (strB a) = some (lowZ a : Int) := by
 unfold z05_Low.f
 rw [may_strB a hn, Option.bind_some, if_pos rfl]
 exact low5_l0 a hn (nb a) 0 k (by omega) (by omega) (by rw [Nat.pow_zero, Nat.mod_one])
theorem or_join (x y : Nat) (hx : x < 256) (hy : y < 256) : Go.bits .or .i64 (x : Int) (wrap64 ((y : Int) * 256)) = ((x + 256 * y : Nat) : Int) := by
 rw [wrap_id ((y : Int) * 256) (by omega) (by omega)]
 have e1 : (BitVec.ofInt 64 (x : Int)).toNat = x := by rw [BitVec.toNat_ofInt]; omega
 have e2 : (BitVec.ofInt 64 ((y : Int) * 256)).toNat = 256 * y := by rw [BitVec.toNat_ofInt]; omega
 have e3 : 256 * y ||| x = 256 * y + x := by
  have := Nat.two_pow_add_eq_or_of_lt (i := 8) (b := x) hx y
  exact this.symm
 show IntKind.i64.wrap ((BitVec.ofInt 64 (x : Int) ||| BitVec.ofInt 64 ((y : Int) * 256)).toNat : Nat) = _
 rw [BitVec.toNat_or, e1, e2, Nat.or_comm, e3, IntKind.wrap_i64]
 omega
theorem two_bytes (a p r : Nat) (hr : r ≤ 8) : (byt a p + 256 * byt a (p + 1)) / 2 ^ r % 256 = a / 2 ^ (8 * p + r) % 256 := by
 have e : byt a p + 256 * byt a (p + 1) = a / 256 ^ p % (256 * 256) := by
  rw [Nat.mod_mul, Nat.div_div_eq_div_mul, ← Nat.pow_succ]; rfl
 rw [e, pow256, show (256 * 256 : Nat) = 2 ^ r * 2 ^ (16 - r) by rw [← Nat.pow_add, show r + (16 - r) = 16 by omega], Nat.mod_mul_right_div_self, Nat.div_div_eq_div_mul, ← Nat.pow_add, show (256 : Nat) = 2 ^ 8 from rfl, Nat.mod_mod_of_dvd _ (Nat.pow_dvd_pow 2 (by omega))]
theorem right_lt (a n m : Nat) (hm : m + n / 8 = nb a) : a / 2 ^ n < 256 ^ m := by
 rw [Nat.div_lt_iff_lt_mul (Nat.two_pow_pos n), pow256, ← Nat.pow_add]
 have h1 := nb_lt a
 rw [pow256] at h1
 exact Nat.lt_of_lt_of_le h1 (Nat.pow_le_pow_right (by decide) (by omega))
theorem right_l0 (a n m : Nat) (lost : Bool) (ha : nb a ≤ 1099511627770) (hn : n ≤ 1099511627776) (hm : m + n / 8 = nb a) : ∀ d i k : Nat, i + d = m → d + m + 8 ≤ k →
  z05_Right.l0 k (strB a) (n : Int) lost (m : Int) (byL (a / 2 ^ n % 256 ^ i) m) (i : Int) = some (strB (a / 2 ^ n), lost, 0) := by
 have fa : Fine a := by unfold Fine; omega
 have hq : wrap64 (Int.tdiv (n : Int) 8) = ((n / 8 : Nat) : Int) := by
  rw [Int.tdiv_eq_ediv_of_nonneg (by omega), wrap_id ((n : Int) / 8) (by omega) (by omega)]; omega
 have hr : IntKind.u64.wrap (Int.tmod (n : Int) 8) = ((n % 8 : Nat) : Int) := by
  rw [Int.tmod_eq_emod_of_nonneg (by omega), IntKind.wrap_u64]; omega
 intro d
 induction d with
 | zero =>
  intro i k hi hk
  obtain ⟨k, rfl⟩ : ∃ q, k = q + 1 := ⟨k - 1, by omega⟩
  obtain rfl : i = m := by omega
  rw [z05_Right.l0, if_neg (by omega), Nat.mod_eq_of_lt (right_lt a n i hm), fit_byL _ i k (right_lt a n i hm) (by omega) (by omega)]; rfl
 | succ d ih =>
  intro i k hi hk
  obtain ⟨k, rfl⟩ : ∃ q, k = q + 1 := ⟨k - 1, by omega⟩
  have e1 : wrap64 ((i : Int) + ((n / 8 : Nat) : Int)) = ((i + n / 8 : Nat) : Int) := by rw [wrap_id ((i : Int) + ((n / 8 : Nat) : Int)) (by omega) (by omega)]; omega
  have b1 := byt_lt a (i + n / 8)
  have b2 := byt_lt a (i + n / 8 + 1)
  rw [z05_Right.l0, if_pos (by omega), hq, e1, at_strB a (i + n / 8) fa (by omega), Option.bind_some, wrap_succ (i + n / 8) (by omega), at_strB a (i + n / 8 + 1) fa (by omega), Option.bind_some, hr, if_pos (by omega), if_pos (by omega), byL_length, if_pos (by omega), Int.toNat_natCast,
   or_join _ _ b1 b2, shr_nat .i64 _ _ (by show n % 8 ≤ 64; omega), wrap_succ i (by omega)]
  have key := two_bytes a (i + n / 8) (n % 8) (by omega)
  rw [show 8 * (i + n / 8) + n % 8 = n + 8 * i by omega, Nat.pow_add, ← Nat.div_div_eq_div_mul, ← pow256] at key
  have key2 : (byt a (i + n / 8) + 256 * byt a (i + n / 8 + 1)) / 2 ^ (n % 8) % 256 = byt (a / 2 ^ n) i := key
  rw [show ((((byt a (i + n / 8) + 256 * byt a (i + n / 8 + 1)) / 2 ^ (n % 8) : Nat) : Int) % 256) = (((byt a (i + n / 8) + 256 * byt a (i + n / 8 + 1)) / 2 ^ (n % 8) % 256 : Nat) : Int) from (Int.natCast_emod _ _).symm, key2,
   byL_put _ m i _ (Nat.mod_lt _ (pos256 i)) (byt_lt _ _), ← mod_byte]
  exact ih (i + 1) k (by omega) (by omega)
theorem right_strB (a n k : Nat) (ha : nb a ≤ 16384) (hn : n ≤ 1099511627770) (hk : 2 * nb a + 80 ≤ k) : ∃ lost, z05_Right.f k (strB a) (n : Int) = some (strB (a / 2 ^ n), lost, 0) := by
 unfold z05_Right.f
 rw [if_neg (by omega), size_strB]
 by_cases h : a = 0
 ·subst h
  rw [if_pos ((strB_empty 0).2 rfl), Nat.zero_div]; exact ⟨_, rfl⟩
 ·rw [if_neg (fun q => h ((strB_empty a).1 q)), low_strB a k ha (by omega), Option.bind_some, wrap_id (8 * (nb a : Int)) (by omega) (by omega)]
  by_cases hbig : (n : Int) ≥ 8 * (nb a : Int)
  ·have hz : a / 2 ^ n = 0 := by
    apply Nat.div_eq_of_lt
    have h1 := nb_lt a
    rw [pow256] at h1
    exact Nat.lt_of_lt_of_le h1 (Nat.pow_le_pow_right (by decide) (by omega))
   rw [if_pos hbig, hz]; exact ⟨_, rfl⟩
  ·have hq : wrap64 (Int.tdiv (n : Int) 8) = ((n / 8 : Nat) : Int) := by
    rw [Int.tdiv_eq_ediv_of_nonneg (by omega), wrap_id ((n : Int) / 8) (by omega) (by omega)]; omega
   have hm : wrap64 ((nb a : Int) - ((n / 8 : Nat) : Int)) = ((nb a - n / 8 : Nat) : Int) := by
    rw [wrap_id ((nb a : Int) - ((n / 8 : Nat) : Int)) (by omega) (by omega)]; omega
   rw [if_neg hbig, hq, hm, if_pos (by omega), Int.toNat_natCast, if_pos (by omega), byL_zero]
   have h := right_l0 a n (nb a - n / 8) (decide ((n : Int) > (lowZ a : Int))) (by omega) (by omega) (by omega) (nb a - n / 8) 0 k (by omega) (by omega)
   rw [Nat.pow_zero, Nat.mod_one] at h
   exact ⟨_, h⟩
def putB (V p d : Nat) : Nat := V % 256 ^ p + (d + 256 * (V / 256 ^ (p + 1))) * 256 ^ p
theorem split_at (V p : Nat) : V = V % 256 ^ p + (byt V p + 256 * (V / 256 ^ (p + 1))) * 256 ^ p := by
 have h3 : byt V p + 256 * (V / 256 ^ (p + 1)) = V / 256 ^ p := by
  unfold byt; rw [Nat.pow_succ, ← Nat.div_div_eq_div_mul]; exact Nat.mod_add_div _ _
 rw [h3, Nat.mul_comm (V / 256 ^ p)]
 exact (Nat.mod_add_div V (256 ^ p)).symm
theorem putB_sum (V p d : Nat) : putB V p d + byt V p * 256 ^ p = V + d * 256 ^ p := by
 have h := split_at V p
 rw [Nat.add_mul] at h
 unfold putB
 rw [Nat.add_mul]
 generalize 256 * (V / 256 ^ (p + 1)) * 256 ^ p = X at *
 generalize byt V p * 256 ^ p = Y at *
 generalize d * 256 ^ p = Z at *
 omega
theorem putB_lo (V p d : Nat) : putB V p d % 256 ^ p = V % 256 ^ p := by
 unfold putB; rw [Nat.add_mul_mod_self_right, Nat.mod_mod]
theorem putB_at (V p d : Nat) (hd : d < 256) : byt (putB V p d) p = d := by
 unfold byt putB
 rw [Nat.add_mul_div_right _ _ (pos256 p), Nat.div_eq_of_lt (Nat.mod_lt _ (pos256 p)), Nat.zero_add, Nat.add_mul_mod_self_left, Nat.mod_eq_of_lt hd]
theorem putB_hi (V p d : Nat) (hd : d < 256) : putB V p d / 256 ^ (p + 1) = V / 256 ^ (p + 1) := by
 rw [Nat.pow_succ, ← Nat.div_div_eq_div_mul]
 unfold putB
 rw [Nat.add_mul_div_right _ _ (pos256 p), Nat.div_eq_of_lt (Nat.mod_lt _ (pos256 p)), Nat.zero_add, Nat.pow_succ]
 omega
theorem byt_mod (V p j : Nat) (hj : j < p) : byt (V % 256 ^ p) j = byt V j := by
 have h := split_at V p
 have e : byt V j = byt (V % 256 ^ p + (byt V p + 256 * (V / 256 ^ (p + 1))) * 256 ^ p) j := by rw [← h]
 rw [e, byt_add_lo _ _ p j hj]
theorem byt_div (V p j : Nat) (hj : p < j) : byt V j = V / 256 ^ (p + 1) / 256 ^ (j - (p + 1)) % 256 := by
 unfold byt; rw [Nat.div_div_eq_div_mul, ← Nat.pow_add, show p + 1 + (j - (p + 1)) = j by omega]
theorem byL_over (V N p d : Nat) (hd : d < 256) : (byL V N).set p (d : Int) = byL (putB V p d) N := by
 unfold byL; rw [mkL_set]
 apply mkL_ext
 intro j _
 by_cases h : j = p
 ·rw [if_pos h, h, putB_at V p d hd]
 ·rw [if_neg h]
  rcases Nat.lt_or_ge j p with hlt | hge
  ·rw [← byt_mod (putB V p d) p j hlt, putB_lo, byt_mod V p j hlt]
  ·rw [byt_div V p j (by omega), byt_div (putB V p d) p j (by omega), putB_hi V p d hd]
theorem nb_mul (a b : Nat) : nb (a * b) ≤ nb a + nb b := by
 rw [nb_le, Nat.pow_add]; exact Nat.mul_lt_mul'' (nb_lt a) (nb_lt b)
theorem dig_wrap (c v y : Nat) (hc : c < 256) (hv : v < 256) (hy : y ≤ 255 * 255) : wrap64 (wrap64 ((c : Int) + wrap64 (v : Int)) + wrap64 (y : Int)) = ((c + v + y : Nat) : Int) := by
 rw [wrap_id (v : Int) (by omega) (by omega), wrap_id ((c : Int) + (v : Int)) (by omega) (by omega), wrap_id (y : Int) (by omega) (by omega), wrap_id ((c : Int) + (v : Int) + (y : Int)) (by omega) (by omega)]; omega
theorem dig_lt (c v y : Nat) (hc : c < 256) (hv : v < 256) (hy : y ≤ 255 * 255) : (c + v + y) / 256 < 256 := by omega
theorem mod_up (m : Nat) : ((m : Nat) : Int) % 256 = ((m % 256 : Nat) : Int) := by omega
theorem div_up (m : Nat) : ((m : Nat) : Int) / 256 = ((m / 256 : Nat) : Int) := by omega
def Sum (V c P S : Nat) : Prop := V + c * P = S
theorem carry_zero (P T V c : Nat) (hT : T < P) (hV : V + c * P = T) : c = 0 := by
 rcases Nat.eq_zero_or_pos c with h | h
 ·exact h
 ·have h1 := Nat.mul_le_mul_right P h
  omega
theorem step_sum (V' V b c d q y P S : Nat) (hs : V' + b * P = V + d * P) (hdm : 256 * q + d = c + b + y) (hV : V + c * P = S) : V' + q * (256 * P) = S + y * P := by
 have h2 := congrArg (· * P) hdm
 simp only [Nat.add_mul] at h2
 have h3 : q * (256 * P) = 256 * q * P := by rw [← Nat.mul_assoc, Nat.mul_comm q]
 rw [h3]
 omega
set_option maxHeartbeats 400000 in
/-- The carry put into the places above. -/
theorem mul_l2 (a b i N T : Nat) (hN : N ≤ 1099511627770) (hT : ∀ V c : Nat, V + c * 256 ^ N = T → c = 0) (K : Nat) (r : Option (ByteArray × Int)) (hr : ∀ k, K ≤ k → z05_Mul.l0 k (strB a) (strB b) (byL T N) ((i + 1 : Nat) : Int) = r) (hi : i ≤ 1099511627770) :
  ∀ d V c p k : Nat, p + d = N → d + 1 + K ≤ k → c < 256 → Sum V c (256 ^ p) T → z05_Mul.l2 k (strB a) (strB b) (byL V N) (i : Int) (c : Int) (p : Int) = r := by
 intro d
 induction d with
 | zero =>
  intro V c p k hp hk hc hV
  obtain ⟨k, rfl⟩ : ∃ q, k = q + 1 := ⟨k - 1, by omega⟩
  obtain rfl : p = N := by omega
  have hc0 : c = 0 := hT V c hV
  subst hc0
  unfold Sum at hV
  rw [Nat.zero_mul, Nat.add_zero] at hV
  subst hV
  rw [z05_Mul.l2, if_neg (by omega), wrap_succ i (by omega)]
  exact hr k (by omega)
 | succ d ih =>
  intro V c p k hp hk hc hV
  obtain ⟨k, rfl⟩ : ∃ q, k = q + 1 := ⟨k - 1, by omega⟩
  rw [z05_Mul.l2]
  by_cases h0 : (c : Int) > 0
  ·have hb := byt_lt V p
   have e : wrap64 ((c : Int) + wrap64 (byt V p : Int)) = ((c + byt V p : Nat) : Int) := by
    rw [wrap_id (byt V p : Int) (by omega) (by omega), wrap_id ((c : Int) + (byt V p : Int)) (by omega) (by omega)]; omega
   rw [if_pos h0, if_pos (by omega), byL_length, if_pos (by omega), Int.toNat_natCast, byL_rd V N p (by omega), e, show (((c + byt V p : Nat) : Int) % 256) = (((c + byt V p) % 256 : Nat) : Int) by omega, show (((c + byt V p : Nat) : Int) / 256) = (((c + byt V p) / 256 : Nat) : Int) by omega,
    byL_over V N p _ (Nat.mod_lt _ (by decide)), wrap_succ p (by omega)]
   refine ih (putB V p ((c + byt V p) % 256)) ((c + byt V p) / 256) (p + 1) k (by omega) (by omega) (by omega) ?_
   have hs := putB_sum V p ((c + byt V p) % 256)
   have hdm := Nat.div_add_mod (c + byt V p) 256
   unfold Sum
   have h2 := step_sum _ V (byt V p) c _ _ 0 (256 ^ p) T hs hdm hV
   rw [pow_succ256]
   simpa using h2
  ·have hc0 : c = 0 := by omega
   subst hc0
   unfold Sum at hV
   rw [Nat.zero_mul, Nat.add_zero] at hV
   subst hV
   rw [if_neg h0, wrap_succ i (by omega)]
   exact hr k (by omega)
set_option maxHeartbeats 400000 in
/-- One digit of the first factor times the second one. -/
theorem mul_l1 (a b i N V0 x : Nat) (hb : nb b ≤ 1099511627000) (hN : N ≤ 1099511627770) (hx : x < 256) (hib : i + nb b ≤ N) (hT : ∀ V c : Nat, V + c * 256 ^ N = V0 + x * b * 256 ^ i → c = 0) (K : Nat) (r : Option (ByteArray × Int))
  (hr : ∀ k, K ≤ k → z05_Mul.l0 k (strB a) (strB b) (byL (V0 + x * b * 256 ^ i) N) ((i + 1 : Nat) : Int) = r) :
  ∀ d V c j k : Nat, j + d = nb b → d + 2 + N + K ≤ k → c < 256 → Sum V c (256 ^ (i + j)) (V0 + x * (b % 256 ^ j) * 256 ^ i) → j + i < N + 1 →
  z05_Mul.l1 k (strB a) (strB b) (byL V N) (i : Int) (c : Int) (x : Int) (j : Int) = r := by
 have fb : Fine b := by unfold Fine; omega
 intro d
 induction d with
 | zero =>
  intro V c j k hj hk hc hV hjn
  obtain ⟨k, rfl⟩ : ∃ q, k = q + 1 := ⟨k - 1, by omega⟩
  obtain rfl : j = nb b := by omega
  rw [Nat.mod_eq_of_lt (nb_lt b)] at hV
  rw [z05_Mul.l1, size_strB, if_neg (by omega), show wrap64 ((i : Int) + (nb b : Int)) = ((i + nb b : Nat) : Int) by rw [wrap_id ((i : Int) + (nb b : Int)) (by omega) (by omega)]; omega]
  exact mul_l2 a b i N _ hN hT K r hr (by omega) (N - (i + nb b)) V c (i + nb b) k (by omega) (by omega) hc hV
 | succ d ih =>
  intro V c j k hj hk hc hV hjn
  obtain ⟨k, rfl⟩ : ∃ q, k = q + 1 := ⟨k - 1, by omega⟩
  have h1 := byt_lt V (i + j)
  have h2 := byt_lt b j
  have h3 : x * byt b j ≤ 255 * 255 := Nat.mul_le_mul (by omega) (by omega)
  have hj1 : i + j < N := by omega
  have g1 : (j : Int) < ((nb b : Nat) : Int) := by omega
  have g2 : (0 : Int) ≤ ((i + j : Nat) : Int) ∧ ((i + j : Nat) : Int) < ((N : Nat) : Int) := by omega
  have g3 : j ≤ 1099511627776 := by omega
  have g4 : j + 1 + d = nb b := by omega
  have g5 : d + 2 + N + K ≤ k := by omega
  have g6 : j + 1 + i < N + 1 := by omega
  have hw : wrap64 ((i : Int) + (j : Int)) = ((i + j : Nat) : Int) := by rw [wrap_id ((i : Int) + (j : Int)) (by omega) (by omega)]; omega
  obtain ⟨y, hy⟩ : ∃ y, x * byt b j = y := ⟨_, rfl⟩
  rw [hy] at h3
  have hxb : (x : Int) * (byt b j : Int) = ((y : Nat) : Int) := by rw [← hy]; exact (Int.natCast_mul _ _).symm
  have g7 := dig_lt c (byt V (i + j)) y hc h1 h3
  rw [z05_Mul.l1, size_strB, if_pos g1, hw, if_pos g2.1, byL_length, if_pos g2.2, at_strB b j fb g3, Option.bind_some, Int.toNat_natCast, byL_rd V N (i + j) hj1, hxb, dig_wrap c _ y hc h1 h3,
   mod_up, div_up, byL_over V N (i + j) _ (Nat.mod_lt _ (by decide)), wrap_succ j g3]
  refine ih (putB V (i + j) ((c + byt V (i + j) + y) % 256)) ((c + byt V (i + j) + y) / 256) (j + 1) k g4 g5 g7 ?_ g6
  have hs := putB_sum V (i + j) ((c + byt V (i + j) + y) % 256)
  have hdm := Nat.div_add_mod (c + byt V (i + j) + y) 256
  unfold Sum
  have h5 : x * (b % 256 ^ (j + 1)) * 256 ^ i = x * (b % 256 ^ j) * 256 ^ i + y * 256 ^ (i + j) := by
   rw [mod_byte, Nat.mul_add, Nat.add_mul, ← Nat.mul_assoc x, hy, Nat.mul_assoc y, ← Nat.pow_add, Nat.add_comm j i]
  rw [h5, ← Nat.add_assoc i j 1, pow_succ256, ← Nat.add_assoc V0]
  exact step_sum _ V (byt V (i + j)) c _ _ y (256 ^ (i + j)) _ hs hdm hV
theorem mul_l0 (a b N : Nat) (ha : nb a ≤ 1099511627000) (hb : nb b ≤ 1099511627000) (hN : N ≤ 1099511627770) (hab : nb a + nb b + 1 = N) (hs : nb (a * b) ≤ 16384) :
  ∀ d i k : Nat, i + d = nb a → (d + 2) * (2 * N + 8) ≤ k → z05_Mul.l0 k (strB a) (strB b) (byL (a % 256 ^ i * b) N) (i : Int) = some (strB (a * b), 0) := by
 have fa : Fine a := by unfold Fine; omega
 intro d
 induction d with
 | zero =>
  intro i k hi hk
  have hk2 : 2 * (2 * N + 8) ≤ k := by simpa using hk
  obtain ⟨k, rfl⟩ : ∃ q, k = q + 1 := ⟨k - 1, by omega⟩
  obtain rfl : i = nb a := by omega
  have hlt : a * b < 256 ^ N := by
   have := Nat.mul_lt_mul'' (nb_lt a) (nb_lt b)
   rw [← Nat.pow_add] at this
   exact Nat.lt_of_lt_of_le this (Nat.pow_le_pow_right (by decide) (by omega))
  rw [z05_Mul.l0, size_strB, if_neg (by omega), Nat.mod_eq_of_lt (nb_lt a), fit_byL _ N k hlt (Nat.le_trans hN (by decide)) (by clear hlt; omega), Option.bind_some]
  unfold z05_long.f
  rw [size_strB, if_neg (by clear hlt; omega)]; rfl
 | succ d ih =>
  intro i k hi hk
  have hk3 : (d + 2) * (2 * N + 8) + (2 * N + 8) ≤ k := by rw [← Nat.succ_mul]; exact hk
  obtain ⟨K, hK⟩ : ∃ K, (d + 2) * (2 * N + 8) = K := ⟨_, rfl⟩
  rw [hK] at hk3
  obtain ⟨k, rfl⟩ : ∃ q, k = q + 1 := ⟨k - 1, by omega⟩
  rw [z05_Mul.l0, size_strB, if_pos (by omega), at_strB a i fa (by omega), Option.bind_some]
  have e : a % 256 ^ i * b + byt a i * b * 256 ^ i = a % 256 ^ (i + 1) * b := by
   rw [mod_byte, Nat.add_mul, Nat.mul_right_comm]
  have h := mul_l1 a b i N (a % 256 ^ i * b) (byt a i) hb hN (byt_lt a i) (by omega) (by
   intro V c hV
   refine carry_zero (256 ^ N) _ V c ?_ hV
   rw [e]
   have h1 : a % 256 ^ (i + 1) < 256 ^ (i + 1) := Nat.mod_lt _ (pos256 _)
   have := Nat.mul_lt_mul'' h1 (nb_lt b)
   rw [← Nat.pow_add] at this
   exact Nat.lt_of_lt_of_le this (Nat.pow_le_pow_right (by decide) (by omega))) K (some (strB (a * b), 0)) (by
   intro k hk
   rw [e]
   exact ih (i + 1) k (by omega) (by rw [hK]; exact hk)) (nb b) (a % 256 ^ i * b) 0 0 k (by omega) (by omega) (by decide) (by unfold Sum; rw [Nat.pow_zero, Nat.mod_one]; simp) (by omega)
  exact h
theorem mul_strB (a b k : Nat) (hs : nb a + nb b ≤ 16384) (hk : (nb a + 2) * (2 * (nb a + nb b + 1) + 8) ≤ k) : z05_Mul.f k (strB a) (strB b) = some (strB (a * b), 0) := by
 have hn : nb (a * b) ≤ 16384 := Nat.le_trans (nb_mul a b) hs
 unfold z05_Mul.f
 have e1 : wrap64 ((nb a : Int) + (nb b : Int)) = ((nb a + nb b : Nat) : Int) := by rw [wrap_id ((nb a : Int) + (nb b : Int)) (by omega) (by omega)]; omega
 rw [size_strB, size_strB, e1, if_neg (by omega), wrap_succ _ (by omega), if_pos (by omega), Int.toNat_natCast, if_pos (by omega), byL_zero]
 have h := mul_l0 a b (nb a + nb b + 1) (by omega) (by omega) (by omega) rfl hn (nb a) 0 k (by omega) hk
 rw [Nat.pow_zero, Nat.mod_one, Nat.zero_mul] at h
 exact h
theorem nb_mono (x y : Nat) (h : x ≤ y) : nb x ≤ nb y := (nb_le x (nb y)).2 (Nat.lt_of_le_of_lt h (nb_lt y))
theorem cmp_ge (x y : Nat) : cmpN x y ≥ 0 ↔ y ≤ x := by
 unfold cmpN; split
 ·omega
 ·split <;> omega
theorem bit_lt (a i : Nat) : bitN a i ≤ 1 := by unfold bitN; omega
theorem shl_one (s : Nat) (hs : s < 8) : shl .u8 1 (s : Int) = ((2 ^ s : Nat) : Int) := by
 have h : ∀ s : Fin 8, shl .u8 1 (s.val : Int) = ((2 ^ s.val : Nat) : Int) := by decide
 exact h ⟨s, hs⟩
theorem pow_s (s : Nat) (hs : s < 8) : 2 ^ s ≤ 128 := by
 have h : ∀ s : Fin 8, 2 ^ s.val ≤ 128 := by decide
 exact h ⟨s, hs⟩
theorem or_bitB (y s z : Nat) (hy : y < 256) (hs : s < 8) (hz : y = 2 ^ (s + 1) * z) (hsum : y + 2 ^ s < 256) : Go.bits .or .u8 (y : Int) (shl .u8 1 (s : Int)) = ((y + 2 ^ s : Nat) : Int) := by
 rw [shl_one s hs]
 have hp := pow_s s hs
 have e3 : y ||| 2 ^ s = y + 2 ^ s := by
  rw [hz]
  exact (Nat.two_pow_add_eq_or_of_lt (i := s + 1) (b := 2 ^ s) (Nat.pow_lt_pow_right (by decide) (by omega)) z).symm
 generalize 2 ^ s = t at *
 have e1 : (BitVec.ofInt 8 (y : Int)).toNat = y := by rw [BitVec.toNat_ofInt]; omega
 have e2 : (BitVec.ofInt 8 (t : Int)).toNat = t := by rw [BitVec.toNat_ofInt]; omega
 show IntKind.u8.wrap ((BitVec.ofInt 8 (y : Int) ||| BitVec.ofInt 8 (t : Int)).toNat : Nat) = _
 rw [BitVec.toNat_or, e1, e2, e3, IntKind.wrap_u8]
 omega
theorem byt_mult (q p s : Nat) (hs : s < 8) : byt (q * 2 ^ (8 * p + s + 1)) p = 2 ^ (s + 1) * (q % 2 ^ (7 - s)) := by
 unfold byt
 rw [pow256, show 8 * p + s + 1 = s + 1 + 8 * p by omega, Nat.pow_add, ← Nat.mul_assoc, Nat.mul_div_cancel _ (Nat.pow_pos (by decide)), show 256 = 2 ^ (s + 1) * 2 ^ (7 - s) by rw [← Nat.pow_add, show s + 1 + (7 - s) = 8 by omega], Nat.mul_comm q, Nat.mul_mod_mul_left]
theorem mult_sum (q s : Nat) (hs : s < 8) : 2 ^ (s + 1) * (q % 2 ^ (7 - s)) + 2 ^ s < 256 := by
 have h : ∀ s : Fin 8, ∀ z : Fin 128, z.val < 2 ^ (7 - s.val) → 2 ^ (s.val + 1) * z.val + 2 ^ s.val < 256 := by decide
 have hz : q % 2 ^ (7 - s) < 2 ^ (7 - s) := Nat.mod_lt _ (Nat.pow_pos (by decide))
 have h2 : 2 ^ (7 - s) ≤ 128 := pow_s (7 - s) (by omega)
 exact h ⟨s, hs⟩ ⟨q % 2 ^ (7 - s), by omega⟩ hz
theorem putB_bit (Q p s y : Nat) (hy : byt Q p = y) : putB Q p (y + 2 ^ s) = Q + 2 ^ (8 * p + s) := by
 have h := putB_sum Q p (y + 2 ^ s)
 rw [hy, Nat.add_mul] at h
 rw [show 8 * p + s = s + 8 * p by omega, Nat.pow_add, ← pow256]
 omega
theorem div_stepB (a b q R d : Nat) (h : q * b + R = a / 2 ^ (d + 1)) (hR : R < b) :
  (b ≤ 2 * R + bitN a d → (2 * q + 1) * b + (2 * R + bitN a d - b) = a / 2 ^ d ∧ 2 * R + bitN a d - b < b) ∧ (¬ b ≤ 2 * R + bitN a d → 2 * q * b + (2 * R + bitN a d) = a / 2 ^ d ∧ 2 * R + bitN a d < b) := by
 unfold bitN
 rw [Nat.pow_succ, ← Nat.div_div_eq_div_mul] at h
 generalize a / 2 ^ d = X at *
 rw [Nat.add_mul, Nat.mul_assoc]
 generalize q * b = Y at *
 constructor
 ·intro h2; omega
 ·intro h2; omega
theorem div_l0 (a b N : Nat) (ha : nb a ≤ 16384) (hN : N = nb a + 1) : ∀ d q R k : Nat, d ≤ 8 * nb a → 3 * nb a + 2 * nb b + 60 + d ≤ k → q * b + R = a / 2 ^ d → R < b →
  z05_Div.l0 k (strB a) (strB b) (strB R) (byL (q * 2 ^ d) N) ((d : Int) - 1) = some (strB (a / b), strB (a % b), 0) := by
 have fa : Fine a := by unfold Fine; omega
 intro d
 induction d with
 | zero =>
  intro q R k _ hk h hR
  obtain ⟨k, rfl⟩ : ∃ q, k = q + 1 := ⟨k - 1, by omega⟩
  rw [Nat.pow_zero, Nat.div_one] at h
  have hq : a / b = q := by
   rw [← h, Nat.add_comm, Nat.add_mul_div_right _ _ (by omega), Nat.div_eq_of_lt hR, Nat.zero_add]
  have hr : a % b = R := by
   rw [← h, Nat.add_comm, Nat.add_mul_mod_self_right, Nat.mod_eq_of_lt hR]
  have hqa : q ≤ a := by rw [← hq]; exact Nat.div_le_self _ _
  have hlt : q < 256 ^ N := (nb_le q N).1 (by have := nb_mono q a hqa; omega)
  rw [Nat.pow_zero, Nat.mul_one, z05_Div.l0, if_neg (by clear hlt; omega), fit_byL q N k hlt (by clear hlt; omega) (by clear hlt; omega), Option.bind_some, hq, hr]
 | succ d ih =>
  intro q R k hd hk h hR
  obtain ⟨k, rfl⟩ : ∃ q, k = q + 1 := ⟨k - 1, by omega⟩
  have hi : (((d + 1 : Nat) : Int) - 1) = (d : Int) := by omega
  have hdd : (d : Int) ≥ 0 := by omega
  have e3 : wrap64 ((d : Int) - 1) = (d : Int) - 1 := wrap_id _ (by omega) (by omega)
  have e4 : wrap64 (Int.tdiv (d : Int) 8) = ((d / 8 : Nat) : Int) := by
   rw [Int.tdiv_eq_ediv_of_nonneg (by omega), wrap_id ((d : Int) / 8) (by omega) (by omega)]; omega
  have e5 : IntKind.u64.wrap (Int.tmod (d : Int) 8) = ((d % 8 : Nat) : Int) := by
   rw [Int.tmod_eq_emod_of_nonneg (by omega), IntKind.wrap_u64]; omega
  have u0 := bit_lt a d
  have g0 : d ≤ 1099511627776 := by omega
  have g1 : (0 : Int) ≤ ((d / 8 : Nat) : Int) := by omega
  have g2 : ((d / 8 : Nat) : Int) < ((N : Nat) : Int) := by omega
  have g3 : (0 : Int) ≤ ((d % 8 : Nat) : Int) := by omega
  have g4 : d / 8 < N := by omega
  have g5 : d ≤ 8 * nb a := by omega
  have g6 : 3 * nb a + 2 * nb b + 60 + d ≤ k := by omega
  have hs8 : d % 8 < 8 := Nat.mod_lt _ (by decide)
  have hdm : 8 * (d / 8) + d % 8 = d := Nat.div_add_mod d 8
  have hle : a / 2 ^ d ≤ a := Nat.div_le_self _ _
  have hle1 : a / 2 ^ (d + 1) ≤ a := Nat.div_le_self _ _
  obtain ⟨s1, s2⟩ := div_stepB a b q R d h hR
  have hRa : R ≤ a := Nat.le_trans (Nat.le_add_left _ _) (Nat.le_trans (Nat.le_of_eq h) hle1)
  have n1 : nb R ≤ nb a := nb_mono R a hRa
  rw [hi, z05_Div.l0, if_pos hdd, e3, e4, e5, bit_strB a d fa g0, Option.bind_some]
  generalize bitN a d = t at *
  rw [double_strB R t k u0 (by omega) (by omega), Option.bind_some, cmp_strB, Option.bind_some]
  by_cases hc : b ≤ 2 * R + t
  ·have hu := s1 hc
   have n2 : nb (2 * R + t) ≤ nb a + nb b + 1 := by
    have h1 : 2 * R + t ≤ 256 * b := by omega
    have h2 : 256 * b < 256 ^ (nb b + 1) := by rw [pow_succ256]; exact Nat.mul_lt_mul_of_pos_left (nb_lt b) (by decide)
    have h3 : nb (2 * R + t) ≤ nb b + 1 := (nb_le _ _).2 (Nat.lt_of_le_of_lt h1 h2)
    clear h2; omega
   have hb : nb b ≤ nb a + 1 := by
    have h1 : b ≤ 256 * a + 255 := by omega
    have h2 : 256 * a + 255 < 256 ^ (nb a + 1) := by
     rw [pow_succ256]
     have := nb_lt a
     generalize 256 ^ nb a = P at *
     omega
    exact (nb_le _ _).2 (Nat.lt_of_le_of_lt h1 h2)
   have hy := byt_mult q (d / 8) (d % 8) hs8
   rw [hdm] at hy
   have hsum := mult_sum q (d % 8) hs8
   rw [← hy] at hsum
   rw [if_pos ((cmp_ge _ _).2 hc), sub_strB _ _ k hc (by omega) (by omega), Option.bind_some, if_pos g1, byL_length, if_pos g2, if_pos g3, Int.toNat_natCast, byL_rd _ N (d / 8) g4,
    or_bitB _ (d % 8) _ (byt_lt _ _) hs8 hy hsum, byL_over _ N (d / 8) _ hsum, putB_bit _ (d / 8) (d % 8) _ rfl, hdm]
   have e6 : q * 2 ^ (d + 1) + 2 ^ d = (2 * q + 1) * 2 ^ d := by
    rw [Nat.pow_succ, Nat.add_mul, Nat.one_mul, Nat.mul_comm (2 ^ d) 2, ← Nat.mul_assoc, Nat.mul_comm q 2]
   rw [e6]
   exact ih (2 * q + 1) _ k g5 g6 hu.1 hu.2
  ·have hu := s2 hc
   rw [if_neg (fun x => hc ((cmp_ge _ _).1 x))]
   have e6 : q * 2 ^ (d + 1) = 2 * q * 2 ^ d := by
    rw [Nat.pow_succ, Nat.mul_comm (2 ^ d) 2, ← Nat.mul_assoc, Nat.mul_comm q 2]
   rw [e6]
   exact ih (2 * q) _ k g5 g6 hu.1 hu.2
theorem lenN_pow (b : Nat) (h : b ≠ 0) : 1 ≤ lenN b ∧ 2 ^ (lenN b - 1) ≤ b := by
 have h1 : 1 ≤ lenN b := by
  rcases Nat.eq_zero_or_pos (lenN b) with h0 | h0
  ·have := (lenN_le b 0).1 (by omega)
   rw [Nat.pow_zero] at this; omega
  ·exact h0
 refine ⟨h1, ?_⟩
 rcases Nat.lt_or_ge b (2 ^ (lenN b - 1)) with h2 | h2
 ·have := (lenN_le b (lenN b - 1)).2 h2
  exfalso; clear h2; omega
 ·exact h2
theorem top_lt (a b : Nat) (hb : b ≠ 0) (hba : b ≤ a) : lenN b ≤ lenN a ∧ a / 2 ^ (lenN a - (lenN b - 1)) < b := by
 obtain ⟨h1, h2⟩ := lenN_pow b hb
 have h3 : a < 2 ^ lenN a := (lenN_le a _).1 (Nat.le_refl _)
 have h4 : lenN b ≤ lenN a := (lenN_le b _).2 (Nat.lt_of_le_of_lt hba h3)
 refine ⟨h4, Nat.lt_of_lt_of_le ?_ h2⟩
 apply Nat.div_lt_of_lt_mul
 rw [← Nat.pow_add, show lenN a - (lenN b - 1) + (lenN b - 1) = lenN a by clear h2 h3; omega]
 exact h3
theorem cmp_neg (a b : Nat) : cmpN a b < 0 ↔ a < b := by
 unfold cmpN; split
 ·omega
 ·split <;> omega
theorem sub_wrap (x y d : Nat) (hx : x ≤ 1099511627776) (hd : x - y = d) (hy : y ≤ x) : wrap64 ((x : Int) - (y : Int)) = (d : Int) := by
 rw [wrap_id ((x : Int) - (y : Int)) (by omega) (by omega)]; omega
theorem less_wrap (d : Nat) (hd : d ≤ 1099511627770) : wrap64 ((d : Int) - 1) = (d : Int) - 1 := wrap_id _ (by omega) (by omega)
theorem div_strB (a b k : Nat) (hb0 : b ≠ 0) (ha : nb a ≤ 16384) (hb : nb b ≤ 16384) (hk : 20 * nb a + 2 * nb b + 200 ≤ k) : z05_Div.f k (strB a) (strB b) = some (strB (a / b), strB (a % b), 0) := by
 unfold z05_Div.f
 rw [if_neg (fun h => hb0 ((strB_empty b).1 h)), cmp_strB, Option.bind_some]
 by_cases hc : a < b
 ·rw [if_pos ((cmp_neg a b).2 hc), Nat.div_eq_of_lt hc, Nat.mod_eq_of_lt hc]; rfl
 ·rw [if_neg (fun h => hc ((cmp_neg a b).1 h)), len_strB a k ha (by omega), Option.bind_some, len_strB b k hb (by omega), Option.bind_some]
  obtain ⟨h1, h2⟩ := top_lt a b hb0 (by omega)
  obtain ⟨h3, -⟩ := lenN_pow b hb0
  have hl : lenN a ≤ 8 * nb a := by rw [lenN_le, ← pow256]; exact nb_lt a
  obtain ⟨d, hd⟩ : ∃ d, lenN a - (lenN b - 1) = d := ⟨_, rfl⟩
  rw [hd] at h2
  have g1 : (0 : Int) ≤ ((nb a + 1 : Nat) : Int) := by clear h2; omega
  have g2 : nb a + 1 ≤ 281474976710656 := by clear h2; omega
  have g3 : d ≤ 1099511627770 := by clear h2; omega
  have g4 : d ≤ 8 * nb a := by clear h2; omega
  have g5 : 3 * nb a + 2 * nb b + 60 + d ≤ k := by clear h2; omega
  have g6 : 2 * nb a + 80 ≤ k := by clear h2; omega
  have q1 : lenN b - 1 + 1 ≤ 1099511627776 := by clear h2; omega
  have q2 : lenN b ≤ 1099511627776 := by clear h2; omega
  have q3 : nb a ≤ 1099511627776 := by clear h2; omega
  have q4 : lenN a ≤ 1099511627776 := by clear h2; omega
  have q5 : lenN a - (lenN b - 1) = d ∧ lenN b - 1 ≤ lenN a := ⟨hd, by clear h2; omega⟩
  have e1 : wrap64 ((lenN b : Int) - 1) = ((lenN b - 1 : Nat) : Int) := wrap_pred _ h3 q2
  have e2 : wrap64 ((lenN a : Int) - ((lenN b - 1 : Nat) : Int)) = (d : Int) := sub_wrap _ _ d q4 q5.1 q5.2
  have e3 : wrap64 ((d : Int) - 1) = (d : Int) - 1 := less_wrap d g3
  have e4 : wrap64 ((nb a : Int) + 1) = ((nb a + 1 : Nat) : Int) := wrap_succ _ q3
  obtain ⟨lost, hr⟩ := right_strB a d k ha g3 g6
  have hz := div_l0 a b (nb a + 1) ha rfl d 0 (a / 2 ^ d) k g4 g5 (by rw [Nat.zero_mul, Nat.zero_add]) h2
  rw [Nat.zero_mul] at hz
  rw [e1, e2, e3, hr, Option.bind_some, size_strB, e4, if_pos g1, Int.toNat_natCast, if_pos g2, byL_zero]
  exact hz
theorem gcd_l0 : ∀ n b a k : Nat, b ≤ n → nb a ≤ 16384 → nb b ≤ 16384 → n + 500000 ≤ k → z05_Gcd.l0 k (strB a) (strB b) = some (strB (Nat.gcd a b)) := by
 intro n
 induction n with
 | zero =>
  intro b a k hb _ _ hk
  obtain ⟨k, rfl⟩ : ∃ q, k = q + 1 := ⟨k - 1, by omega⟩
  obtain rfl : b = 0 := by omega
  rw [z05_Gcd.l0, if_pos ((strB_empty 0).2 rfl), Nat.gcd_zero_right]
 | succ n ih =>
  intro b a k hb ha hb2 hk
  obtain ⟨k, rfl⟩ : ∃ q, k = q + 1 := ⟨k - 1, by omega⟩
  by_cases h0 : b = 0
  ·subst h0
   rw [z05_Gcd.l0, if_pos ((strB_empty 0).2 rfl), Nat.gcd_zero_right]
  ·have hm : a % b < b := Nat.mod_lt _ (by omega)
   have hn : nb (a % b) ≤ 16384 := Nat.le_trans (nb_mono _ _ (Nat.le_of_lt hm)) hb2
   rw [z05_Gcd.l0, if_neg (fun h => h0 ((strB_empty b).1 h)), div_strB a b k h0 ha hb2 (by omega), Option.bind_some, Nat.gcd_comm a b, Nat.gcd_rec b a, Nat.gcd_comm]
   exact ih (a % b) b k (by omega) hb2 hn (by omega)
theorem gcd_strB (a b k : Nat) (ha : nb a ≤ 16384) (hb : nb b ≤ 16384) (hk : b + 500000 ≤ k) : z05_Gcd.f k (strB a) (strB b) = some (strB (Nat.gcd a b)) :=
 gcd_l0 b b a k (Nat.le_refl _) ha hb hk
theorem byt_zero (V p : Nat) (h : V < 256 ^ p) : byt V p = 0 := byt_big V p h
theorem putB_new (V p d : Nat) (h : V < 256 ^ p) : putB V p d = V + d * 256 ^ p := by
 have h1 := putB_sum V p d
 rw [byt_zero V p h, Nat.zero_mul, Nat.add_zero] at h1
 exact h1
theorem putB_plus (V p y e : Nat) (hy : byt V p = y) : putB V p (y + e) = V + e * 256 ^ p := by
 have h := putB_sum V p (y + e)
 rw [hy, Nat.add_mul] at h
 omega
theorem two_put (x r P : Nat) : x * 2 ^ r % 256 * P + x * 2 ^ r / 256 * (256 * P) = x * 2 ^ r * P := by
 have h := Nat.mod_add_div (x * 2 ^ r) 256
 generalize x * 2 ^ r = y at *
 rw [← Nat.mul_assoc, ← Nat.add_mul, Nat.mul_comm (y / 256), h]
theorem low_mult (x r : Nat) (hr : r < 8) : x * 2 ^ r % 256 = 2 ^ r * (x % 2 ^ (8 - r)) := by
 rw [show 256 = 2 ^ r * 2 ^ (8 - r) by rw [← Nat.pow_add, show r + (8 - r) = 8 by omega], Nat.mul_comm x, Nat.mul_mod_mul_left]
theorem or_mult (y x r : Nat) (hr : r < 8) (hy : y < 2 ^ r) : Go.bits .or .u8 (y : Int) ((x * 2 ^ r % 256 : Nat) : Int) = ((y + x * 2 ^ r % 256 : Nat) : Int) ∧ y + x * 2 ^ r % 256 < 256 := by
 have hz := low_mult x r hr
 have hp := pow_s r hr
 have e3 : y ||| x * 2 ^ r % 256 = y + x * 2 ^ r % 256 := by
  rw [hz, Nat.or_comm, Nat.add_comm]
  exact (Nat.two_pow_add_eq_or_of_lt (i := r) (b := y) hy _).symm
 have hl : y ||| x * 2 ^ r % 256 < 2 ^ 8 := Nat.or_lt_two_pow (by omega) (Nat.mod_lt _ (by decide))
 rw [e3] at hl
 have hm : x * 2 ^ r % 256 < 256 := Nat.mod_lt _ (by decide)
 generalize x * 2 ^ r % 256 = t at *
 have e1 : (BitVec.ofInt 8 (y : Int)).toNat = y := by rw [BitVec.toNat_ofInt]; omega
 have e2 : (BitVec.ofInt 8 (t : Int)).toNat = t := by rw [BitVec.toNat_ofInt]; omega
 refine ⟨?_, hl⟩
 show IntKind.u8.wrap ((BitVec.ofInt 8 (y : Int) ||| BitVec.ofInt 8 (t : Int)).toNat : Nat) = _
 rw [BitVec.toNat_or, e1, e2, e3, IntKind.wrap_u8]
 omega
theorem shl_byte (x r : Nat) (hx : x < 256) (hr : r < 8) : shl .i64 (x : Int) (r : Int) = ((x * 2 ^ r : Nat) : Int) := by
 have h : ∀ r : Fin 8, shl .i64 (x : Int) (r.val : Int) = IntKind.i64.wrap ((x : Int) * ((2 ^ r.val : Nat) : Int)) := by
  intro r
  match r with
  | ⟨0, _⟩ => rfl
  | ⟨1, _⟩ => rfl
  | ⟨2, _⟩ => rfl
  | ⟨3, _⟩ => rfl
  | ⟨4, _⟩ => rfl
  | ⟨5, _⟩ => rfl
  | ⟨6, _⟩ => rfl
  | ⟨7, _⟩ => rfl
 have hp := pow_s r hr
 have hxr : x * 2 ^ r ≤ 255 * 128 := Nat.mul_le_mul (by omega) hp
 rw [h ⟨r, hr⟩, ← Int.natCast_mul, IntKind.wrap_i64]
 show _ = ((x * 2 ^ r : Nat) : Int)
 generalize x * 2 ^ r = t at *
 omega
theorem left_low (a i r q : Nat) : a % 256 ^ i * 2 ^ r * 256 ^ q < 2 ^ r * 256 ^ (i + q) := by
 have h1 := Nat.mod_lt a (pos256 i)
 have h2 : a % 256 ^ i * (2 ^ r * 256 ^ q) < 256 ^ i * (2 ^ r * 256 ^ q) := Nat.mul_lt_mul_of_pos_right h1 (Nat.mul_pos (Nat.two_pow_pos r) (pos256 q))
 rw [Nat.pow_add, Nat.mul_assoc]
 have e : 256 ^ i * (2 ^ r * 256 ^ q) = 2 ^ r * (256 ^ i * 256 ^ q) := by ac_rfl
 rw [e] at h2; exact h2
theorem left_step (a i r q : Nat) : a % 256 ^ (i + 1) * 2 ^ r * 256 ^ q = a % 256 ^ i * 2 ^ r * 256 ^ q + byt a i * 2 ^ r * 256 ^ (i + q) := by
 rw [mod_byte, Nat.add_mul, Nat.add_mul, Nat.pow_add]
 congr 1
 ac_rfl
theorem left_l0 (a n N : Nat) (ha : nb a ≤ 16384) (hn : n ≤ 131072) (hN : N = nb a + n / 8 + 1) : ∀ d i k : Nat, i + d = nb a → d + N + 8 ≤ k →
  z05_Left.l0 k (strB a) (n : Int) (byL (a % 256 ^ i * 2 ^ (n % 8) * 256 ^ (n / 8)) N) (i : Int) = some (strB (a * 2 ^ n), 0) := by
 have fa : Fine a := by unfold Fine; omega
 have hq : wrap64 (Int.tdiv (n : Int) 8) = ((n / 8 : Nat) : Int) := by
  rw [Int.tdiv_eq_ediv_of_nonneg (by omega), wrap_id ((n : Int) / 8) (by omega) (by omega)]; omega
 have hr : IntKind.u64.wrap (Int.tmod (n : Int) 8) = ((n % 8 : Nat) : Int) := by
  rw [Int.tmod_eq_emod_of_nonneg (by omega), IntKind.wrap_u64]; omega
 have hr8 : n % 8 < 8 := by omega
 intro d
 induction d with
 | zero =>
  intro i k hi hk
  obtain ⟨k, rfl⟩ : ∃ q, k = q + 1 := ⟨k - 1, by omega⟩
  obtain rfl : i = nb a := by omega
  have e1 : a % 256 ^ nb a * 2 ^ (n % 8) * 256 ^ (n / 8) = a * 2 ^ n := by
   rw [Nat.mod_eq_of_lt (nb_lt a), Nat.mul_assoc, pow256, ← Nat.pow_add, show n % 8 + 8 * (n / 8) = n by omega]
  have h1 : a * 2 ^ n < 256 ^ N := by
   have h2 := left_low a (nb a) (n % 8) (n / 8)
   rw [e1] at h2
   have h3 : 2 ^ (n % 8) ≤ 256 := by rw [show (256 : Nat) = 2 ^ 8 from rfl]; exact Nat.pow_le_pow_right (by decide) (by omega)
   have h4 := Nat.mul_le_mul_right (256 ^ (nb a + n / 8)) h3
   rw [← pow_succ256, ← hN] at h4
   exact Nat.lt_of_lt_of_le h2 h4
  rw [z05_Left.l0, size_strB, if_neg (by omega), e1, fit_byL _ N k h1 (by omega) (by omega)]; rfl
 | succ d ih =>
  intro i k hi hk
  obtain ⟨k, rfl⟩ : ∃ q, k = q + 1 := ⟨k - 1, by omega⟩
  have e1 : wrap64 ((i : Int) + ((n / 8 : Nat) : Int)) = ((i + n / 8 : Nat) : Int) := by rw [wrap_id ((i : Int) + ((n / 8 : Nat) : Int)) (by omega) (by omega)]; omega
  have b1 := byt_lt a i
  have hlow := left_low a i (n % 8) (n / 8)
  have hst := left_step a i (n % 8) (n / 8)
  have hp2 : 2 ^ (n % 8) ≤ 128 := by rw [show (128 : Nat) = 2 ^ 7 from rfl]; exact Nat.pow_le_pow_right (by decide) (by omega)
  obtain ⟨V, hV⟩ : ∃ V, a % 256 ^ i * 2 ^ (n % 8) * 256 ^ (n / 8) = V := ⟨_, rfl⟩
  obtain ⟨y, hy⟩ : ∃ y, byt V (i + n / 8) = y := ⟨_, rfl⟩
  rw [hV] at hlow hst ⊢
  have hy2 : y < 2 ^ (n % 8) := by
   rw [← hy]; unfold byt
   refine Nat.lt_of_le_of_lt (Nat.mod_le _ _) ?_
   rw [Nat.div_lt_iff_lt_mul (pos256 _)]; exact hlow
  obtain ⟨o1, o2⟩ := or_mult y (byt a i) (n % 8) hr8 hy2
  have hx : byt a i * 2 ^ (n % 8) ≤ 255 * 128 := Nat.mul_le_mul (by omega) hp2
  have hs := shl_byte (byt a i) (n % 8) b1 hr8
  rw [z05_Left.l0, size_strB, if_pos (by omega), at_strB a i fa (by omega), Option.bind_some, hr, hq, e1, wrap_succ (i + n / 8) (by omega), if_pos (by omega), if_pos (by omega), byL_length, if_pos (by omega), if_pos (by omega), if_pos (by omega),
   Int.toNat_natCast, Int.toNat_natCast, byL_rd V N (i + n / 8) (by omega), hy, hs, mod_up, div_up, mod_up, o1, wrap_succ i (by omega)]
  rw [byL_over V N (i + n / 8) _ o2, putB_plus V (i + n / 8) y _ hy]
  have h3 : V + byt a i * 2 ^ (n % 8) % 256 * 256 ^ (i + n / 8) < 256 ^ (i + n / 8 + 1) := by
   rw [← putB_plus V (i + n / 8) y _ hy]
   have h4 : V < 256 ^ (i + n / 8 + 1) := by
    rw [pow_succ256]
    exact Nat.lt_of_lt_of_le hlow (Nat.mul_le_mul_right _ (by omega))
   have h5 : V / 256 ^ (i + n / 8 + 1) = 0 := Nat.div_eq_of_lt h4
   unfold putB
   rw [h5, Nat.mul_zero, Nat.add_zero, pow_succ256]
   have h6 := Nat.mod_lt V (pos256 (i + n / 8))
   have h7 := Nat.mul_le_mul_right (256 ^ (i + n / 8)) (show y + byt a i * 2 ^ (n % 8) % 256 + 1 ≤ 256 by omega)
   rw [Nat.add_mul _ 1, Nat.one_mul] at h7
   omega
  have h8 : byt a i * 2 ^ (n % 8) / 256 % 256 < 256 := Nat.mod_lt _ (by decide)
  rw [byL_over _ N (i + n / 8 + 1) _ h8, putB_new _ _ _ h3]
  have h9 : byt a i * 2 ^ (n % 8) / 256 % 256 = byt a i * 2 ^ (n % 8) / 256 := Nat.mod_eq_of_lt (by omega)
  have tp := two_put (byt a i) (n % 8) (256 ^ (i + n / 8))
  have e9 : V + byt a i * 2 ^ (n % 8) % 256 * 256 ^ (i + n / 8) + byt a i * 2 ^ (n % 8) / 256 * 256 ^ (i + n / 8 + 1) = a % 256 ^ (i + 1) * 2 ^ (n % 8) * 256 ^ (n / 8) := by
   rw [hst, pow_succ256, ← tp]; omega
  rw [h9, e9]
  exact ih (i + 1) k (by omega) (by omega)
theorem left_strB (a n k : Nat) (ha : nb a ≤ 16384) (hn : a = 0 ∨ lenN a + n ≤ 131072) (hn2 : n ≤ 131072) (hk : 2 * nb a + n + 100 ≤ k) : z05_Left.f k (strB a) (n : Int) = some (strB (a * 2 ^ n), 0) := by
 unfold z05_Left.f
 rw [if_neg (by omega)]
 by_cases h : a = 0
 ·subst h
  rw [if_pos ((strB_empty 0).2 rfl), Nat.zero_mul]; rfl
 ·have hn' : lenN a + n ≤ 131072 := by rcases hn with h1 | h1; exact absurd h1 h; exact h1
  rw [if_neg (fun q => h ((strB_empty a).1 q)), if_neg (by omega), len_strB a k ha (by omega), Option.bind_some, wrap_id ((lenN a : Int) + (n : Int)) (by omega) (by omega), decide_eq_false (by omega)]
  obtain ⟨k, rfl⟩ : ∃ q, k = q + 1 := ⟨k - 1, by omega⟩
  have hq : wrap64 (Int.tdiv (n : Int) 8) = ((n / 8 : Nat) : Int) := by
   rw [Int.tdiv_eq_ediv_of_nonneg (by omega), wrap_id ((n : Int) / 8) (by omega) (by omega)]; omega
  have hm : wrap64 ((nb a : Int) + ((n / 8 : Nat) : Int)) = ((nb a + n / 8 : Nat) : Int) := by
   rw [wrap_id ((nb a : Int) + ((n / 8 : Nat) : Int)) (by omega) (by omega)]; omega
  rw [z05_Left.j0, if_neg (by decide), size_strB, hq, hm, wrap_succ (nb a + n / 8) (by omega), if_pos (by omega), Int.toNat_natCast, if_pos (by omega), byL_zero]
  have h2 := left_l0 a n (nb a + n / 8 + 1) ha hn2 rfl (nb a) 0 k (by omega) (by omega)
  rw [Nat.pow_zero, Nat.mod_one, Nat.zero_mul, Nat.zero_mul] at h2
  exact h2
structure Src where
 fl : Int → Nat
 ex : Int → Bool
 up : ∀ a, fl (a + 1) = fl a / 2
 exUp : ∀ a, ex (a + 1) = (ex a && decide (fl a % 2 = 0))
 down : ∀ a, ex a = true → fl (a - 1) = 2 * fl a ∧ ex (a - 1) = true
theorem Src.fl_add (S : Src) (a : Int) (n : Nat) : S.fl (a + n) = S.fl a / 2 ^ n := by
 induction n with
 | zero => simp
 | succ n ih => rw [show a + ((n + 1 : Nat) : Int) = a + n + 1 by omega, S.up, ih, Nat.div_div_eq_div_mul, ← Nat.pow_succ]
theorem Src.ex_add (S : Src) (a : Int) (n : Nat) : S.ex (a + n) = (S.ex a && decide (S.fl a % 2 ^ n = 0)) := by
 induction n with
 | zero => simp [Nat.mod_one]
 | succ n ih =>
  rw [show a + ((n + 1 : Nat) : Int) = a + n + 1 by omega, S.exUp, ih, S.fl_add, Bool.and_assoc]
  congr 1
  have hm := mod_split (S.fl a) n
  have h2 := two_pos n
  rw [Bool.eq_iff_iff]
  simp only [Bool.and_eq_true, decide_eq_true_iff]
  constructor
  ·rintro ⟨h1, h3⟩; rw [hm, h1, h3]; simp
  ·intro h
   rw [hm] at h
   have h4 : S.fl a % 2 ^ n = 0 := by omega
   have h5 : 2 ^ n * (S.fl a / 2 ^ n % 2) = 0 := by omega
   refine ⟨h4, ?_⟩
   rcases Nat.mul_eq_zero.1 h5 with h | h <;> omega
theorem Src.fl_sub (S : Src) (a : Int) (n : Nat) (h : S.ex a = true) : S.fl (a - n) = S.fl a * 2 ^ n ∧ S.ex (a - n) = true := by
 induction n with
 | zero => simp [h]
 | succ n ih =>
  obtain ⟨d1, d2⟩ := S.down _ ih.2
  rw [show a - ((n + 1 : Nat) : Int) = a - n - 1 by omega]
  exact ⟨by rw [d1, ih.1, Nat.pow_succ, Nat.mul_comm 2, Nat.mul_assoc], d2⟩
def halfR (S : Src) (a : Int) : Int := if S.ex a = true then -1 else if S.fl (a - 1) % 2 = 1 then (if S.ex (a - 1) = true then 0 else 1) else -1
def gridR (S : Src) (m : Nat) (neg : Bool) (a : Int) : Nat × Bool := (S.fl a + cond (upB m neg (decide (S.fl a % 2 = 1)) (halfR S a) (S.ex a)) 1 0, S.ex a)
theorem upB_exact (m : Nat) (neg odd : Bool) (h : Int) : upB m neg odd h true = false := by unfold upB; rfl
theorem grid_src (S : Src) (m : Nat) (neg : Bool) (e a : Int) (h : S.ex e = true ∨ e < a) : gridN m neg (S.fl e) e (!S.ex e) a = gridR S m neg a := by
 unfold gridN gridR
 by_cases ha : a ≤ e
 ·have he : S.ex e = true := by rcases h with h | h; exact h; omega
  obtain ⟨n, hn⟩ : ∃ n : Nat, a = e - n := ⟨(e - a).toNat, by omega⟩
  obtain ⟨h1, h2⟩ := S.fl_sub e n he
  rw [if_pos ha, hn, h1, h2, he, upB_exact, show (e - (e - (n : Int))).toNat = n by omega]; rfl
 ·obtain ⟨n, hn⟩ : ∃ n : Nat, a = e + ((n + 1 : Nat) : Int) := ⟨(a - e).toNat - 1, by omega⟩
  have h1 := S.fl_add e (n + 1)
  have h2 := S.ex_add e (n + 1)
  have h3 := S.fl_add e n
  have h4 := S.ex_add e n
  have e1 : (a - e).toNat = n + 1 := by omega
  have e2 : a - 1 = e + (n : Int) := by omega
  rw [if_neg ha, e1]
  unfold halfR
  rw [e2, hn, h1, h2, h3, h4, Bool.not_not, Bool.and_comm (decide _)]
  cases hx : (S.ex e && decide (S.fl e % 2 ^ (n + 1) = 0))
  ·have hh : (cond (!S.ex e && decide (halfN (S.fl e) (n + 1) = 0)) 1 (halfN (S.fl e) (n + 1)) : Int) = if (false : Bool) = true then -1 else if S.fl e / 2 ^ n % 2 = 1 then (if (S.ex e && decide (S.fl e % 2 ^ n = 0)) = true then 0 else 1) else -1 := by
    unfold halfN
    rw [if_neg (show ¬ n + 1 = 0 by omega), Nat.add_sub_cancel, Nat.testBit_eq_decide_div_mod_eq, if_neg (show ¬ (false = true) by decide)]
    by_cases hb : S.fl e / 2 ^ n % 2 = 1
    ·rw [decide_eq_true hb, if_pos rfl, if_pos hb]
     by_cases hz : S.fl e % 2 ^ n = 0
     ·rw [if_pos hz, decide_eq_true hz]; cases S.ex e <;> simp
     ·rw [if_neg hz, decide_eq_false hz]; cases S.ex e <;> simp
    ·rw [decide_eq_false hb, if_neg (by decide), if_neg hb]; cases S.ex e <;> simp
   rw [hh]
  ·rw [upB_exact, upB_exact]
structure Top (S : Src) (E : Int) : Prop where
 low : ∀ a, a ≤ E → (lenN (S.fl a) : Int) = E - a + 1
 high : ∀ a, E < a → S.fl a = 0
theorem top_src (S : Src) (e : Int) (h0 : S.fl e ≠ 0) : Top S (lenN (S.fl e) - 1 + e) := by
 have hp := lenN_pos _ h0
 constructor
 ·intro a ha
  by_cases hle : a ≤ e
  ·obtain ⟨n, hn⟩ : ∃ n : Nat, e = a + n := ⟨(e - a).toNat, by omega⟩
   have h1 := S.fl_add a n
   rw [← hn] at h1
   have h2 := lenN_div (S.fl a) n (by rw [← h1]; exact h0)
   rw [← h1] at h2; omega
  ·obtain ⟨n, hn⟩ : ∃ n : Nat, a = e + n := ⟨(a - e).toNat, by omega⟩
   have h1 := S.fl_add e n
   have h3 : S.fl e / 2 ^ n ≠ 0 := by
    have := lenN_ge _ h0
    have h4 : 2 ^ n ≤ S.fl e := Nat.le_trans (Nat.pow_le_pow_right (by decide) (by omega)) this
    have := Nat.div_pos h4 (two_pos n)
    omega
   have h2 := lenN_div (S.fl e) n h3
   rw [hn, h1]; omega
 ·intro a ha
  obtain ⟨n, hn⟩ : ∃ n : Nat, a = e + n := ⟨(a - e).toNat, by omega⟩
  rw [hn, S.fl_add]
  exact Nat.div_eq_of_lt (Nat.lt_of_lt_of_le (lenN_lt _) (Nat.pow_le_pow_right (by decide) (by omega)))
theorem src_pos (S : Src) (e a : Int) (h0 : S.fl e ≠ 0) (hx : S.ex a = true) : S.fl a ≠ 0 := by
 intro hz
 by_cases hle : a ≤ e
 ·obtain ⟨n, hn⟩ : ∃ n : Nat, e = a + n := ⟨(e - a).toNat, by omega⟩
  rw [hn, S.fl_add, hz, Nat.zero_div] at h0; exact h0 rfl
 ·obtain ⟨n, hn⟩ : ∃ n : Nat, a = e + n := ⟨(a - e).toNat, by omega⟩
  rw [hn, S.fl_add] at hz
  rw [hn, S.ex_add, Bool.and_eq_true, decide_eq_true_iff] at hx
  have := Nat.div_add_mod (S.fl e) (2 ^ n)
  rw [hz, hx.2] at this; omega
def tinyR (S : Src) (f m : Nat) (neg : Bool) (E : Int) : Bool := if eminI f ≤ E then false else if E < eminI f - 1 then true else decide (lenN (gridR S m neg (E - pF f + 1)).1 ≤ pF f)
def deliverR (S : Src) (f m : Nat) (neg : Bool) (E : Int) : Nat × Nat :=
 if (eF f : Int) < E then (overN f m neg, 5)
 else if (gridR S m neg (atN f E)).1 = 0 then (zeroN f neg, 3)
 else if (eF f : Int) < lenN (gridR S m neg (atN f E)).1 - 1 + atN f E then (overN f m neg, 5)
 else (encN f neg (gridR S m neg (atN f E)).1 (atN f E), if (gridR S m neg (atN f E)).2 = true then 0 else if tinyR S f m neg E = true then 3 else 1)
theorem deliver_src (S : Src) (f m : Nat) (neg : Bool) (e : Int) (hf : f < 4) (h0 : S.fl e ≠ 0) (h : S.ex e = true ∨ pF f + 2 ≤ lenN (S.fl e)) :
  packB f m neg (S.fl e) e (!S.ex e) = deliverR S f m neg (lenN (S.fl e) - 1 + e) := by
 have hT := top_src S e h0
 have hp : 11 ≤ pF f := (formB f hf).1
 have hem : eminI f = 1 - (eF f : Nat) := by unfold eminI; rw [decide_eq_true hf]; rfl
 obtain ⟨E, hE⟩ : ∃ E : Int, (lenN (S.fl e) : Int) - 1 + e = E := ⟨_, rfl⟩
 rw [hE] at hT
 have hA : atN f E = max E (eminI f) - pF f + 1 := rfl
 have g1 : gridN m neg (S.fl e) e (!S.ex e) (atN f E) = gridR S m neg (atN f E) := grid_src S m neg e _ (by rcases h with h | h; exact Or.inl h; right; omega)
 have g2 : gridN m neg (S.fl e) e (!S.ex e) (E - pF f + 1) = gridR S m neg (E - pF f + 1) := grid_src S m neg e _ (by rcases h with h | h; exact Or.inl h; right; omega)
 have ht : tinyB f m neg (S.fl e) e (!S.ex e) E = tinyR S f m neg E := by
  unfold tinyB tinyR
  rw [g2]
  by_cases h1 : E = eminI f - 1
  ·rw [if_pos h1, if_neg (by omega), if_neg (by omega)]
  ·rw [if_neg h1]
   by_cases h2 : eminI f ≤ E
   ·rw [if_pos h2, decide_eq_false (by omega)]
   ·rw [if_neg h2, if_pos (by omega), decide_eq_true (by omega)]
 unfold packB deliverR
 rw [hE, g1, ht]
 by_cases h1 : (eF f : Int) < E
 ·rw [if_pos h1, if_pos h1]
 ·rw [if_neg h1, if_neg h1]
  by_cases h2 : (gridR S m neg (atN f E)).1 = 0
  ·have hz : S.fl (atN f E) = 0 := by unfold gridR at h2; simp only [] at h2; omega
   have hx : (gridR S m neg (atN f E)).2 = false := by
    cases hc : (gridR S m neg (atN f E)).2
    ·rfl
    ·exact absurd hz (src_pos S e _ h0 hc)
   have hlt : E < atN f E := by
    rcases Int.lt_or_le E (atN f E) with h | h
    ·exact h
    ·have := hT.low _ h
     rw [hz, lenN_zero] at this; omega
   have htt : tinyR S f m neg E = true := by
    unfold tinyR; rw [if_neg (by omega), if_pos (by omega)]
   rw [if_pos h2, h2, hx, htt, lenN_zero, if_neg (by omega)]
   unfold encN zeroN
   rw [decide_eq_true hf, show (atN f E - eminI f + (pF f : Int) - 1).toNat = 0 by omega]; simp
  ·rw [if_neg h2]
   by_cases h3 : (eF f : Int) < lenN (gridR S m neg (atN f E)).1 - 1 + atN f E
   ·rw [if_pos h3, if_pos h3]
   ·rw [if_neg h3, if_neg h3]
    cases (gridR S m neg (atN f E)).2 <;> cases tinyR S f m neg E <;> rfl
def divSh (f a b : Nat) : Nat := (max ((pF f : Int) + 3 + lenN (sigN f b) - lenN (sigN f a)) 0).toNat
def divR (f m a b : Nat) : Nat × Nat :=
 if (nanB (clsN f a) || nanB (clsN f b)) = true then canonR f (clsN f a) (clsN f b)
 else if (infB (clsN f a) && infB (clsN f b) || zerB (clsN f a) && zerB (clsN f b)) = true then (nanN f, 16)
 else if infB (clsN f a) = true then (infN f (belowN4 (clsN f a) != belowN4 (clsN f b)), 0)
 else if (infB (clsN f b) || zerB (clsN f a)) = true then (zeroN f (belowN4 (clsN f a) != belowN4 (clsN f b)), 0)
 else if zerB (clsN f b) = true then (infN f (belowN4 (clsN f a) != belowN4 (clsN f b)), 8)
 else packB f m (belowN4 (clsN f a) != belowN4 (clsN f b)) (sigN f a * 2 ^ divSh f a b / sigN f b) (xpN f a - xpN f b - divSh f a b) (!decide (sigN f a * 2 ^ divSh f a b % sigN f b = 0))
theorem fin_flags (f b : Nat) (h : Fin0 f b) : nanB (clsN f b) = false ∧ infB (clsN f b) = false ∧ zerB (clsN f b) = false := by
 rcases h with c | c | c | c <;> rw [c] <;> exact ⟨rfl, rfl, rfl⟩
theorem zer_flags (f b : Nat) (h : clsN f b = 3 ∨ clsN f b = 4) : nanB (clsN f b) = false ∧ infB (clsN f b) = false ∧ zerB (clsN f b) = true := by
 rcases h with c | c <;> rw [c] <;> exact ⟨rfl, rfl, rfl⟩
theorem div_one (f m a : Nat) (hf : f < 4) (h : fitsB f a = true) (hc : Fin0 f a ∨ clsN f a = 3 ∨ clsN f a = 4) : divR f m a (oneN f false) = (a, 0) := by
 obtain ⟨o1, o2, o3, o4⟩ := one_parts f false hf
 have ho : belowN4 (clsN f (oneN f false)) = false := by rw [o2]; rfl
 have hon : nanB (clsN f (oneN f false)) = false ∧ infB (clsN f (oneN f false)) = false ∧ zerB (clsN f (oneN f false)) = false := by rw [o2]; exact ⟨rfl, rfl, rfl⟩
 have h8 : ¬ 8 ≤ clsN f a := by unfold Fin0 at hc; omega
 have hbn := below_neg f a h8
 unfold divR
 rw [hon.1, hon.2.1, hon.2.2, ho, hbn, bne_false]
 rcases hc with hc | hc
 ·obtain ⟨e1, e2, e3⟩ := fin_flags f a hc
  obtain ⟨hcan, henc⟩ := can_of f a h hc
  rw [e1, e2, e3]
  simp only [Bool.or_self, Bool.false_eq_true, if_false, Bool.and_self]
  rw [o3, o4]
  obtain ⟨h1, h2, h3, h4, h5, h6, h7, h8'⟩ := formK f hf
  have hl := (lenN_le _ _).2 hcan.lt
  have hlp := lenN_pos _ hcan.pos
  have hlo : lenN (2 ^ (pF f - 1)) = pF f := lenN_unique _ _ (Nat.le_refl _) (Nat.pow_lt_pow_right (by decide) (by omega)) (by omega)
  obtain ⟨k, hk⟩ : ∃ k, divSh f a (oneN f false) = k + (pF f - 1) := ⟨divSh f a (oneN f false) - (pF f - 1), by unfold divSh; rw [o3, hlo]; omega⟩
  rw [hk, Nat.pow_add, ← Nat.mul_assoc, Nat.mul_div_cancel _ (two_pos _), Nat.mul_mod_left, decide_eq_true rfl]
  rw [Bool.not_true, pack_exact f m (sigN f a) _ (xpN f a) _ (negN f a) hf hcan (Or.inl ⟨by omega, by rw [show (xpN f a - (xpN f a - (1 - (pF f : Int)) - ((k + (pF f - 1) : Nat) : Int))).toNat = k by omega]⟩), henc]
 ·obtain ⟨e1, e2, e3⟩ := zer_flags f a hc
  rw [e1, e2, e3]
  simp only [Bool.or_self, Bool.false_eq_true, if_false, Bool.and_self, Bool.and_false, Bool.or_true, if_true]
  rw [zero_of f a h hc]
theorem div_self (f m a : Nat) (hf : f < 4) (h : fitsB f a = true) (hc : Fin0 f a) : divR f m a a = (oneN f false, 0) := by
 obtain ⟨e1, e2, e3⟩ := fin_flags f a hc
 obtain ⟨hcan, henc⟩ := can_of f a h hc
 obtain ⟨h1, h2, h3, h4, h5, h6, h7, h8⟩ := formK f hf
 obtain ⟨o1, o2, o3, o4⟩ := one_parts f false hf
 have ho : Fin0 f (oneN f false) := by unfold Fin0; rw [o2]; decide
 obtain ⟨ocan, oenc⟩ := can_of f (oneN f false) o1 ho
 have on : negN f (oneN f false) = false := by rw [one_mk f false hf]; exact (mkN_fields f hf false (eF f) 0 (two_pos _) (by omega)).2.2.1
 rw [on] at oenc
 unfold divR
 rw [e1, e2, e3]
 simp only [Bool.or_self, Bool.false_eq_true, if_false, Bool.and_self, bne_self_eq_false]
 have hs : divSh f a a = pF f + 3 := by unfold divSh; omega
 have hp : 0 < sigN f a := Nat.pos_of_ne_zero hcan.pos
 rw [hs, Nat.mul_div_cancel_left _ hp, Nat.mul_mod_right, decide_eq_true rfl, Bool.not_true]
 rw [pack_exact f m (sigN f (oneN f false)) _ (xpN f (oneN f false)) _ false hf ocan (Or.inl ⟨by rw [o4]; omega, ?_⟩), oenc]
 rw [o3, o4, ← Nat.pow_add, show pF f - 1 + (1 - (pF f : Int) - (xpN f a - xpN f a - ((pF f + 3 : Nat) : Int))).toNat = pF f + 3 by omega]
def isqF (n : Nat) : Nat → Nat
 | 0 => 0
 | k + 1 => if (k + 1) * (k + 1) ≤ n then k + 1 else isqF n k
def isq (n : Nat) : Nat := isqF n n
theorem isqF_le (n k : Nat) : isqF n k * isqF n k ≤ n := by
 induction k with
 | zero => simp [isqF]
 | succ k ih => unfold isqF; split <;> assumption
theorem isqF_gt (n k j : Nat) (h1 : isqF n k < j) (h2 : j ≤ k) : n < j * j := by
 induction k with
 | zero => omega
 | succ k ih =>
  unfold isqF at h1
  by_cases h : (k + 1) * (k + 1) ≤ n
  ·rw [if_pos h] at h1; omega
  ·rw [if_neg h] at h1
   by_cases hj : j = k + 1
   ·rw [hj]; omega
   ·exact ih h1 (by omega)
theorem isq_le (n : Nat) : isq n * isq n ≤ n := isqF_le n n
theorem isq_gt (n : Nat) : n < (isq n + 1) * (isq n + 1) := by
 by_cases h : isq n + 1 ≤ n
 ·exact isqF_gt n n _ (Nat.lt_succ_self _) h
 ·have : n < isq n + 1 := by omega
  exact Nat.lt_of_lt_of_le this (Nat.le_mul_of_pos_left _ (by omega))
theorem isq_unique (n r : Nat) (h1 : r * r ≤ n) (h2 : n < (r + 1) * (r + 1)) : isq n = r := by
 have a := isq_le n
 have b := isq_gt n
 rcases Nat.lt_trichotomy (isq n) r with h | h | h
 ·have := Nat.mul_le_mul (show isq n + 1 ≤ r from h) (show isq n + 1 ≤ r from h); omega
 ·exact h
 ·have := Nat.mul_le_mul (show r + 1 ≤ isq n from h) (show r + 1 ≤ isq n from h); omega
theorem isq_sq (r : Nat) : isq (r * r) = r := isq_unique _ _ (Nat.le_refl _) (by rw [Nat.add_mul, Nat.mul_add]; omega)
def ratFl (n d : Nat) (e a : Int) : Nat := n * 2 ^ (e - a).toNat / (d * 2 ^ (a - e).toNat)
def ratEx (n d : Nat) (e a : Int) : Bool := decide (n * 2 ^ (e - a).toNat % (d * 2 ^ (a - e).toNat) = 0)
theorem div_two (A D : Nat) : A / D / 2 = A / (D * 2) := by rw [Nat.div_div_eq_div_mul]
theorem mod_two (A D : Nat) (hD : 0 < D) : A % (D * 2) = 0 ↔ (A % D = 0 ∧ A / D % 2 = 0) := by
 have h1 : A % (D * 2) = A % D + D * (A / D % 2) := Nat.mod_mul
 rw [h1]
 constructor
 ·intro h
  have h5 : D * (A / D % 2) = 0 := by omega
  refine ⟨by omega, ?_⟩
  rcases Nat.mul_eq_zero.1 h5 with h | h <;> omega
 ·rintro ⟨h2, h3⟩; rw [h2, h3]; simp
def ratS (n d : Nat) (e : Int) (hd : 0 < d) : Src where
 fl := ratFl n d e
 ex := ratEx n d e
 up := by
  intro a
  unfold ratFl
  by_cases h : a < e
  ·obtain ⟨i, hi⟩ : ∃ i : Nat, (e - a).toNat = i + 1 := ⟨(e - a).toNat - 1, by omega⟩
   rw [hi, show (e - (a + 1)).toNat = i by omega, show (a + 1 - e).toNat = 0 by omega, show (a - e).toNat = 0 by omega, div_two, Nat.pow_succ, ← Nat.mul_assoc, Nat.pow_zero, Nat.mul_one, Nat.mul_div_mul_right _ _ (by decide)]
  ·obtain ⟨j, hj⟩ : ∃ j : Nat, (a - e).toNat = j := ⟨_, rfl⟩
   rw [hj, show (e - (a + 1)).toNat = 0 by omega, show (a + 1 - e).toNat = j + 1 by omega, show (e - a).toNat = 0 by omega, div_two, Nat.pow_succ, ← Nat.mul_assoc]
 exUp := by
  intro a
  unfold ratEx ratFl
  rw [Bool.eq_iff_iff]
  simp only [Bool.and_eq_true, decide_eq_true_iff]
  by_cases h : a < e
  ·obtain ⟨i, hi⟩ : ∃ i : Nat, (e - a).toNat = i + 1 := ⟨(e - a).toNat - 1, by omega⟩
   rw [hi, show (e - (a + 1)).toNat = i by omega, show (a + 1 - e).toNat = 0 by omega, show (a - e).toNat = 0 by omega, Nat.pow_zero, Nat.mul_one, ← mod_two _ _ hd, Nat.pow_succ, ← Nat.mul_assoc, Nat.mul_mod_mul_right]
   omega
  ·obtain ⟨j, hj⟩ : ∃ j : Nat, (a - e).toNat = j := ⟨_, rfl⟩
   rw [hj, show (e - (a + 1)).toNat = 0 by omega, show (a + 1 - e).toNat = j + 1 by omega, show (e - a).toNat = 0 by omega, ← mod_two _ _ (Nat.mul_pos hd (two_pos _)), Nat.pow_succ, ← Nat.mul_assoc]
 down := by
  intro a
  unfold ratEx ratFl
  intro hx
  have hx := of_decide_eq_true hx
  by_cases h : a ≤ e
  ·obtain ⟨i, hi⟩ : ∃ i : Nat, (e - a).toNat = i := ⟨_, rfl⟩
   rw [hi, show (a - e).toNat = 0 by omega, Nat.pow_zero, Nat.mul_one] at hx ⊢
   rw [show (e - (a - 1)).toNat = i + 1 by omega, show (a - 1 - e).toNat = 0 by omega, Nat.pow_zero, Nat.mul_one, Nat.pow_succ, ← Nat.mul_assoc]
   have hq := Nat.div_add_mod (n * 2 ^ i) d
   rw [hx, Nat.add_zero] at hq
   generalize n * 2 ^ i / d = q at *
   rw [← hq, Nat.mul_assoc, Nat.mul_div_cancel_left _ hd, Nat.mul_mod_right]
   exact ⟨Nat.mul_comm _ _, by simp⟩
  ·obtain ⟨j, hj⟩ : ∃ j : Nat, (a - e).toNat = j + 1 := ⟨(a - e).toNat - 1, by omega⟩
   rw [hj, show (e - a).toNat = 0 by omega, Nat.pow_zero, Nat.mul_one] at hx ⊢
   rw [show (e - (a - 1)).toNat = 0 by omega, show (a - 1 - e).toNat = j by omega, Nat.pow_zero, Nat.mul_one]
   have hD : 0 < d * 2 ^ j := Nat.mul_pos hd (two_pos _)
   have e1 : d * 2 ^ (j + 1) = d * 2 ^ j * 2 := by rw [Nat.pow_succ, Nat.mul_assoc]
   rw [e1] at hx ⊢
   have hq := Nat.div_add_mod n (d * 2 ^ j * 2)
   rw [hx, Nat.add_zero] at hq
   generalize n / (d * 2 ^ j * 2) = q at *
   rw [← hq, Nat.mul_assoc, Nat.mul_div_cancel_left _ hD, Nat.mul_mod_right]
   exact ⟨rfl, by simp⟩
theorem isq_quart (N : Nat) : isq (N / 4) = isq N / 2 := by
 have h1 := isq_le N
 have h2 := isq_gt N
 generalize isq N = r at *
 apply isq_unique
 ·have h3 : (r / 2 * 2) * (r / 2 * 2) ≤ r * r := Nat.mul_le_mul (Nat.div_mul_le_self _ _) (Nat.div_mul_le_self _ _)
  have h4 : (r / 2 * 2) * (r / 2 * 2) = 4 * (r / 2 * (r / 2)) := by rw [Nat.mul_mul_mul_comm, Nat.mul_comm]
  omega
 ·have h3 : (r + 1) * (r + 1) ≤ ((r / 2 + 1) * 2) * ((r / 2 + 1) * 2) := Nat.mul_le_mul (by omega) (by omega)
  have h4 : ((r / 2 + 1) * 2) * ((r / 2 + 1) * 2) = 4 * ((r / 2 + 1) * (r / 2 + 1)) := by rw [Nat.mul_mul_mul_comm, Nat.mul_comm]
  omega
theorem sq_two (r : Nat) : (r * 2) * (r * 2) = r * r * 4 := Nat.mul_mul_mul_comm ..
def rootS (S : Src) : Src where
 fl := fun a => isq (S.fl (2 * a))
 ex := fun a => S.ex (2 * a) && decide (isq (S.fl (2 * a)) * isq (S.fl (2 * a)) = S.fl (2 * a))
 up := by
  intro a
  have := S.fl_add (2 * a) 2
  rw [show 2 * (a + 1) = 2 * a + ((2 : Nat) : Int) by omega, this]
  exact isq_quart _
 exUp := by
  intro a
  have h1 := S.fl_add (2 * a) 2
  have h2 := S.ex_add (2 * a) 2
  rw [show 2 * (a + 1) = 2 * a + ((2 : Nat) : Int) by omega, h1, h2, Bool.and_assoc, Bool.and_assoc]
  congr 1
  rw [show 2 ^ 2 = 4 from rfl, isq_quart, Bool.eq_iff_iff]
  simp only [Bool.and_eq_true, decide_eq_true_iff]
  generalize hN : S.fl (2 * a) = N
  constructor
  ·rintro ⟨h3, h4⟩
   have e : N = (isq N / 2 * 2) * (isq N / 2 * 2) := by rw [sq_two]; omega
   have e2 : isq N = isq N / 2 * 2 := by
    have := isq_sq (isq N / 2 * 2)
    rw [← e] at this; exact this
   rw [← e2] at e
   exact ⟨e.symm, by omega⟩
  ·rintro ⟨h3, h4⟩
   have e2 : isq N = isq N / 2 * 2 := by omega
   have e : N = isq N / 2 * (isq N / 2) * 4 := by rw [← sq_two, ← e2]; exact h3.symm
   generalize isq N / 2 * (isq N / 2) = k at *
   exact ⟨by omega, by omega⟩
 down := by
  intro a hx
  rw [Bool.and_eq_true, decide_eq_true_iff] at hx
  obtain ⟨h1, h2⟩ := S.fl_sub (2 * a) 2 hx.1
  rw [show 2 * (a - 1) = 2 * a - ((2 : Nat) : Int) by omega, h1, h2, show 2 ^ 2 = 4 from rfl]
  have e : S.fl (2 * a) * 4 = (isq (S.fl (2 * a)) * 2) * (isq (S.fl (2 * a)) * 2) := by rw [sq_two, hx.2]
  rw [e, isq_sq]
  exact ⟨Nat.mul_comm _ _, by rw [decide_eq_true rfl]; rfl⟩
theorem frac_pow (n d x y x' y' : Nat) (hd : 0 < d) (h : x + y' = x' + y) : n * 2 ^ x / (d * 2 ^ y) = n * 2 ^ x' / (d * 2 ^ y') ∧ (n * 2 ^ x % (d * 2 ^ y) = 0 ↔ n * 2 ^ x' % (d * 2 ^ y') = 0) := by
 have key : ∀ x y k : Nat, n * 2 ^ (x + k) / (d * 2 ^ (y + k)) = n * 2 ^ x / (d * 2 ^ y) ∧ (n * 2 ^ (x + k) % (d * 2 ^ (y + k)) = 0 ↔ n * 2 ^ x % (d * 2 ^ y) = 0) := by
  intro x y k
  have hk := two_pos k
  rw [Nat.pow_add, Nat.pow_add, ← Nat.mul_assoc, ← Nat.mul_assoc, Nat.mul_div_mul_right _ _ hk, Nat.mul_mod_mul_right]
  refine ⟨rfl, ?_⟩
  constructor
  ·intro h
   rcases Nat.mul_eq_zero.1 h with h | h
   ·exact h
   ·omega
  ·intro h; rw [h, Nat.zero_mul]
 have h1 := key x y y'
 have h2 := key x' y' y
 rw [h, Nat.add_comm y y'] at h1
 exact ⟨h1.1.symm.trans h2.1, h1.2.symm.trans h2.2⟩
theorem src_eq (S T : Src) (h1 : ∀ a, S.fl a = T.fl a) (h2 : ∀ a, S.ex a = T.ex a) : S = T := by
 cases S; cases T
 have e1 := funext h1
 have e2 := funext h2
 simp only at e1 e2
 subst e1; subst e2; rfl
theorem rat_low (n d i j : Nat) (e : Int) (hd : 0 < d) (a : Int) : ratFl (n * 2 ^ i) (d * 2 ^ j) e a = ratFl n d (e + i - j) a ∧ ratEx (n * 2 ^ i) (d * 2 ^ j) e a = ratEx n d (e + i - j) a := by
 unfold ratFl ratEx
 have h := frac_pow n d (i + (e - a).toNat) (j + (a - e).toNat) (e + i - j - a).toNat (a - (e + i - j)).toNat hd (by omega)
 rw [Nat.pow_add, Nat.pow_add, ← Nat.mul_assoc, ← Nat.mul_assoc] at h
 exact ⟨h.1, decide_eq_decide.2 h.2⟩
theorem top_unique (S : Src) (E E' : Int) (h : Top S E) (h' : Top S E') : E = E' := by
 rcases Int.lt_trichotomy E E' with k | k | k
 ·have h1 := h'.low E' (by omega)
  have h2 := h.high E' k
  rw [h2, lenN_zero] at h1; omega
 ·exact k
 ·have h1 := h.low E (by omega)
  have h2 := h'.high E k
  rw [h2, lenN_zero] at h1; omega
theorem top_one (S : Src) (E : Int) (h : S.fl E = 1) : Top S E := by
 have := top_src S E (by rw [h]; decide)
 rw [h, show lenN 1 = 1 from rfl] at this
 rw [show ((1 : Nat) : Int) - 1 + E = E by omega] at this
 exact this
def topX (n d : Nat) : Int :=
 if lenN d ≤ lenN n then (if d * 2 ^ (lenN n - lenN d) ≤ n then ((lenN n - lenN d : Nat) : Int) else ((lenN n - lenN d : Nat) : Int) - 1)
 else (if d ≤ n * 2 ^ (lenN d - lenN n) then -((lenN d - lenN n : Nat) : Int) else -((lenN d - lenN n : Nat) : Int) - 1)
theorem div_is_one (A D : Nat) (h1 : D ≤ A) (h2 : A < 2 * D) : A / D = 1 := by
 have hD : 0 < D := by omega
 have a1 := (Nat.le_div_iff_mul_le hD).2 (show 1 * D ≤ A by omega)
 have a2 := (Nat.div_lt_iff_lt_mul hD).2 (show A < 2 * D by omega)
 omega
theorem len_bounds (n : Nat) (h : n ≠ 0) : ∃ l, lenN n = l + 1 ∧ 2 ^ l ≤ n ∧ n < 2 * 2 ^ l := by
 have h1 := lenN_pos n h
 have h2 := lenN_ge n h
 have h3 := lenN_lt n
 refine ⟨lenN n - 1, by omega, h2, ?_⟩
 rw [Nat.mul_comm, ← Nat.pow_succ, show (lenN n - 1).succ = lenN n by omega]; exact h3
theorem rat_top (n d : Nat) (e : Int) (hn : n ≠ 0) (hd : 0 < d) : Top (ratS n d e hd) (topX n d + e) := by
 apply top_one
 show ratFl n d e (topX n d + e) = 1
 unfold ratFl
 obtain ⟨l, hl, n1, n2⟩ := len_bounds n hn
 obtain ⟨k, hk, d1, d2⟩ := len_bounds d (by omega)
 unfold topX
 rw [hl, hk]
 by_cases h : k + 1 ≤ l + 1
 ·rw [if_pos h]
  obtain ⟨t, rfl⟩ : ∃ t, l = k + t := ⟨l - k, by omega⟩
  rw [show k + t + 1 - (k + 1) = t by omega]
  have p := two_pos t
  rw [Nat.pow_add] at n1 n2
  have m1 := Nat.mul_le_mul_right (2 ^ t) d1
  have m2 := (Nat.mul_lt_mul_right p).2 d2
  rw [Nat.mul_assoc] at m2
  by_cases h2 : d * 2 ^ t ≤ n
  ·rw [if_pos h2, show (e - ((t : Nat) + e)).toNat = 0 by omega, show ((t : Nat) + e - e).toNat = t by omega, Nat.pow_zero, Nat.mul_one]
   exact div_is_one _ _ h2 (by omega)
  ·rw [if_neg h2]
   cases t with
   | zero =>
    rw [show (e - ((0 : Nat) - 1 + e)).toNat = 1 by omega, show (((0 : Nat) : Int) - 1 + e - e).toNat = 0 by omega]
    rw [Nat.pow_zero, Nat.mul_one] at *
    exact div_is_one _ _ (by omega) (by omega)
   | succ t =>
    rw [show (e - (((t + 1 : Nat) : Int) - 1 + e)).toNat = 0 by omega, show (((t + 1 : Nat) : Int) - 1 + e - e).toNat = t by omega, Nat.pow_zero, Nat.mul_one]
    have q : 2 ^ (t + 1) = 2 ^ t * 2 := Nat.pow_succ ..
    have a1 : d * 2 ^ t ≤ (2 * 2 ^ k) * 2 ^ t := Nat.mul_le_mul_right _ (by omega)
    have a2 : (2 * 2 ^ k) * 2 ^ t = 2 ^ k * 2 ^ (t + 1) := by rw [q]; ac_rfl
    have a3 : d * 2 ^ (t + 1) = 2 * (d * 2 ^ t) := by rw [q]; ac_rfl
    rw [a3] at h2
    rw [a2] at a1
    exact div_is_one _ _ (by omega) (by omega)
 ·rw [if_neg h]
  obtain ⟨t, rfl⟩ : ∃ t, k = l + (t + 1) := ⟨k - l - 1, by omega⟩
  rw [show l + (t + 1) + 1 - (l + 1) = t + 1 by omega]
  have p := two_pos (t + 1)
  rw [Nat.pow_add] at d1 d2
  have m1 := Nat.mul_le_mul_right (2 ^ (t + 1)) n1
  have m2 := (Nat.mul_lt_mul_right p).2 n2
  rw [Nat.mul_assoc] at m2
  by_cases h2 : d ≤ n * 2 ^ (t + 1)
  ·rw [if_pos h2, show (e - (-((t + 1 : Nat) : Int) + e)).toNat = t + 1 by omega, show (-((t + 1 : Nat) : Int) + e - e).toNat = 0 by omega, Nat.pow_zero, Nat.mul_one]
   exact div_is_one _ _ h2 (by omega)
  ·rw [if_neg h2, show (e - (-((t + 1 : Nat) : Int) - 1 + e)).toNat = t + 1 + 1 by omega, show (-((t + 1 : Nat) : Int) - 1 + e - e).toNat = 0 by omega, Nat.pow_zero, Nat.mul_one, Nat.pow_succ, ← Nat.mul_assoc]
   exact div_is_one _ _ (by omega) (by omega)
def gcdX (n d : Nat) : Nat := Nat.gcd (n / 2 ^ lowZ n) (d / 2 ^ lowZ d)
def numX (n d : Nat) : Nat := if n = 0 then 0 else n / 2 ^ lowZ n / gcdX n d
def denX (n d : Nat) : Nat := if n = 0 then 1 else d / 2 ^ lowZ d / gcdX n d
def expX (n d : Nat) (e : Int) : Int := if n = 0 then 0 else e + lowZ n - lowZ d
def negX' (neg : Bool) (n : Nat) : Bool := if n = 0 then false else neg
theorem low_split (n : Nat) (h : n ≠ 0) : n = n / 2 ^ lowZ n * 2 ^ lowZ n ∧ n / 2 ^ lowZ n % 2 = 1 ∧ n / 2 ^ lowZ n ≠ 0 := by
 obtain ⟨s1, s2⟩ := lowZ_spec n h
 have h1 := Nat.div_add_mod n (2 ^ lowZ n)
 rw [s1, Nat.add_zero, Nat.mul_comm] at h1
 have h2 : n / 2 ^ lowZ n % 2 = 1 := s2
 refine ⟨h1.symm, h2, ?_⟩
 intro h0; rw [h0] at h2; cases h2
theorem gcdX_pos (n d : Nat) (hn : n ≠ 0) : 0 < gcdX n d := Nat.gcd_pos_of_pos_left _ (Nat.pos_of_ne_zero (low_split n hn).2.2)
theorem mkx_parts (n d : Nat) (hn : n ≠ 0) (hd : d ≠ 0) : n = numX n d * gcdX n d * 2 ^ lowZ n ∧ d = denX n d * gcdX n d * 2 ^ lowZ d ∧ numX n d ≠ 0 ∧ denX n d ≠ 0 := by
 obtain ⟨n1, -, n3⟩ := low_split n hn
 obtain ⟨d1, -, d3⟩ := low_split d hd
 have e1 : numX n d * gcdX n d = n / 2 ^ lowZ n := by unfold numX; rw [if_neg hn]; exact Nat.div_mul_cancel (Nat.gcd_dvd_left _ _)
 have e2 : denX n d * gcdX n d = d / 2 ^ lowZ d := by unfold denX; rw [if_neg hn]; exact Nat.div_mul_cancel (Nat.gcd_dvd_right _ _)
 refine ⟨by rw [e1]; exact n1, by rw [e2]; exact d1, ?_, ?_⟩
 ·intro h; rw [h, Nat.zero_mul] at e1; exact n3 e1.symm
 ·intro h; rw [h, Nat.zero_mul] at e2; exact d3 e2.symm
theorem odd_div (a g : Nat) (hd : g ∣ a) (ha : a % 2 = 1) : a / g % 2 = 1 := by
 obtain ⟨q, rfl⟩ := hd
 have hg : 0 < g := by rcases Nat.eq_zero_or_pos g with h | h; rw [h, Nat.zero_mul] at ha; cases ha; exact h
 rw [Nat.mul_div_cancel_left _ hg]
 rw [Nat.mul_mod] at ha
 have h1 : g % 2 < 2 := Nat.mod_lt _ (by decide)
 have h2 : q % 2 < 2 := Nat.mod_lt _ (by decide)
 generalize g % 2 = x at *
 generalize q % 2 = y at *
 have : x = 0 ∨ x = 1 := by omega
 have : y = 0 ∨ y = 1 := by omega
 rcases ‹x = 0 ∨ x = 1› with rfl | rfl <;> rcases ‹y = 0 ∨ y = 1› with rfl | rfl <;> simp_all
theorem gcd_rest (a b g : Nat) (h : g = Nat.gcd a b) (hg : 0 < g) : Nat.gcd (a / g) (b / g) = 1 := by
 have h1 : a / g * g = a := Nat.div_mul_cancel (h ▸ Nat.gcd_dvd_left a b)
 have h2 : b / g * g = b := Nat.div_mul_cancel (h ▸ Nat.gcd_dvd_right a b)
 have h3 := Nat.gcd_mul_right (a / g) g (b / g)
 rw [h1, h2, ← h] at h3
 have h4 : 1 * g = Nat.gcd (a / g) (b / g) * g := by omega
 exact (Nat.eq_of_mul_eq_mul_right hg h4).symm
theorem mkx_odd (n d : Nat) (hn : n ≠ 0) (hd : d ≠ 0) : numX n d % 2 = 1 ∧ denX n d % 2 = 1 ∧ Nat.gcd (numX n d) (denX n d) = 1 := by
 obtain ⟨-, n2, n3⟩ := low_split n hn
 obtain ⟨-, d2, d3⟩ := low_split d hd
 have hg := gcdX_pos n d hn
 unfold numX denX
 rw [if_neg hn, if_neg hn]
 refine ⟨odd_div _ _ (Nat.gcd_dvd_left _ _) n2, odd_div _ _ (Nat.gcd_dvd_right _ _) d2, ?_⟩
 exact gcd_rest _ _ _ rfl hg
theorem pF_113 (f : Nat) : pF f ≤ 113 := by
 rcases forms f with rfl | rfl | rfl | rfl | h
 ·decide
 ·decide
 ·decide
 ·decide
 ·rw [(wF_big f h).2.1]; decide
theorem lt_pwr (T b c x : Nat) (h : T = 2 ^ c) (hb : b ≤ c) (hx : x < 2 ^ b) : x < T := by rw [h]; exact Nat.lt_of_lt_of_le hx (Nat.pow_le_pow_right (by decide) hb)
theorem gridN_le (m s p : Nat) (neg mo : Bool) (e at_ : Int) (h : (lenN s : Int) + e - at_ ≤ p) : (gridN m neg s e mo at_).1 ≤ 2 ^ p := by
 have hs := lenN_lt s
 unfold gridN
 by_cases hn : at_ ≤ e
 ·rw [if_pos hn]
  obtain ⟨d, hd⟩ : ∃ d, d = (e - at_).toNat := ⟨_, rfl⟩
  rw [← hd]
  have h1 : s * 2 ^ d ≤ 2 ^ lenN s * 2 ^ d := Nat.mul_le_mul_right _ (Nat.le_of_lt hs)
  rw [← Nat.pow_add] at h1
  exact Nat.le_trans h1 (Nat.pow_le_pow_right (by decide) (by omega))
 ·rw [if_neg hn]
  obtain ⟨d, hd⟩ : ∃ d, d = (at_ - e).toNat := ⟨_, rfl⟩
  rw [← hd]
  have h1 : s < 2 ^ (p + d) := Nat.lt_of_lt_of_le hs (Nat.pow_le_pow_right (by decide) (by omega))
  rw [Nat.pow_add] at h1
  have h2 : s / 2 ^ d < 2 ^ p := by
   rw [Nat.div_lt_iff_lt_mul (two_pos d)]; exact h1
  have h3 : ∀ b : Bool, s / 2 ^ d + cond b 1 0 ≤ 2 ^ p := by intro b; cases b <;> simp only [cond_true, cond_false] <;> omega
  exact h3 _
theorem lt_top114 (x p : Nat) (hp : p ≤ 113) (h : x ≤ 2 ^ p) : x < top6 :=
 lt_pwr top6 (p + 1) (64 * 6) x top6.eq_1 (by omega) (Nat.lt_of_le_of_lt h (Nat.pow_lt_pow_right (by decide) (by omega)))
theorem lenN_le_of (x p : Nat) (h : x ≤ 2 ^ p) : lenN x ≤ p + 1 := (lenN_le x (p + 1)).2 (Nat.lt_of_le_of_lt h (Nat.pow_lt_pow_right (by decide) (by omega)))
theorem enc_lt (f k : Nat) (d : Nat) (hf : f < 4) (hk : k ≤ 2 ^ pF f) (hd : d + 1 ≤ 2 * eF f) : d * 2 ^ (pF f - 1) + k < 2 ^ (wF f - 1) := by
 have hK := formK f hf
 rw [hK.2.1, Nat.pow_add, hK.2.2.1, Nat.mul_comm (2 ^ (pF f - 1))]
 have h2 : 2 ^ pF f = 2 * 2 ^ (pF f - 1) := by
  rw [show pF f = (pF f - 1) + 1 by omega, Nat.pow_succ, Nat.add_sub_cancel]; omega
 have := two_pos (pF f - 1)
 have h3 : (d + 3) * 2 ^ (pF f - 1) ≤ (2 * eF f + 2) * 2 ^ (pF f - 1) := Nat.mul_le_mul_right _ (by omega)
 rw [Nat.add_mul] at h3
 omega
end Go.Proofs.YtgmhmpflmgfcdaaGreatDoor
