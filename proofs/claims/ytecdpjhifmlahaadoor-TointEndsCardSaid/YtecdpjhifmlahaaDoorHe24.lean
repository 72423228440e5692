/- Part 24 of what is proved: Ev, Et, R19, R19j, Le, Unp2. -/
import Derived.Deep.Cut
import Derived.Test.YtecdpjhifmlahaaDoorHe1
import Derived.Test.YtecdpjhifmlahaaDoorHe3
import Derived.Test.YtecdpjhifmlahaaDoorHe4
import Derived.Test.YtecdpjhifmlahaaDoorHe23
set_option linter.unusedSimpArgs false
set_option linter.unusedVariables false
set_option linter.unnecessarySimpa false
set_option maxRecDepth 100000
set_option maxHeartbeats 1600000
namespace Go.Proofs.YtecdpjhifmlahaaDoor
open Go.RowKit Go.Proofs.YtecdpjhifmlahaaDoorW.PrintWords Go.Proofs.YtecdpjhifmlahaaDoor.PTointEnds
/-- An exact number, in its one form, as a value. -/
abbrev exV (neg : Bool) (n d : Nat) (e : Int) : Value := .agg (exC neg (strB n) (strB d) e)
theorem r6Make_any (neg : Bool) (n d : Nat) (e : Int) (w : World) (hn : nb n ≤ 16384) (hd : nb d ≤ 16384) (hd0 : d ≠ 0) (he : -900000 ≤ e) (he2 : e ≤ 900000) :
    Calls Tryd.prog 70 #[.bool neg, .string (strB n), .string (strB d), .int .i64 e] w fun e' w' => e' = .returned (.tuple #[exV (negX' neg n) (numX n d) (denX n d) (expX n d e), .int .i64 0]) ∧ Below w.heap.size w w' :=
  abacusref06_Make.calls _ neg (strB n) (strB d) e _ _ _ _ _ w (make_strB neg n d e (d + 1000001) hn hd hd0 he he2 (Nat.le_refl _))
theorem r6Floor_any (neg : Bool) (n d : Nat) (e a : Int) (w : World) (hn : nb n ≤ 16384) (hd : nb d ≤ 16384) (hd0 : d ≠ 0) (he : -1048576 ≤ e) (he2 : e ≤ 1048576) (ha : -2097152 ≤ a) (ha2 : a ≤ 2097152) (hl : n = 0 ∨ e < a ∨ (lenN n : Int) + (e - a) ≤ 131072) :
    Calls Tryd.prog 47 #[exV neg n d e, .int .i64 a] w fun e' w' => e' = .returned (.tuple #[.string (strB (ratFl n d e a)), .bool (ratEx n d e a), .int .i64 0]) ∧ Below w.heap.size w w' :=
  abacusref06_Floor.calls _ neg (strB n) (strB d) e a _ _ _ w (floor_strB neg n d e a 900001 hn hd hd0 he he2 ha ha2 hl (Nat.le_refl _))
theorem r5Low_any (n : Nat) (w : World) (hn : nb n ≤ 16384) : Calls Tryd.prog 48 #[.string (strB n)] w fun e' w' => e' = .returned (.int .i64 (lowZ n : Nat)) ∧ Below w.heap.size w w' :=
  (abacusref05_Low.calls _ (strB n) _ w (low_strB n (nb n + 70) hn (Nat.le_refl _))).mono fun _ _ h => ⟨h.1, h.2.below⟩
theorem r5Len_any (n : Nat) (w : World) (hn : nb n ≤ 16384) : Calls Tryd.prog 25 #[.string (strB n)] w fun e' w' => e' = .returned (.int .i64 (lenN n : Nat)) ∧ Below w.heap.size w w' :=
  (abacusref05_Len.calls _ (strB n) _ w (len_strB n 65 hn (Nat.le_refl _))).mono fun _ _ h => ⟨h.1, h.2.below⟩
theorem r5May_any (n : Nat) (w : World) (hn : nb n ≤ 16384) : Calls Tryd.prog 51 #[.string (strB n)] w fun e' w' => e' = .returned (.bool true) ∧ Below w.heap.size w w' :=
  (abacusref05_May.calls (strB n) _ w (may_strB n hn)).mono fun _ _ h => ⟨h.1, h.2.below⟩
theorem r5At_any (n i : Nat) (w : World) (hn : nb n ≤ 16384) (hi : i ≤ 16384) : Calls Tryd.prog 53 #[.string (strB n), .int .i64 i] w fun e' w' => e' = .returned (.int .i64 (byt n i : Nat)) ∧ Below w.heap.size w w' :=
  (abacusref05_at.calls (strB n) i _ w (at_strB n i (by unfold Fine; omega) (by omega))).mono fun _ _ h => ⟨h.1, h.2.below⟩
theorem nb_add (a b m : Nat) (ha : nb a ≤ m) (hb : nb b ≤ m) : nb (a + b) ≤ m + 1 := by
  have h2 := (nb_le a m).1 ha
  have h3 := (nb_le b m).1 hb
  refine (nb_le _ _).2 ?_
  rw [pow_succ256]
  generalize 256 ^ m = x at *
  omega
theorem r5Add_any (a b : Nat) (w : World) (ha : nb a ≤ 16000) (hb : nb b ≤ 16000) : Calls Tryd.prog 50 #[.string (strB a), .string (strB b)] w fun e' w' => e' = .returned (.tuple #[.string (strB (a + b)), .int .i64 0]) ∧ Below w.heap.size w w' := by
  refine abacusref05_Add.calls (2 * (nb a + nb b) + 16) (strB a) (strB b) _ _ w ?_
  have h1 : nb (a + b) ≤ 16384 := Nat.le_trans (nb_add a b 16000 ha hb) (by decide)
  unfold abacusref05_Add.f abacusref05_long.f
  rw [add_strB a b _ (by omega) (by omega) (Nat.le_refl _), Option.bind_some, size_strB, if_neg (by omega)]; rfl
set_option maxHeartbeats 3200000 in
theorem r8Value_w (f b c s fr : Nat) (x : Int) (neg : Bool) (n : ByteArray) (neg2 : Bool) (n2 d2 : ByteArray) (e2 er : Int) (w : World) (cU : ∀ w, Calls Tryd.prog 69 #[.int .u8 f, BV b] w fun e w' => e = .returned (PV c s x fr) ∧ Below w.heap.size w w') (q8 : ((c : Int) == 8) = false) (q9 : ((c : Int) == 9) = false) (q0 : ((c : Int) == 0) = false) (q7 : ((c : Int) == 7) = false) (cS : ∀ w, Calls Tryd.prog 27 #[.int .u8 f, BV b] w fun e w' => e = .returned (.bool neg) ∧ Below w.heap.size w w') (cO : ∀ w, Calls Tryd.prog 71 #[W s] w fun e w' => e = .returned (.string n) ∧ Below w.heap.size w w') (cM : ∀ w, Calls Tryd.prog 70 #[.bool neg, .string n, .string ⟨#[1]⟩, .int .i64 x] w fun e w' => e = .returned (.tuple #[.agg (exC neg2 n2 d2 e2), .int .i64 er]) ∧ Below w.heap.size w w') :
    Calls Tryd.prog 46 #[.int .u8 f, BV b] w fun e w' => e = .returned (.tuple #[.agg (exC neg2 n2 d2 e2), .int .i64 0]) ∧ Below w.heap.size w w' := by
  have H := Own.start w
  go_enter Tryd.func46, Tryd.ntmps46
  go_wp2_with (first
    | ((with_reducible show wpList _ _ _ (⟨_, .box _ _, _, _, _, _⟩ :: _) _ _); refine H.box rfl rfl (cells_agg _) ?_; (intro g w H; simp only [Act.put, q1_, q2_, q3_]))
    | ((with_reducible show wpList _ _ _ (⟨_, .alloc 84, _, _, _, _⟩ :: _) _ _); refine H.mk0 rfl rEx rfl ?_; (intro g w H; simp only [Act.put, q1_, q2_, q3_]))
    | ((with_reducible show wpList _ _ _ (⟨_, .alloc 45, _, _, _, _⟩ :: _) _ _); refine H.mk0 rfl rP rfl ?_; (intro g w H; simp only [Act.put, q1_, q2_, q3_]))
    | ((with_reducible show wpList _ _ _ (⟨_, .load 27 _, _, _, _, _⟩ :: _) _ _); refine H.ld rfl rB rfl rfl v2_ v3_ (by rfl) ?_; simp only [Act.put, q1_, q2_, q3_])
    | ((with_reducible show wpList _ _ _ (⟨_, .load 45 _, _, _, _, _⟩ :: _) _ _); refine H.ld rfl rP rfl rfl v2_ (by first | with_reducible exact ext_parts _ _ _ _ | with_reducible exact ext_t0 _ _ _ _ _ _ _ _ _ _ _ _ | with_reducible exact ext_t1 _ _ _ _ _ _ _ _ _ _ _ _ | with_reducible exact ext_t2 _ _ _ _ _ _ _ _ _ _ _ _) (by rfl) ?_; simp only [Act.put, q1_, q2_, q3_])
    | ((with_reducible show wpList _ _ _ (⟨_, .load 43 _, _, _, _, _⟩ :: _) _ _); refine H.ld1 rfl oC rfl rfl v2_ (by first | with_reducible exact get_parts0 _ _ _ _ | with_reducible exact get_10 _) ?_; simp only [Act.put, q1_, q2_, q3_])
    | ((with_reducible show wpList _ _ _ (⟨_, .load 33 _, _, _, _, _⟩ :: _) _ _); refine H.ld rfl rW rfl rfl v2_ v4_ (by rfl) ?_; simp only [Act.put, q1_, q2_, q3_])
    | ((with_reducible show wpList _ _ _ (⟨_, .load 3 _, _, _, _, _⟩ :: _) _ _); refine H.ld1 rfl oI rfl rfl v2_ v16_ ?_; simp only [Act.put, q1_, q2_, q3_])
    | ((with_reducible show wpList _ _ _ (⟨_, .load 84 _, _, _, _, _⟩ :: _) _ _); refine H.ld rfl rEx rfl rfl v2_ (by first | with_reducible exact ext_ex _ _ _ _) (by rfl) ?_; simp only [Act.put, q1_, q2_, q3_])
    | ((with_reducible show wpList _ _ _ (⟨_, .store 84 _ _, _, _, _, _⟩ :: _) _ _); refine H.st rfl rEx rfl rfl (cells_agg _) v6_ (set_ex _ _ _ _ _ _ _ _ ) (by rfl) (by exact one_of rfl) v15_ ?_; (intro w H; simp only [Act.put]))
    | ((with_reducible show wpList _ _ _ (⟨_, .store 45 _ _, _, _, _, _⟩ :: _) _ _); refine H.st rfl rP rfl rfl (cells_agg _) v6_ (set_pwR _ _ _ _ _ _ _ _ ) (by rfl) (by exact one_of rfl) v15_ ?_; (intro w H; simp only [Act.put]))
    | ((with_reducible show Code.wp _ (.region 8 _ true) _ _ _); apply H.join1; refine H.heldSub rfl (List.Sublist.refl _) ?_; intro H; refine H.takeRun v13_ 0 rfl (by kernel_rfl) (by kernel_rfl) (by kernel_rfl) (fun _ _ _ _ h => by cases h.1) rfl v14_ ?_; (try simp only [Act.put, q1_, q2_, q3_]); (try simp only [q4_, q5_, q6_]); (first | refine H.tk v13_ 1 rfl (by kernel_rfl) (by kernel_rfl) (by kernel_rfl) (fun _ _ _ _ h => by cases h.1) rfl rB rfl rfl v2_ v3_ (by rfl) ?_ | refine H.tk v13_ 1 rfl (by kernel_rfl) (by kernel_rfl) (by kernel_rfl) (fun _ _ _ _ h => by cases h.1) rfl rW rfl rfl v2_ v4_ (by rfl) ?_ | refine H.tk1 v13_ 1 rfl (by kernel_rfl) (by kernel_rfl) (by kernel_rfl) (fun _ _ _ _ h => by cases h.1) rfl oI rfl rfl v2_ v16_ ?_); (try simp only [Act.put, q1_, q2_, q3_]); (try simp only [q4_, q5_, q6_]); refine H.takeRun v13_ 3 rfl (by kernel_rfl) (by kernel_rfl) (by kernel_rfl) (fun _ _ _ _ h => by cases h.1) rfl v14_ ?_; (try simp only [Act.put, q1_, q2_, q3_]); (try simp only [q4_, q5_, q6_]); (first | refine H.tk v13_ 4 rfl (by kernel_rfl) (by kernel_rfl) (by kernel_rfl) (fun _ _ _ _ h => by cases h.1) rfl rB rfl rfl v2_ v3_ (by rfl) ?_ | refine H.tk v13_ 4 rfl (by kernel_rfl) (by kernel_rfl) (by kernel_rfl) (fun _ _ _ _ h => by cases h.1) rfl rW rfl rfl v2_ v4_ (by rfl) ?_ | refine H.tk1 v13_ 4 rfl (by kernel_rfl) (by kernel_rfl) (by kernel_rfl) (fun _ _ _ _ h => by cases h.1) rfl oI rfl rfl v2_ v16_ ?_); (try simp only [Act.put, q1_, q2_, q3_]); (try simp only [q4_, q5_, q6_]); refine H.takeRun v13_ 6 rfl (by kernel_rfl) (by kernel_rfl) (by kernel_rfl) (fun _ _ _ _ h => by cases h.1) rfl v14_ ?_; (try simp only [Act.put, q1_, q2_, q3_]); (try simp only [q4_, q5_, q6_]); (first | refine H.tk v13_ 7 rfl (by kernel_rfl) (by kernel_rfl) (by kernel_rfl) (fun _ _ _ _ h => by cases h.1) rfl rB rfl rfl v2_ v3_ (by rfl) ?_ | refine H.tk v13_ 7 rfl (by kernel_rfl) (by kernel_rfl) (by kernel_rfl) (fun _ _ _ _ h => by cases h.1) rfl rW rfl rfl v2_ v4_ (by rfl) ?_ | refine H.tk1 v13_ 7 rfl (by kernel_rfl) (by kernel_rfl) (by kernel_rfl) (fun _ _ _ _ h => by cases h.1) rfl oI rfl rfl v2_ v16_ ?_); (try simp only [Act.put, q1_, q2_, q3_]); (try simp only [q4_, q5_, q6_]); refine held_two (i := 2) (k := 12) (by kernel_rfl) rfl rfl rfl rfl ?_ ?_; (unfold Oper.wp; go_simp; (first | (go_at_call 69; ((with_reducible refine (cU _).mono ?_); rintro e w ⟨rfl, hb⟩; replace H := H.call hb; clear hb)) | (go_at_call 27; ((with_reducible refine (cS _).mono ?_); rintro e w ⟨rfl, hb⟩; replace H := H.call hb; clear hb)) | (go_at_call 71; ((with_reducible refine (cO _).mono ?_); rintro e w ⟨rfl, hb⟩; replace H := H.call hb; clear hb)) | (go_at_call 70; ((with_reducible refine (cM _).mono ?_); rintro e w ⟨rfl, hb⟩; replace H := H.call hb; clear hb))); refine H.next v13_ ?_; (try simp only [Act.put, q1_, q2_, q3_]); (try simp only [q4_, q5_, q6_]); refine held_two (i := 5) (k := 12) (by kernel_rfl) rfl rfl rfl rfl ?_ ?_; (unfold Oper.wp; go_simp; (first | (go_at_call 69; ((with_reducible refine (cU _).mono ?_); rintro e w ⟨rfl, hb⟩; replace H := H.call hb; clear hb)) | (go_at_call 27; ((with_reducible refine (cS _).mono ?_); rintro e w ⟨rfl, hb⟩; replace H := H.call hb; clear hb)) | (go_at_call 71; ((with_reducible refine (cO _).mono ?_); rintro e w ⟨rfl, hb⟩; replace H := H.call hb; clear hb)) | (go_at_call 70; ((with_reducible refine (cM _).mono ?_); rintro e w ⟨rfl, hb⟩; replace H := H.call hb; clear hb))); refine H.next v13_ ?_; (try simp only [Act.put, q1_, q2_, q3_]); (try simp only [q4_, q5_, q6_]); refine held_two (i := 8) (k := 12) (by kernel_rfl) rfl rfl rfl rfl ?_ ?_; (unfold Oper.wp; go_simp; (first | (go_at_call 69; ((with_reducible refine (cU _).mono ?_); rintro e w ⟨rfl, hb⟩; replace H := H.call hb; clear hb)) | (go_at_call 27; ((with_reducible refine (cS _).mono ?_); rintro e w ⟨rfl, hb⟩; replace H := H.call hb; clear hb)) | (go_at_call 71; ((with_reducible refine (cO _).mono ?_); rintro e w ⟨rfl, hb⟩; replace H := H.call hb; clear hb)) | (go_at_call 70; ((with_reducible refine (cM _).mono ?_); rintro e w ⟨rfl, hb⟩; replace H := H.call hb; clear hb))); refine H.next v13_ ?_; (try simp only [Act.put, q1_, q2_, q3_]); (try simp only [q4_, q5_, q6_]); refine H.takeRun v13_ 9 rfl (by kernel_rfl) (by kernel_rfl) (by kernel_rfl) (fun _ _ _ _ h => by cases h.1) rfl v14_ ?_; (try simp only [Act.put, q1_, q2_, q3_]); (try simp only [q4_, q5_, q6_]); refine H.takeRun v13_ 10 rfl (by kernel_rfl) (by kernel_rfl) (by kernel_rfl) (fun _ _ _ _ h => by cases h.1) rfl v14_ ?_; (try simp only [Act.put, q1_, q2_, q3_]); (try simp only [q4_, q5_, q6_]); refine H.takeRun v13_ 11 rfl (by kernel_rfl) (by kernel_rfl) (by kernel_rfl) (fun _ _ _ _ h => by cases h.1) rfl v14_ ?_; (try simp only [Act.put, q1_, q2_, q3_]); (try simp only [q4_, q5_, q6_]); refine held_one (i := 12) (by kernel_rfl) rfl rfl ?_; refine H.oal rEx rfl ?_; intro g12 w H; refine H.next v13_ ?_; (try simp only [Act.put, q1_, q2_, q3_]); (try simp only [q4_, q5_, q6_]); refine held_one (i := 13) (by kernel_rfl) rfl rfl ?_; refine H.ost rEx rfl rfl (cells_agg _) v6_ (set_ex _ _ _ _ _ _ _ _ ) (by rfl) (by exact one_of rfl) v15_ ?_; intro w H; refine H.next v13_ ?_; (try simp only [Act.put]); refine H.takeRun v13_ 14 rfl (by kernel_rfl) (by kernel_rfl) (by kernel_rfl) (fun _ _ _ _ h => by cases h.1) rfl v14_ ?_; (try simp only [Act.put, q1_, q2_, q3_]); (try simp only [q4_, q5_, q6_]); refine wpAnyH_done (by kernel_rfl) ?_ _; (first | exact ⟨rfl, g12, rfl, H⟩ | exact ⟨rfl, g12, rfl, (H.perm (List.Perm.swap _ _ _))⟩ | exact ⟨rfl, g12, rfl, (H.perm (List.Perm.cons _ (List.Perm.swap _ _ _)))⟩ | exact ⟨rfl, g12, rfl, (H.perm ((List.Perm.swap _ _ _).trans (List.Perm.cons _ (List.Perm.swap _ _ _))))⟩ | exact ⟨rfl, g12, rfl, (H.perm ((List.Perm.cons _ (List.Perm.swap _ _ _)).trans (List.Perm.swap _ _ _)))⟩ | exact ⟨rfl, g12, rfl, (H.perm (((List.Perm.swap _ _ _).trans (List.Perm.cons _ (List.Perm.swap _ _ _))).trans (List.Perm.swap _ _ _)))⟩)); (refine H.oal rEx rfl ?_; intro g12 w H; refine H.next v13_ ?_; (try simp only [Act.put, q1_, q2_, q3_]); (try simp only [q4_, q5_, q6_]); refine held_one (i := 8) (by kernel_rfl) rfl rfl ?_; unfold Oper.wp; go_simp; (first | (go_at_call 69; ((with_reducible refine (cU _).mono ?_); rintro e w ⟨rfl, hb⟩; replace H := H.call hb; clear hb)) | (go_at_call 27; ((with_reducible refine (cS _).mono ?_); rintro e w ⟨rfl, hb⟩; replace H := H.call hb; clear hb)) | (go_at_call 71; ((with_reducible refine (cO _).mono ?_); rintro e w ⟨rfl, hb⟩; replace H := H.call hb; clear hb)) | (go_at_call 70; ((with_reducible refine (cM _).mono ?_); rintro e w ⟨rfl, hb⟩; replace H := H.call hb; clear hb))); refine H.next v13_ ?_; (try simp only [Act.put, q1_, q2_, q3_]); (try simp only [q4_, q5_, q6_]); refine H.takeRun v13_ 9 rfl (by kernel_rfl) (by kernel_rfl) (by kernel_rfl) (fun _ _ _ _ h => by cases h.1) rfl v14_ ?_; (try simp only [Act.put, q1_, q2_, q3_]); (try simp only [q4_, q5_, q6_]); refine H.takeRun v13_ 10 rfl (by kernel_rfl) (by kernel_rfl) (by kernel_rfl) (fun _ _ _ _ h => by cases h.1) rfl v14_ ?_; (try simp only [Act.put, q1_, q2_, q3_]); (try simp only [q4_, q5_, q6_]); refine H.takeRun v13_ 11 rfl (by kernel_rfl) (by kernel_rfl) (by kernel_rfl) (fun _ _ _ _ h => by cases h.1) rfl v14_ ?_; (try simp only [Act.put, q1_, q2_, q3_]); (try simp only [q4_, q5_, q6_]); refine held_one (i := 13) (by kernel_rfl) rfl rfl ?_; refine H.ost rEx rfl rfl (cells_agg _) v6_ (set_ex _ _ _ _ _ _ _ _ ) (by rfl) (by exact one_of rfl) v15_ ?_; intro w H; refine H.next v13_ ?_; (try simp only [Act.put]); refine H.takeRun v13_ 14 rfl (by kernel_rfl) (by kernel_rfl) (by kernel_rfl) (fun _ _ _ _ h => by cases h.1) rfl v14_ ?_; (try simp only [Act.put, q1_, q2_, q3_]); (try simp only [q4_, q5_, q6_]); refine wpAnyH_done (by kernel_rfl) ?_ _; (first | exact ⟨rfl, g12, rfl, H⟩ | exact ⟨rfl, g12, rfl, (H.perm (List.Perm.swap _ _ _))⟩ | exact ⟨rfl, g12, rfl, (H.perm (List.Perm.cons _ (List.Perm.swap _ _ _)))⟩ | exact ⟨rfl, g12, rfl, (H.perm ((List.Perm.swap _ _ _).trans (List.Perm.cons _ (List.Perm.swap _ _ _))))⟩ | exact ⟨rfl, g12, rfl, (H.perm ((List.Perm.cons _ (List.Perm.swap _ _ _)).trans (List.Perm.swap _ _ _)))⟩ | exact ⟨rfl, g12, rfl, (H.perm (((List.Perm.swap _ _ _).trans (List.Perm.cons _ (List.Perm.swap _ _ _))).trans (List.Perm.swap _ _ _)))⟩))); (refine H.oal rEx rfl ?_; intro g12 w H; refine H.next v13_ ?_; (try simp only [Act.put, q1_, q2_, q3_]); (try simp only [q4_, q5_, q6_]); refine held_one (i := 5) (by kernel_rfl) rfl rfl ?_; unfold Oper.wp; go_simp; (first | (go_at_call 69; ((with_reducible refine (cU _).mono ?_); rintro e w ⟨rfl, hb⟩; replace H := H.call hb; clear hb)) | (go_at_call 27; ((with_reducible refine (cS _).mono ?_); rintro e w ⟨rfl, hb⟩; replace H := H.call hb; clear hb)) | (go_at_call 71; ((with_reducible refine (cO _).mono ?_); rintro e w ⟨rfl, hb⟩; replace H := H.call hb; clear hb)) | (go_at_call 70; ((with_reducible refine (cM _).mono ?_); rintro e w ⟨rfl, hb⟩; replace H := H.call hb; clear hb))); refine H.next v13_ ?_; (try simp only [Act.put, q1_, q2_, q3_]); (try simp only [q4_, q5_, q6_]); refine held_one (i := 8) (by kernel_rfl) rfl rfl ?_; unfold Oper.wp; go_simp; (first | (go_at_call 69; ((with_reducible refine (cU _).mono ?_); rintro e w ⟨rfl, hb⟩; replace H := H.call hb; clear hb)) | (go_at_call 27; ((with_reducible refine (cS _).mono ?_); rintro e w ⟨rfl, hb⟩; replace H := H.call hb; clear hb)) | (go_at_call 71; ((with_reducible refine (cO _).mono ?_); rintro e w ⟨rfl, hb⟩; replace H := H.call hb; clear hb)) | (go_at_call 70; ((with_reducible refine (cM _).mono ?_); rintro e w ⟨rfl, hb⟩; replace H := H.call hb; clear hb))); refine H.next v13_ ?_; (try simp only [Act.put, q1_, q2_, q3_]); (try simp only [q4_, q5_, q6_]); refine H.takeRun v13_ 9 rfl (by kernel_rfl) (by kernel_rfl) (by kernel_rfl) (fun _ _ _ _ h => by cases h.1) rfl v14_ ?_; (try simp only [Act.put, q1_, q2_, q3_]); (try simp only [q4_, q5_, q6_]); refine H.takeRun v13_ 10 rfl (by kernel_rfl) (by kernel_rfl) (by kernel_rfl) (fun _ _ _ _ h => by cases h.1) rfl v14_ ?_; (try simp only [Act.put, q1_, q2_, q3_]); (try simp only [q4_, q5_, q6_]); refine H.takeRun v13_ 11 rfl (by kernel_rfl) (by kernel_rfl) (by kernel_rfl) (fun _ _ _ _ h => by cases h.1) rfl v14_ ?_; (try simp only [Act.put, q1_, q2_, q3_]); (try simp only [q4_, q5_, q6_]); refine held_one (i := 13) (by kernel_rfl) rfl rfl ?_; refine H.ost rEx rfl rfl (cells_agg _) v6_ (set_ex _ _ _ _ _ _ _ _ ) (by rfl) (by exact one_of rfl) v15_ ?_; intro w H; refine H.next v13_ ?_; (try simp only [Act.put]); refine H.takeRun v13_ 14 rfl (by kernel_rfl) (by kernel_rfl) (by kernel_rfl) (fun _ _ _ _ h => by cases h.1) rfl v14_ ?_; (try simp only [Act.put, q1_, q2_, q3_]); (try simp only [q4_, q5_, q6_]); refine wpAnyH_done (by kernel_rfl) ?_ _; (first | exact ⟨rfl, g12, rfl, H⟩ | exact ⟨rfl, g12, rfl, (H.perm (List.Perm.swap _ _ _))⟩ | exact ⟨rfl, g12, rfl, (H.perm (List.Perm.cons _ (List.Perm.swap _ _ _)))⟩ | exact ⟨rfl, g12, rfl, (H.perm ((List.Perm.swap _ _ _).trans (List.Perm.cons _ (List.Perm.swap _ _ _))))⟩ | exact ⟨rfl, g12, rfl, (H.perm ((List.Perm.cons _ (List.Perm.swap _ _ _)).trans (List.Perm.swap _ _ _)))⟩ | exact ⟨rfl, g12, rfl, (H.perm (((List.Perm.swap _ _ _).trans (List.Perm.cons _ (List.Perm.swap _ _ _))).trans (List.Perm.swap _ _ _)))⟩))); (refine H.oal rEx rfl ?_; intro g12 w H; refine H.next v13_ ?_; (try simp only [Act.put, q1_, q2_, q3_]); (try simp only [q4_, q5_, q6_]); refine held_one (i := 2) (by kernel_rfl) rfl rfl ?_; unfold Oper.wp; go_simp; (first | (go_at_call 69; ((with_reducible refine (cU _).mono ?_); rintro e w ⟨rfl, hb⟩; replace H := H.call hb; clear hb)) | (go_at_call 27; ((with_reducible refine (cS _).mono ?_); rintro e w ⟨rfl, hb⟩; replace H := H.call hb; clear hb)) | (go_at_call 71; ((with_reducible refine (cO _).mono ?_); rintro e w ⟨rfl, hb⟩; replace H := H.call hb; clear hb)) | (go_at_call 70; ((with_reducible refine (cM _).mono ?_); rintro e w ⟨rfl, hb⟩; replace H := H.call hb; clear hb))); refine H.next v13_ ?_; (try simp only [Act.put, q1_, q2_, q3_]); (try simp only [q4_, q5_, q6_]); refine held_one (i := 5) (by kernel_rfl) rfl rfl ?_; unfold Oper.wp; go_simp; (first | (go_at_call 69; ((with_reducible refine (cU _).mono ?_); rintro e w ⟨rfl, hb⟩; replace H := H.call hb; clear hb)) | (go_at_call 27; ((with_reducible refine (cS _).mono ?_); rintro e w ⟨rfl, hb⟩; replace H := H.call hb; clear hb)) | (go_at_call 71; ((with_reducible refine (cO _).mono ?_); rintro e w ⟨rfl, hb⟩; replace H := H.call hb; clear hb)) | (go_at_call 70; ((with_reducible refine (cM _).mono ?_); rintro e w ⟨rfl, hb⟩; replace H := H.call hb; clear hb))); refine H.next v13_ ?_; (try simp only [Act.put, q1_, q2_, q3_]); (try simp only [q4_, q5_, q6_]); refine held_one (i := 8) (by kernel_rfl) rfl rfl ?_; unfold Oper.wp; go_simp; (first | (go_at_call 69; ((with_reducible refine (cU _).mono ?_); rintro e w ⟨rfl, hb⟩; replace H := H.call hb; clear hb)) | (go_at_call 27; ((with_reducible refine (cS _).mono ?_); rintro e w ⟨rfl, hb⟩; replace H := H.call hb; clear hb)) | (go_at_call 71; ((with_reducible refine (cO _).mono ?_); rintro e w ⟨rfl, hb⟩; replace H := H.call hb; clear hb)) | (go_at_call 70; ((with_reducible refine (cM _).mono ?_); rintro e w ⟨rfl, hb⟩; replace H := H.call hb; clear hb))); refine H.next v13_ ?_; (try simp only [Act.put, q1_, q2_, q3_]); (try simp only [q4_, q5_, q6_]); refine H.takeRun v13_ 9 rfl (by kernel_rfl) (by kernel_rfl) (by kernel_rfl) (fun _ _ _ _ h => by cases h.1) rfl v14_ ?_; (try simp only [Act.put, q1_, q2_, q3_]); (try simp only [q4_, q5_, q6_]); refine H.takeRun v13_ 10 rfl (by kernel_rfl) (by kernel_rfl) (by kernel_rfl) (fun _ _ _ _ h => by cases h.1) rfl v14_ ?_; (try simp only [Act.put, q1_, q2_, q3_]); (try simp only [q4_, q5_, q6_]); refine H.takeRun v13_ 11 rfl (by kernel_rfl) (by kernel_rfl) (by kernel_rfl) (fun _ _ _ _ h => by cases h.1) rfl v14_ ?_; (try simp only [Act.put, q1_, q2_, q3_]); (try simp only [q4_, q5_, q6_]); refine held_one (i := 13) (by kernel_rfl) rfl rfl ?_; refine H.ost rEx rfl rfl (cells_agg _) v6_ (set_ex _ _ _ _ _ _ _ _ ) (by rfl) (by exact one_of rfl) v15_ ?_; intro w H; refine H.next v13_ ?_; (try simp only [Act.put]); refine H.takeRun v13_ 14 rfl (by kernel_rfl) (by kernel_rfl) (by kernel_rfl) (fun _ _ _ _ h => by cases h.1) rfl v14_ ?_; (try simp only [Act.put, q1_, q2_, q3_]); (try simp only [q4_, q5_, q6_]); refine wpAnyH_done (by kernel_rfl) ?_ _; (first | exact ⟨rfl, g12, rfl, H⟩ | exact ⟨rfl, g12, rfl, (H.perm (List.Perm.swap _ _ _))⟩ | exact ⟨rfl, g12, rfl, (H.perm (List.Perm.cons _ (List.Perm.swap _ _ _)))⟩ | exact ⟨rfl, g12, rfl, (H.perm ((List.Perm.swap _ _ _).trans (List.Perm.cons _ (List.Perm.swap _ _ _))))⟩ | exact ⟨rfl, g12, rfl, (H.perm ((List.Perm.cons _ (List.Perm.swap _ _ _)).trans (List.Perm.swap _ _ _)))⟩ | exact ⟨rfl, g12, rfl, (H.perm (((List.Perm.swap _ _ _).trans (List.Perm.cons _ (List.Perm.swap _ _ _))).trans (List.Perm.swap _ _ _)))⟩)); clear H; intro ga w H)
    | (go_at_call 69; ((with_reducible refine (cU _).mono ?_); rintro e w ⟨rfl, hb⟩; replace H := H.call hb; clear hb))
    | (go_at_call 27; ((with_reducible refine (cS _).mono ?_); rintro e w ⟨rfl, hb⟩; replace H := H.call hb; clear hb))
    | (go_at_call 71; ((with_reducible refine (cO _).mono ?_); rintro e w ⟨rfl, hb⟩; replace H := H.call hb; clear hb))
    | (go_at_call 70; ((with_reducible refine (cM _).mono ?_); rintro e w ⟨rfl, hb⟩; replace H := H.call hb; clear hb))
    )
  all_goals
    refine bodyPost_ret (results_ct rfl rfl (H.res rEx v2_ (ext_ex _ _ _ _) (by rfl))) rfl ⟨?_, H.below⟩
    exact rfl
theorem sig_nb (f b : Nat) (h : fitsB f b = true) : nb (sigN f b) ≤ 15 := by
  refine (nb_le _ _).2 (Nat.lt_of_lt_of_le (sigN_113 f b h) ?_)
  rw [pow256]; exact Nat.pow_le_pow_right (by decide) (by decide)
theorem r8Value_any (f b : Nat) (w : World) (h : fitsB f b = true) (h8 : nanB (clsN f b) = false) (hi : infB (clsN f b) = false) :
    Calls Tryd.prog 46 #[.int .u8 f, BV b] w fun e w' => e = .returned (.tuple #[exV (negX' (negN f b) (sigN f b)) (numX (sigN f b) 1) (denX (sigN f b) 1) (expX (sigN f b) 1 (xpN f b)), .int .i64 0]) ∧ Below w.heap.size w w' := by
  have hf := ((fits_iff f b).1 h).1
  have hb := below_fits f b h
  obtain ⟨x1, x2⟩ := xpN_bound f b h
  have hs := sig_nb f b h
  have c8 : ¬ 8 ≤ clsN f b := by unfold nanB at h8; exact of_decide_eq_false h8
  have c07 : clsN f b ≠ 0 ∧ clsN f b ≠ 7 := by unfold infB at hi; simpa using hi
  have cS := fun w => r8Sign_any f b w hb
  rw [h, Bool.true_and] at cS
  have cM := fun w => r6Make_any (negN f b) (sigN f b) 1 (xpN f b) w (by omega) (by decide) (by decide) (by omega) (by omega)
  rw [strB_one] at cM
  exact r8Value_w f b (clsN f b) (sigN f b) (frN f b) (xpN f b) (negN f b) (strB (sigN f b)) _ _ _ _ _ w (fun w => r8Unpack_any f b w hf hb)
    (int_eq_false _ 8 (by omega)) (int_eq_false _ 9 (by omega)) (int_eq_false _ 0 c07.1) (int_eq_false _ 7 c07.2) cS (fun w => r5OfWide_any (sigN f b) w (lt_top_bits _ (Nat.lt_of_lt_of_le (sigN_113 f b h) (by decide)))) cM
open Go.RowKit Go.Proofs.YtecdpjhifmlahaaDoorW.PrintWords Go.Proofs.YtecdpjhifmlahaaDoor.PTointEnds
theorem limbN_up8 (V q r : Nat) (hV : V < 2 ^ (64 * q + r)) (hr : r ≤ 64) : limbN V q < 2 ^ r := by
  unfold limbN
  refine Nat.lt_of_le_of_lt (Nat.mod_le _ _) ?_
  rw [Nat.div_lt_iff_lt_mul (pw_pos q), ← Nat.pow_add, Nat.add_comm]; exact hV
/-- A byte put in above what is there. -/
theorem set_byte (V b k q r : Nat) (X : Int) (hX : X = ((b * 2 ^ (8 * r) : Nat) : Int)) (hk : k = 8 * q + r) (hr : r < 8) (hq : q < 6) (hb : b < 256) (hV : V < 256 ^ k) :
    setRow (limbs V) q (#[.int .u64 (Go.bits .or .u64 (limb V q) X)] : Array Value).toList = limbs (V + b * 256 ^ k) := by
  subst hX
  have hV' : V < 2 ^ (64 * q + 8 * r) := by rw [pow256, hk] at hV; rw [show 64 * q + 8 * r = 8 * (8 * q + r) by omega]; exact hV
  have h1 := limbN_up8 V q (8 * r) hV' (by omega)
  have hp : 2 ^ (8 * r) * 256 ≤ 18446744073709551616 := by rw [show (256 : Nat) = 2 ^ 8 from rfl, ← Nat.pow_add, B64]; exact Nat.pow_le_pow_right (by decide) (by omega)
  have h2 : b * 2 ^ (8 * r) + 2 ^ (8 * r) ≤ 256 * 2 ^ (8 * r) := by
    have := Nat.mul_le_mul_right (2 ^ (8 * r)) (show b + 1 ≤ 256 by omega)
    rw [Nat.add_mul, Nat.one_mul] at this; exact this
  have e1 : Go.bits .or .u64 (limb V q) ((b * 2 ^ (8 * r) : Nat) : Int) = ((limbN V q + b * 2 ^ (8 * r) : Nat) : Int) := by
    unfold limb
    rw [u64_or_nat _ _ (limbN_lt V q) (by omega)]
    congr 1
    have := Nat.two_pow_add_eq_or_of_lt h1 b
    rw [Nat.or_comm, Nat.mul_comm b, ← this, Nat.add_comm]
  rw [e1]
  show (limbs V).setIfInBounds q _ = _
  have hlow : V < 2 ^ (64 * (q + 1)) := Nat.lt_of_lt_of_le hV' (Nat.pow_le_pow_right (by decide) (by omega))
  have hVs : V = V % 2 ^ (64 * q) + limbN V q * 2 ^ (64 * q) := by rw [← mod_low, Nat.mod_eq_of_lt hlow]
  have h3 := limbs_put (V % 2 ^ (64 * q)) (limbN V q + b * 2 ^ (8 * r)) q hq (Nat.mod_lt _ (pw_pos q)) (by omega)
  have e2 : V % 2 ^ (64 * q) + (limbN V q + b * 2 ^ (8 * r)) * 2 ^ (64 * q) = V + b * 256 ^ k := by
    rw [Nat.add_mul, ← Nat.add_assoc, ← hVs, pow256, hk, Nat.mul_assoc, ← Nat.pow_add, show 8 * r + 64 * q = 8 * (8 * q + r) by omega]
  rw [← e2, ← h3]
  have e3 : (limbs V).setIfInBounds q (.int .u64 ((limbN V q + b * 2 ^ (8 * r) : Nat) : Int)) = (limbs (V % 2 ^ (64 * q))).setIfInBounds q (.int .u64 ((limbN V q + b * 2 ^ (8 * r) : Nat) : Int)) := by
    apply Array.ext_getElem?
    intro j
    rw [Array.getElem?_setIfInBounds, Array.getElem?_setIfInBounds, limbs_size, limbs_size]
    by_cases hj : q = j
    · rw [if_pos hj, if_pos hj]
    · rw [if_neg hj, if_neg hj]
      by_cases h6 : j < 6
      · rw [limbs_get _ j h6, limbs_get _ j h6]
        unfold limb
        rcases Nat.lt_or_ge j q with h7 | h7
        · rw [limbN_mod V j q h7]
        · have h8 : limbN V j = 0 := by
            unfold limbN; rw [Nat.div_eq_of_lt (Nat.lt_of_lt_of_le hlow (Nat.pow_le_pow_right (by decide) (by omega)))]
          have h9 : limbN (V % 2 ^ (64 * q)) j = 0 := by
            unfold limbN; rw [Nat.div_eq_of_lt (Nat.lt_of_lt_of_le (Nat.mod_lt _ (pw_pos q)) (Nat.pow_le_pow_right (by decide) (by omega)))]
          rw [h8, h9]
      · rw [Array.getElem?_eq_none (by rw [limbs_size]; omega), Array.getElem?_eq_none (by rw [limbs_size]; omega)]
  exact e3
set_option maxHeartbeats 3200000 in
theorem r5ToWide_any (n : Nat) (w0 : World) (hn : nb n ≤ 48) :
    Calls Tryd.prog 26 #[.string (strB n)] w0 fun e w' => e = .returned (.tuple #[W n, .bool true]) ∧ Below w0.heap.size w0 w' := by
  have H := Own.start w0
  have cM := fun w => r5May_any n w (by omega)
  have hsz := size_strB n
  have HN := Lib.hid hn
  have HF := Lib.hid (nb_lt n)
  have hszi : (((strB n).size : Nat) : Int) = (nb n : Nat) := by rw [hsz]
  obtain ⟨m, hm⟩ : ∃ m, nb n = m := ⟨_, rfl⟩
  rw [hm] at hsz hszi hn HF
  have hmi : (m : Int) ≤ 48 := by omega
  have HM := Lib.hid hm
  clear hm hn
  go_enter Tryd.func26, Tryd.ntmps26
  go_wp2_with (first
    | ((with_reducible show wpList _ _ _ (⟨some 2, .alloc 33, _, _, _, _⟩ :: _) _ _); refine H.mk0 rfl rW rfl ?_; (intro gr w H; simp only [Act.put, q1_, q2_, q3_]))
    | ((with_reducible show wpList _ _ _ (⟨some 4, .alloc 33, _, _, _, _⟩ :: _) _ _); refine H.mk0 rfl rW rfl ?_; (intro gs w H; simp only [Act.put, q1_, q2_, q3_]))
    | ((with_reducible show wpList _ _ _ (⟨_, .box _ _, _, _, _, _⟩ :: _) _ _); refine H.box rfl rfl (cells_agg _) ?_; (intro g w H; simp only [Act.put, q1_, q2_, q3_]))
    | ((with_reducible show wpList _ _ _ (⟨_, .alloc 33, _, _, _, _⟩ :: _) _ _); refine H.mk0 rfl rW rfl ?_; (intro g w H; simp only [Act.put, q1_, q2_, q3_]))
    | ((with_reducible show wpList _ _ _ (⟨_, .load 33 _, _, _, _, _⟩ :: _) _ _); refine H.ld rfl rW rfl rfl v2_ v4_ (by rfl) ?_; simp only [Act.put, q1_, q2_, q3_])
    | ((with_reducible show wpList _ _ _ (⟨_, .load 25 _, _, _, _, _⟩ :: _) _ _); refine H.ld1 rfl oU rfl rfl v2_ v5_ ?_; simp only [Act.put, q1_, q2_, q3_])
    | ((with_reducible show wpList _ _ _ (⟨_, .store 33 _ _, _, _, _, _⟩ :: _) _ _); refine H.st rfl rW rfl rfl (cells_agg _) v6_ v9_ (by rfl) (by exact one_of rfl) v15_ ?_; (intro w H; simp only [Act.put]))
    | (go_at_call 51; ((with_reducible refine (cM _).mono ?_); rintro e w ⟨rfl, hb⟩; replace H := H.call hb; clear hb))
    | (go_at_call 53; ((with_reducible refine (cA _).mono ?_); rintro e w ⟨rfl, hb⟩; replace H := H.call hb; clear hb))
    )
  go_loopw [5] (fun iv wr => ∃ (k : Nat), k ≤ m ∧ iv = .int .i64 k ∧ Own w0 wr [(gs, 33, limbs (n % 256 ^ k)), (gr, 33, limbs 0)]) (fun i _ => m - (intOf i).toNat)
  case atStart => exact ⟨0, by omega, rfl, by rw [Nat.pow_zero, Nat.mod_one]; exact H⟩
  case round =>
    clear H
    obtain ⟨k, hk, rfl, H⟩ := hrel
    by_cases hlt : k < m
    · have hlti : (k : Int) < (m : Int) := by omega
      have hk48 : k < 48 := by omega
      obtain ⟨q, hq⟩ : ∃ q : Nat, k / 8 = q := ⟨_, rfl⟩
      obtain ⟨r, hr⟩ : ∃ r : Nat, k % 8 = r := ⟨_, rfl⟩
      have hq6 : q < 6 := by omega
      have hq6i : (q : Int) < 6 := by omega
      have hr8 : r < 8 := by omega
      have HK := Lib.hid (show k = 8 * q + r by omega)
      have t1 : IntKind.i64.wrap ((k : Int).tdiv 8) = (q : Int) := by rw [Int.tdiv_eq_ediv_of_nonneg (by omega), show (k : Int) / 8 = (q : Int) by omega]; exact IntWalk.i64_in _ (by omega)
      have t1' : (k : Int) / 8 = (q : Int) := by omega
      have t2 : (k : Int).tmod 8 = (r : Int) := by rw [Int.tmod_eq_emod_of_nonneg (by omega)]; omega
      have t2' : (k : Int) % 8 = (r : Int) := by omega
      have t3 : IntKind.u64.wrap (8 * (r : Int)) = 8 * (r : Int) := by rw [IntKind.wrap_u64]; omega
      have t3b : IntKind.i64.wrap (8 * (r : Int)) = 8 * (r : Int) := IntWalk.i64_in _ (by omega)
      have t4 : min (8 * (r : Int)).toNat 64 = 8 * r := by omega
      have tq : IntKind.i64.wrap (q : Int) = (q : Int) := IntWalk.i64_in _ (by omega)
      have tr : IntKind.i64.wrap (r : Int) = (r : Int) := IntWalk.i64_in _ (by omega)
      have hq0 : (0 : Int) ≤ (q : Int) := by omega
      have hbl := byt_lt n k
      have HB := Lib.hid (mod_byte n k)
      have HL := Lib.hid (Nat.mod_lt n (pos256 k))
      have cA := fun w => r5At_any n k w (by have := HN.out; omega) (by omega)
      obtain ⟨b, hb⟩ : ∃ b, byt n k = b := ⟨_, rfl⟩
      rw [hb] at cA hbl HB
      obtain ⟨V, hV⟩ : ∃ V, n % 256 ^ k = V := ⟨_, rfl⟩
      rw [hV] at H HB HL
      have hbi : IntKind.u64.wrap (b : Int) = (b : Int) := by rw [IntKind.wrap_u64]; omega
      have hp : b * 2 ^ (8 * r) < 18446744073709551616 := by
        have h1 : 2 ^ (8 * r) ≤ 2 ^ 56 := Nat.pow_le_pow_right (by decide) (by omega)
        have h2 : b * 2 ^ (8 * r) ≤ 255 * 2 ^ 56 := Nat.mul_le_mul (by omega) h1
        omega
      have HX := Lib.hid (show IntKind.u64.wrap ((b : Int) * 2 ^ (8 * r)) = ((b * 2 ^ (8 * r) : Nat) : Int) by
        rw [show (b : Int) * 2 ^ (8 * r) = ((b * 2 ^ (8 * r) : Nat) : Int) by simp]
        generalize b * 2 ^ (8 * r) = x at *
        rw [IntKind.wrap_u64]; omega)
      have G : (limbs V)[q]? = some (.int .u64 (limb V q)) := limbs_get V q hq6
      clear hq hr hb hV hp cM
      go_wp2_with (first
    | ((with_reducible show wpList _ _ _ (⟨some 2, .alloc 33, _, _, _, _⟩ :: _) _ _); refine H.mk0 rfl rW rfl ?_; (intro gr w H; simp only [Act.put, q1_, q2_, q3_]))
    | ((with_reducible show wpList _ _ _ (⟨some 4, .alloc 33, _, _, _, _⟩ :: _) _ _); refine H.mk0 rfl rW rfl ?_; (intro gs w H; simp only [Act.put, q1_, q2_, q3_]))
    | ((with_reducible show wpList _ _ _ (⟨_, .box _ _, _, _, _, _⟩ :: _) _ _); refine H.box rfl rfl (cells_agg _) ?_; (intro g w H; simp only [Act.put, q1_, q2_, q3_]))
    | ((with_reducible show wpList _ _ _ (⟨_, .alloc 33, _, _, _, _⟩ :: _) _ _); refine H.mk0 rfl rW rfl ?_; (intro g w H; simp only [Act.put, q1_, q2_, q3_]))
    | ((with_reducible show wpList _ _ _ (⟨_, .load 33 _, _, _, _, _⟩ :: _) _ _); refine H.ld rfl rW rfl rfl v2_ v4_ (by rfl) ?_; simp only [Act.put, q1_, q2_, q3_])
    | ((with_reducible show wpList _ _ _ (⟨_, .load 25 _, _, _, _, _⟩ :: _) _ _); refine H.ld1 rfl oU rfl rfl v2_ v8_ ?_; simp only [Act.put, q1_, q2_, q3_])
    | ((with_reducible show wpList _ _ _ (⟨_, .store 33 _ _, _, _, _, _⟩ :: _) _ _); refine H.st rfl rW rfl rfl (cells_agg _) v6_ v9_ (by rfl) (by exact one_of rfl) v15_ ?_; (intro w H; simp only [Act.put]))
    | ((with_reducible show Code.wp _ (.region 7 _ true) _ _ _); refine H.heldSub rfl (List.Sublist.cons _ (List.Sublist.refl _)) ?_; intro H; refine H.takeRun v13_ 0 rfl (by kernel_rfl) (by kernel_rfl) (by kernel_rfl) (fun _ _ _ _ h => h) rfl v14_ ?_; (try simp only [Act.put, q1_, q2_, q3_]); (try simp only [q4_, q5_, q6_]); refine H.takeRun v13_ 1 rfl (by kernel_rfl) (by kernel_rfl) (by kernel_rfl) (fun _ _ _ _ h => h) rfl v14_ ?_; (try simp only [Act.put, q1_, q2_, q3_]); (try simp only [q4_, q5_, q6_]); refine H.takeRun v13_ 2 rfl (by kernel_rfl) (by kernel_rfl) (by kernel_rfl) (fun _ _ _ _ h => h) rfl v14_ ?_; (try simp only [Act.put, q1_, q2_, q3_]); (try simp only [q4_, q5_, q6_]); refine H.takeRun v13_ 3 rfl (by kernel_rfl) (by kernel_rfl) (by kernel_rfl) (fun _ _ _ _ h => h) rfl v14_ ?_; (try simp only [Act.put, q1_, q2_, q3_]); (try simp only [q4_, q5_, q6_]); refine H.takeRun v13_ 4 rfl (by kernel_rfl) (by kernel_rfl) (by kernel_rfl) (fun _ _ _ _ h => h) rfl v14_ ?_; (try simp only [Act.put, q1_, q2_, q3_]); (try simp only [q4_, q5_, q6_]); refine H.takeRun v13_ 6 rfl (by kernel_rfl) (by kernel_rfl) (by kernel_rfl) (fun _ _ _ _ h => h) rfl v14_ ?_; (try simp only [Act.put, q1_, q2_, q3_]); (try simp only [q4_, q5_, q6_]); refine H.takeRun v13_ 7 rfl (by kernel_rfl) (by kernel_rfl) (by kernel_rfl) (fun _ _ _ _ h => h) rfl v14_ ?_; (try simp only [Act.put, q1_, q2_, q3_]); (try simp only [q4_, q5_, q6_]); refine H.takeRun v13_ 10 rfl (by kernel_rfl) (by kernel_rfl) (by kernel_rfl) (fun _ _ _ _ h => h) rfl v14_ ?_; (try simp only [Act.put, q1_, q2_, q3_]); (try simp only [q4_, q5_, q6_]); refine H.takeRun v13_ 11 rfl (by kernel_rfl) (by kernel_rfl) (by kernel_rfl) (fun _ _ _ _ h => h) rfl v14_ ?_; (try simp only [Act.put, q1_, q2_, q3_]); (try simp only [q4_, q5_, q6_]); refine H.takeRun v13_ 12 rfl (by kernel_rfl) (by kernel_rfl) (by kernel_rfl) (fun _ _ _ _ h => h) rfl v14_ ?_; (try simp only [Act.put, q1_, q2_, q3_]); (try simp only [q4_, q5_, q6_]); refine H.takeRun v13_ 13 rfl (by kernel_rfl) (by kernel_rfl) (by kernel_rfl) (fun _ _ _ _ h => h) rfl v14_ ?_; (try simp only [Act.put, q1_, q2_, q3_]); (try simp only [q4_, q5_, q6_]); refine held_two (i := 5) (k := 8) (by kernel_rfl) rfl rfl rfl rfl ?_ ?_; (refine H.old1 oU rfl rfl v2_ v8_ ?_; refine H.next v13_ ?_; (try simp only [Act.put, q1_, q2_, q3_]); (try simp only [q4_, q5_, q6_]); refine held_one (i := 8) (by kernel_rfl) rfl rfl ?_; unfold Oper.wp; go_simp; (first | (go_at_call 51; ((with_reducible refine (cM _).mono ?_); rintro e w ⟨rfl, hb⟩; replace H := H.call hb; clear hb)) | (go_at_call 53; ((with_reducible refine (cA _).mono ?_); rintro e w ⟨rfl, hb⟩; replace H := H.call hb; clear hb))); refine H.next v13_ ?_; (try simp only [Act.put, q1_, q2_, q3_]); (try simp only [q4_, q5_, q6_]); refine H.takeRun v13_ 9 rfl (by kernel_rfl) (by kernel_rfl) (by kernel_rfl) (fun _ _ _ _ h => h) rfl v14_ ?_; (try simp only [Act.put, q1_, q2_, q3_]); (try simp only [q4_, q5_, q6_]); refine H.takeRun v13_ 14 rfl (by kernel_rfl) (by kernel_rfl) (by kernel_rfl) (fun _ _ _ _ h => h) rfl v14_ ?_; (try simp only [Act.put, q1_, q2_, q3_]); (try simp only [q4_, q5_, q6_]); refine H.takeRun v13_ 15 rfl (by kernel_rfl) (by kernel_rfl) (by kernel_rfl) (fun _ _ _ _ h => h) rfl v14_ ?_; (try simp only [Act.put, q1_, q2_, q3_]); (try simp only [q4_, q5_, q6_]); refine H.takeRun v13_ 16 rfl (by kernel_rfl) (by kernel_rfl) (by kernel_rfl) (fun _ _ _ _ h => h) rfl v14_ ?_; (try simp only [Act.put, q1_, q2_, q3_]); (try simp only [q4_, q5_, q6_]); refine held_one (i := 17) (by kernel_rfl) rfl rfl ?_; refine H.ost1 oU rfl rfl (cells_int _ _) v6_ (set_byte _ _ _ _ _ _ HX.out HK.out hr8 hq6 hbl HL.out) (by rfl) (by exact one_of rfl) v15_ ?_; intro w H; refine H.next v13_ ?_; (try simp only [Act.put]); refine wpAnyH_done (by kernel_rfl) ?_ _); rotate_left; (unfold Oper.wp; go_simp; (first | (go_at_call 51; ((with_reducible refine (cM _).mono ?_); rintro e w ⟨rfl, hb⟩; replace H := H.call hb; clear hb)) | (go_at_call 53; ((with_reducible refine (cA _).mono ?_); rintro e w ⟨rfl, hb⟩; replace H := H.call hb; clear hb))); refine H.next v13_ ?_; (try simp only [Act.put, q1_, q2_, q3_]); (try simp only [q4_, q5_, q6_]); refine H.takeRun v13_ 9 rfl (by kernel_rfl) (by kernel_rfl) (by kernel_rfl) (fun _ _ _ _ h => h) rfl v14_ ?_; (try simp only [Act.put, q1_, q2_, q3_]); (try simp only [q4_, q5_, q6_]); refine H.takeRun v13_ 14 rfl (by kernel_rfl) (by kernel_rfl) (by kernel_rfl) (fun _ _ _ _ h => h) rfl v14_ ?_; (try simp only [Act.put, q1_, q2_, q3_]); (try simp only [q4_, q5_, q6_]); refine held_one (i := 5) (by kernel_rfl) rfl rfl ?_; refine H.old1 oU rfl rfl v2_ v8_ ?_; refine H.next v13_ ?_; (try simp only [Act.put, q1_, q2_, q3_]); (try simp only [q4_, q5_, q6_]); refine H.takeRun v13_ 15 rfl (by kernel_rfl) (by kernel_rfl) (by kernel_rfl) (fun _ _ _ _ h => h) rfl v14_ ?_; (try simp only [Act.put, q1_, q2_, q3_]); (try simp only [q4_, q5_, q6_]); refine H.takeRun v13_ 16 rfl (by kernel_rfl) (by kernel_rfl) (by kernel_rfl) (fun _ _ _ _ h => h) rfl v14_ ?_; (try simp only [Act.put, q1_, q2_, q3_]); (try simp only [q4_, q5_, q6_]); refine held_one (i := 17) (by kernel_rfl) rfl rfl ?_; refine H.ost1 oU rfl rfl (cells_int _ _) v6_ (set_byte _ _ _ _ _ _ HX.out HK.out hr8 hq6 hbl HL.out) (by rfl) (by exact one_of rfl) v15_ ?_; intro w H; refine H.next v13_ ?_; (try simp only [Act.put]); refine wpAnyH_done (by kernel_rfl) ?_ _))
    | (go_at_call 51; ((with_reducible refine (cM _).mono ?_); rintro e w ⟨rfl, hb⟩; replace H := H.call hb; clear hb))
    | (go_at_call 53; ((with_reducible refine (cA _).mono ?_); rintro e w ⟨rfl, hb⟩; replace H := H.call hb; clear hb))
    )
      all_goals
        go_roundw
        case rel => exact ⟨k + 1, by omega, by go_num, by rw [HB.out]; exact H⟩
        case measure => simp [intOf] <;> omega
    · obtain rfl : k = m := by omega
      have HE := Lib.hid (show n % 256 ^ k = n from Nat.mod_eq_of_lt HF.out)
      rw [HE.out] at H
      clear hlt hk cM
      go_wp2_with (first
    | ((with_reducible show wpList _ _ _ (⟨some 2, .alloc 33, _, _, _, _⟩ :: _) _ _); refine H.mk0 rfl rW rfl ?_; (intro gr w H; simp only [Act.put, q1_, q2_, q3_]))
    | ((with_reducible show wpList _ _ _ (⟨some 4, .alloc 33, _, _, _, _⟩ :: _) _ _); refine H.mk0 rfl rW rfl ?_; (intro gs w H; simp only [Act.put, q1_, q2_, q3_]))
    | ((with_reducible show wpList _ _ _ (⟨_, .box _ _, _, _, _, _⟩ :: _) _ _); refine H.box rfl rfl (cells_agg _) ?_; (intro g w H; simp only [Act.put, q1_, q2_, q3_]))
    | ((with_reducible show wpList _ _ _ (⟨_, .alloc 33, _, _, _, _⟩ :: _) _ _); refine H.mk0 rfl rW rfl ?_; (intro g w H; simp only [Act.put, q1_, q2_, q3_]))
    | ((with_reducible show wpList _ _ _ (⟨_, .load 33 _, _, _, _, _⟩ :: _) _ _); refine H.ld rfl rW rfl rfl v2_ v4_ (by rfl) ?_; simp only [Act.put, q1_, q2_, q3_])
    | ((with_reducible show wpList _ _ _ (⟨_, .load 25 _, _, _, _, _⟩ :: _) _ _); refine H.ld1 rfl oU rfl rfl v2_ v5_ ?_; simp only [Act.put, q1_, q2_, q3_])
    | ((with_reducible show wpList _ _ _ (⟨_, .store 33 _ _, _, _, _, _⟩ :: _) _ _); refine H.st rfl rW rfl rfl (cells_agg _) v6_ (set_limbsR _ _) (by rfl) (by exact one_of rfl) v15_ ?_; (intro w H; simp only [Act.put]))
    | (go_at_call 51; ((with_reducible refine (cM _).mono ?_); rintro e w ⟨rfl, hb⟩; replace H := H.call hb; clear hb))
    | (go_at_call 53; ((with_reducible refine (cA _).mono ?_); rintro e w ⟨rfl, hb⟩; replace H := H.call hb; clear hb))
    )
      refine bodyPost_ret (results_ct rfl rfl (H.res rW v2_ (ext_limbs _) (by rfl))) rfl ⟨?_, H.below⟩
      rfl
open Go.RowKit Go.Proofs.YtecdpjhifmlahaaDoorW.PrintWords Go.Proofs.YtecdpjhifmlahaaDoor.PTointEnds
theorem r19R_exact (f m a v0 v1 v2 : Nat) (neg x1 : Bool) (nn dd : ByteArray) (ee er : Int) (w : World) (cV : ∀ w, Calls Tryd.prog 46 #[.int .u8 f, BV a] w fun e w' => e = .returned (.tuple #[.agg (exC neg nn dd ee), .int .i64 er]) ∧ Below w.heap.size w w') (cF : ∀ w, Calls Tryd.prog 47 #[.agg (exC neg nn dd ee), .int .i64 0] w fun e w' => e = .returned (.tuple #[.string (strB v0), .bool true, .int .i64 0]) ∧ Below w.heap.size w w')  :
    Calls Tryd.prog 24 #[.int .u8 f, .int .u8 m, BV a] w fun e w' => e = .returned (.tuple #[.string (strB v0), .bool true]) ∧ Below w.heap.size w w' := by
  have H := Own.start w
  go_enter Tryd.func24, Tryd.ntmps24
  exact walk6
theorem r19R_ADt (f m a v0 v1 v2 : Nat) (neg x1 : Bool) (nn dd : ByteArray) (ee er : Int) (w : World) (l1 : Int) (cV : ∀ w, Calls Tryd.prog 46 #[.int .u8 f, BV a] w fun e w' => e = .returned (.tuple #[.agg (exC neg nn dd ee), .int .i64 er]) ∧ Below w.heap.size w w') (cF : ∀ w, Calls Tryd.prog 47 #[.agg (exC neg nn dd ee), .int .i64 0] w fun e w' => e = .returned (.tuple #[.string (strB v0), .bool false, .int .i64 0]) ∧ Below w.heap.size w w') (cG : ∀ w, Calls Tryd.prog 47 #[.agg (exC neg nn dd ee), .int .i64 (-1)] w fun e w' => e = .returned (.tuple #[.string (strB v1), .bool x1, .int .i64 0]) ∧ Below w.heap.size w w') (cL : ∀ w, Calls Tryd.prog 48 #[.string (strB v1)] w fun e w' => e = .returned (.int .i64 l1) ∧ Below w.heap.size w w') (hl : (l1 == 0) = false) (n0 : (strB v0).toList.isEmpty = true) (m0 : (strB v0).toList = []) (cU : ∀ w, Calls Tryd.prog 49 #[.int .u8 m, .bool neg, .bool false, .int .i64 (-1), .bool false] w fun e w' => e = .returned (.bool true) ∧ Below w.heap.size w w') (cA : ∀ w, Calls Tryd.prog 50 #[.string (strB v0), .string ⟨#[1]⟩] w fun e w' => e = .returned (.tuple #[.string (strB v2), .int .i64 0]) ∧ Below w.heap.size w w')  :
    Calls Tryd.prog 24 #[.int .u8 f, .int .u8 m, BV a] w fun e w' => e = .returned (.tuple #[.string (strB v2), .bool false]) ∧ Below w.heap.size w w' := by
  have H := Own.start w
  go_enter Tryd.func24, Tryd.ntmps24
  exact walk6
theorem r19R_ADf (f m a v0 v1 v2 : Nat) (neg x1 : Bool) (nn dd : ByteArray) (ee er : Int) (w : World) (l1 : Int) (cV : ∀ w, Calls Tryd.prog 46 #[.int .u8 f, BV a] w fun e w' => e = .returned (.tuple #[.agg (exC neg nn dd ee), .int .i64 er]) ∧ Below w.heap.size w w') (cF : ∀ w, Calls Tryd.prog 47 #[.agg (exC neg nn dd ee), .int .i64 0] w fun e w' => e = .returned (.tuple #[.string (strB v0), .bool false, .int .i64 0]) ∧ Below w.heap.size w w') (cG : ∀ w, Calls Tryd.prog 47 #[.agg (exC neg nn dd ee), .int .i64 (-1)] w fun e w' => e = .returned (.tuple #[.string (strB v1), .bool x1, .int .i64 0]) ∧ Below w.heap.size w w') (cL : ∀ w, Calls Tryd.prog 48 #[.string (strB v1)] w fun e w' => e = .returned (.int .i64 l1) ∧ Below w.heap.size w w') (hl : (l1 == 0) = false) (n0 : (strB v0).toList.isEmpty = true) (m0 : (strB v0).toList = []) (cU : ∀ w, Calls Tryd.prog 49 #[.int .u8 m, .bool neg, .bool false, .int .i64 (-1), .bool false] w fun e w' => e = .returned (.bool false) ∧ Below w.heap.size w w')  :
    Calls Tryd.prog 24 #[.int .u8 f, .int .u8 m, BV a] w fun e w' => e = .returned (.tuple #[.string (strB v0), .bool false]) ∧ Below w.heap.size w w' := by
  have H := Own.start w
  go_enter Tryd.func24, Tryd.ntmps24
  exact walk6
theorem r19R_AEt (f m a v0 v1 v2 : Nat) (neg x1 : Bool) (nn dd : ByteArray) (ee er : Int) (w : World) (l1 : Int) (l0 : Int) (cV : ∀ w, Calls Tryd.prog 46 #[.int .u8 f, BV a] w fun e w' => e = .returned (.tuple #[.agg (exC neg nn dd ee), .int .i64 er]) ∧ Below w.heap.size w w') (cF : ∀ w, Calls Tryd.prog 47 #[.agg (exC neg nn dd ee), .int .i64 0] w fun e w' => e = .returned (.tuple #[.string (strB v0), .bool false, .int .i64 0]) ∧ Below w.heap.size w w') (cG : ∀ w, Calls Tryd.prog 47 #[.agg (exC neg nn dd ee), .int .i64 (-1)] w fun e w' => e = .returned (.tuple #[.string (strB v1), .bool x1, .int .i64 0]) ∧ Below w.heap.size w w') (cL : ∀ w, Calls Tryd.prog 48 #[.string (strB v1)] w fun e w' => e = .returned (.int .i64 l1) ∧ Below w.heap.size w w') (hl : (l1 == 0) = false) (n0 : (strB v0).toList.isEmpty = false) (m0 : ¬ (strB v0).toList = []) (cK : ∀ w, Calls Tryd.prog 48 #[.string (strB v0)] w fun e w' => e = .returned (.int .i64 l0) ∧ Below w.heap.size w w') (cU : ∀ w, Calls Tryd.prog 49 #[.int .u8 m, .bool neg, .bool (l0 == 0), .int .i64 (-1), .bool false] w fun e w' => e = .returned (.bool true) ∧ Below w.heap.size w w') (cA : ∀ w, Calls Tryd.prog 50 #[.string (strB v0), .string ⟨#[1]⟩] w fun e w' => e = .returned (.tuple #[.string (strB v2), .int .i64 0]) ∧ Below w.heap.size w w')  :
    Calls Tryd.prog 24 #[.int .u8 f, .int .u8 m, BV a] w fun e w' => e = .returned (.tuple #[.string (strB v2), .bool false]) ∧ Below w.heap.size w w' := by
  have H := Own.start w
  go_enter Tryd.func24, Tryd.ntmps24
  exact walk6
theorem r19R_AEf (f m a v0 v1 v2 : Nat) (neg x1 : Bool) (nn dd : ByteArray) (ee er : Int) (w : World) (l1 : Int) (l0 : Int) (cV : ∀ w, Calls Tryd.prog 46 #[.int .u8 f, BV a] w fun e w' => e = .returned (.tuple #[.agg (exC neg nn dd ee), .int .i64 er]) ∧ Below w.heap.size w w') (cF : ∀ w, Calls Tryd.prog 47 #[.agg (exC neg nn dd ee), .int .i64 0] w fun e w' => e = .returned (.tuple #[.string (strB v0), .bool false, .int .i64 0]) ∧ Below w.heap.size w w') (cG : ∀ w, Calls Tryd.prog 47 #[.agg (exC neg nn dd ee), .int .i64 (-1)] w fun e w' => e = .returned (.tuple #[.string (strB v1), .bool x1, .int .i64 0]) ∧ Below w.heap.size w w') (cL : ∀ w, Calls Tryd.prog 48 #[.string (strB v1)] w fun e w' => e = .returned (.int .i64 l1) ∧ Below w.heap.size w w') (hl : (l1 == 0) = false) (n0 : (strB v0).toList.isEmpty = false) (m0 : ¬ (strB v0).toList = []) (cK : ∀ w, Calls Tryd.prog 48 #[.string (strB v0)] w fun e w' => e = .returned (.int .i64 l0) ∧ Below w.heap.size w w') (cU : ∀ w, Calls Tryd.prog 49 #[.int .u8 m, .bool neg, .bool (l0 == 0), .int .i64 (-1), .bool false] w fun e w' => e = .returned (.bool false) ∧ Below w.heap.size w w')  :
    Calls Tryd.prog 24 #[.int .u8 f, .int .u8 m, BV a] w fun e w' => e = .returned (.tuple #[.string (strB v0), .bool false]) ∧ Below w.heap.size w w' := by
  have H := Own.start w
  go_enter Tryd.func24, Tryd.ntmps24
  exact walk6
theorem r19R_BDt (f m a v0 v1 v2 : Nat) (neg x1 : Bool) (nn dd : ByteArray) (ee er : Int) (w : World) (l1 : Int) (cV : ∀ w, Calls Tryd.prog 46 #[.int .u8 f, BV a] w fun e w' => e = .returned (.tuple #[.agg (exC neg nn dd ee), .int .i64 er]) ∧ Below w.heap.size w w') (cF : ∀ w, Calls Tryd.prog 47 #[.agg (exC neg nn dd ee), .int .i64 0] w fun e w' => e = .returned (.tuple #[.string (strB v0), .bool false, .int .i64 0]) ∧ Below w.heap.size w w') (cG : ∀ w, Calls Tryd.prog 47 #[.agg (exC neg nn dd ee), .int .i64 (-1)] w fun e w' => e = .returned (.tuple #[.string (strB v1), .bool x1, .int .i64 0]) ∧ Below w.heap.size w w') (cL : ∀ w, Calls Tryd.prog 48 #[.string (strB v1)] w fun e w' => e = .returned (.int .i64 l1) ∧ Below w.heap.size w w') (hl : (l1 == 0) = true) (n1 : (strB v1).toList.isEmpty = true) (m1 : (strB v1).toList = []) (n0 : (strB v0).toList.isEmpty = true) (m0 : (strB v0).toList = []) (cU : ∀ w, Calls Tryd.prog 49 #[.int .u8 m, .bool neg, .bool false, .int .i64 (-1), .bool false] w fun e w' => e = .returned (.bool true) ∧ Below w.heap.size w w') (cA : ∀ w, Calls Tryd.prog 50 #[.string (strB v0), .string ⟨#[1]⟩] w fun e w' => e = .returned (.tuple #[.string (strB v2), .int .i64 0]) ∧ Below w.heap.size w w')  :
    Calls Tryd.prog 24 #[.int .u8 f, .int .u8 m, BV a] w fun e w' => e = .returned (.tuple #[.string (strB v2), .bool false]) ∧ Below w.heap.size w w' := by
  have H := Own.start w
  go_enter Tryd.func24, Tryd.ntmps24
  exact walk6
theorem r19R_BDf (f m a v0 v1 v2 : Nat) (neg x1 : Bool) (nn dd : ByteArray) (ee er : Int) (w : World) (l1 : Int) (cV : ∀ w, Calls Tryd.prog 46 #[.int .u8 f, BV a] w fun e w' => e = .returned (.tuple #[.agg (exC neg nn dd ee), .int .i64 er]) ∧ Below w.heap.size w w') (cF : ∀ w, Calls Tryd.prog 47 #[.agg (exC neg nn dd ee), .int .i64 0] w fun e w' => e = .returned (.tuple #[.string (strB v0), .bool false, .int .i64 0]) ∧ Below w.heap.size w w') (cG : ∀ w, Calls Tryd.prog 47 #[.agg (exC neg nn dd ee), .int .i64 (-1)] w fun e w' => e = .returned (.tuple #[.string (strB v1), .bool x1, .int .i64 0]) ∧ Below w.heap.size w w') (cL : ∀ w, Calls Tryd.prog 48 #[.string (strB v1)] w fun e w' => e = .returned (.int .i64 l1) ∧ Below w.heap.size w w') (hl : (l1 == 0) = true) (n1 : (strB v1).toList.isEmpty = true) (m1 : (strB v1).toList = []) (n0 : (strB v0).toList.isEmpty = true) (m0 : (strB v0).toList = []) (cU : ∀ w, Calls Tryd.prog 49 #[.int .u8 m, .bool neg, .bool false, .int .i64 (-1), .bool false] w fun e w' => e = .returned (.bool false) ∧ Below w.heap.size w w')  :
    Calls Tryd.prog 24 #[.int .u8 f, .int .u8 m, BV a] w fun e w' => e = .returned (.tuple #[.string (strB v0), .bool false]) ∧ Below w.heap.size w w' := by
  have H := Own.start w
  go_enter Tryd.func24, Tryd.ntmps24
  exact walk6
theorem r19R_BEt (f m a v0 v1 v2 : Nat) (neg x1 : Bool) (nn dd : ByteArray) (ee er : Int) (w : World) (l1 : Int) (l0 : Int) (cV : ∀ w, Calls Tryd.prog 46 #[.int .u8 f, BV a] w fun e w' => e = .returned (.tuple #[.agg (exC neg nn dd ee), .int .i64 er]) ∧ Below w.heap.size w w') (cF : ∀ w, Calls Tryd.prog 47 #[.agg (exC neg nn dd ee), .int .i64 0] w fun e w' => e = .returned (.tuple #[.string (strB v0), .bool false, .int .i64 0]) ∧ Below w.heap.size w w') (cG : ∀ w, Calls Tryd.prog 47 #[.agg (exC neg nn dd ee), .int .i64 (-1)] w fun e w' => e = .returned (.tuple #[.string (strB v1), .bool x1, .int .i64 0]) ∧ Below w.heap.size w w') (cL : ∀ w, Calls Tryd.prog 48 #[.string (strB v1)] w fun e w' => e = .returned (.int .i64 l1) ∧ Below w.heap.size w w') (hl : (l1 == 0) = true) (n1 : (strB v1).toList.isEmpty = true) (m1 : (strB v1).toList = []) (n0 : (strB v0).toList.isEmpty = false) (m0 : ¬ (strB v0).toList = []) (cK : ∀ w, Calls Tryd.prog 48 #[.string (strB v0)] w fun e w' => e = .returned (.int .i64 l0) ∧ Below w.heap.size w w') (cU : ∀ w, Calls Tryd.prog 49 #[.int .u8 m, .bool neg, .bool (l0 == 0), .int .i64 (-1), .bool false] w fun e w' => e = .returned (.bool true) ∧ Below w.heap.size w w') (cA : ∀ w, Calls Tryd.prog 50 #[.string (strB v0), .string ⟨#[1]⟩] w fun e w' => e = .returned (.tuple #[.string (strB v2), .int .i64 0]) ∧ Below w.heap.size w w')  :
    Calls Tryd.prog 24 #[.int .u8 f, .int .u8 m, BV a] w fun e w' => e = .returned (.tuple #[.string (strB v2), .bool false]) ∧ Below w.heap.size w w' := by
  have H := Own.start w
  go_enter Tryd.func24, Tryd.ntmps24
  exact walk6
theorem r19R_BEf (f m a v0 v1 v2 : Nat) (neg x1 : Bool) (nn dd : ByteArray) (ee er : Int) (w : World) (l1 : Int) (l0 : Int) (cV : ∀ w, Calls Tryd.prog 46 #[.int .u8 f, BV a] w fun e w' => e = .returned (.tuple #[.agg (exC neg nn dd ee), .int .i64 er]) ∧ Below w.heap.size w w') (cF : ∀ w, Calls Tryd.prog 47 #[.agg (exC neg nn dd ee), .int .i64 0] w fun e w' => e = .returned (.tuple #[.string (strB v0), .bool false, .int .i64 0]) ∧ Below w.heap.size w w') (cG : ∀ w, Calls Tryd.prog 47 #[.agg (exC neg nn dd ee), .int .i64 (-1)] w fun e w' => e = .returned (.tuple #[.string (strB v1), .bool x1, .int .i64 0]) ∧ Below w.heap.size w w') (cL : ∀ w, Calls Tryd.prog 48 #[.string (strB v1)] w fun e w' => e = .returned (.int .i64 l1) ∧ Below w.heap.size w w') (hl : (l1 == 0) = true) (n1 : (strB v1).toList.isEmpty = true) (m1 : (strB v1).toList = []) (n0 : (strB v0).toList.isEmpty = false) (m0 : ¬ (strB v0).toList = []) (cK : ∀ w, Calls Tryd.prog 48 #[.string (strB v0)] w fun e w' => e = .returned (.int .i64 l0) ∧ Below w.heap.size w w') (cU : ∀ w, Calls Tryd.prog 49 #[.int .u8 m, .bool neg, .bool (l0 == 0), .int .i64 (-1), .bool false] w fun e w' => e = .returned (.bool false) ∧ Below w.heap.size w w')  :
    Calls Tryd.prog 24 #[.int .u8 f, .int .u8 m, BV a] w fun e w' => e = .returned (.tuple #[.string (strB v0), .bool false]) ∧ Below w.heap.size w w' := by
  have H := Own.start w
  go_enter Tryd.func24, Tryd.ntmps24
  exact walk6
theorem r19R_C0Dt (f m a v0 v1 v2 : Nat) (neg x1 : Bool) (nn dd : ByteArray) (ee er : Int) (w : World) (l1 : Int) (cV : ∀ w, Calls Tryd.prog 46 #[.int .u8 f, BV a] w fun e w' => e = .returned (.tuple #[.agg (exC neg nn dd ee), .int .i64 er]) ∧ Below w.heap.size w w') (cF : ∀ w, Calls Tryd.prog 47 #[.agg (exC neg nn dd ee), .int .i64 0] w fun e w' => e = .returned (.tuple #[.string (strB v0), .bool false, .int .i64 0]) ∧ Below w.heap.size w w') (cG : ∀ w, Calls Tryd.prog 47 #[.agg (exC neg nn dd ee), .int .i64 (-1)] w fun e w' => e = .returned (.tuple #[.string (strB v1), .bool true, .int .i64 0]) ∧ Below w.heap.size w w') (cL : ∀ w, Calls Tryd.prog 48 #[.string (strB v1)] w fun e w' => e = .returned (.int .i64 l1) ∧ Below w.heap.size w w') (hl : (l1 == 0) = true) (n1 : (strB v1).toList.isEmpty = false) (m1 : ¬ (strB v1).toList = []) (n0 : (strB v0).toList.isEmpty = true) (m0 : (strB v0).toList = []) (cU : ∀ w, Calls Tryd.prog 49 #[.int .u8 m, .bool neg, .bool false, .int .i64 0, .bool false] w fun e w' => e = .returned (.bool true) ∧ Below w.heap.size w w') (cA : ∀ w, Calls Tryd.prog 50 #[.string (strB v0), .string ⟨#[1]⟩] w fun e w' => e = .returned (.tuple #[.string (strB v2), .int .i64 0]) ∧ Below w.heap.size w w')  :
    Calls Tryd.prog 24 #[.int .u8 f, .int .u8 m, BV a] w fun e w' => e = .returned (.tuple #[.string (strB v2), .bool false]) ∧ Below w.heap.size w w' := by
  have H := Own.start w
  go_enter Tryd.func24, Tryd.ntmps24
  exact walk6
theorem r19R_C0Df (f m a v0 v1 v2 : Nat) (neg x1 : Bool) (nn dd : ByteArray) (ee er : Int) (w : World) (l1 : Int) (cV : ∀ w, Calls Tryd.prog 46 #[.int .u8 f, BV a] w fun e w' => e = .returned (.tuple #[.agg (exC neg nn dd ee), .int .i64 er]) ∧ Below w.heap.size w w') (cF : ∀ w, Calls Tryd.prog 47 #[.agg (exC neg nn dd ee), .int .i64 0] w fun e w' => e = .returned (.tuple #[.string (strB v0), .bool false, .int .i64 0]) ∧ Below w.heap.size w w') (cG : ∀ w, Calls Tryd.prog 47 #[.agg (exC neg nn dd ee), .int .i64 (-1)] w fun e w' => e = .returned (.tuple #[.string (strB v1), .bool true, .int .i64 0]) ∧ Below w.heap.size w w') (cL : ∀ w, Calls Tryd.prog 48 #[.string (strB v1)] w fun e w' => e = .returned (.int .i64 l1) ∧ Below w.heap.size w w') (hl : (l1 == 0) = true) (n1 : (strB v1).toList.isEmpty = false) (m1 : ¬ (strB v1).toList = []) (n0 : (strB v0).toList.isEmpty = true) (m0 : (strB v0).toList = []) (cU : ∀ w, Calls Tryd.prog 49 #[.int .u8 m, .bool neg, .bool false, .int .i64 0, .bool false] w fun e w' => e = .returned (.bool false) ∧ Below w.heap.size w w')  :
    Calls Tryd.prog 24 #[.int .u8 f, .int .u8 m, BV a] w fun e w' => e = .returned (.tuple #[.string (strB v0), .bool false]) ∧ Below w.heap.size w w' := by
  have H := Own.start w
  go_enter Tryd.func24, Tryd.ntmps24
  exact walk6
theorem r19R_C0Et (f m a v0 v1 v2 : Nat) (neg x1 : Bool) (nn dd : ByteArray) (ee er : Int) (w : World) (l1 : Int) (l0 : Int) (cV : ∀ w, Calls Tryd.prog 46 #[.int .u8 f, BV a] w fun e w' => e = .returned (.tuple #[.agg (exC neg nn dd ee), .int .i64 er]) ∧ Below w.heap.size w w') (cF : ∀ w, Calls Tryd.prog 47 #[.agg (exC neg nn dd ee), .int .i64 0] w fun e w' => e = .returned (.tuple #[.string (strB v0), .bool false, .int .i64 0]) ∧ Below w.heap.size w w') (cG : ∀ w, Calls Tryd.prog 47 #[.agg (exC neg nn dd ee), .int .i64 (-1)] w fun e w' => e = .returned (.tuple #[.string (strB v1), .bool true, .int .i64 0]) ∧ Below w.heap.size w w') (cL : ∀ w, Calls Tryd.prog 48 #[.string (strB v1)] w fun e w' => e = .returned (.int .i64 l1) ∧ Below w.heap.size w w') (hl : (l1 == 0) = true) (n1 : (strB v1).toList.isEmpty = false) (m1 : ¬ (strB v1).toList = []) (n0 : (strB v0).toList.isEmpty = false) (m0 : ¬ (strB v0).toList = []) (cK : ∀ w, Calls Tryd.prog 48 #[.string (strB v0)] w fun e w' => e = .returned (.int .i64 l0) ∧ Below w.heap.size w w') (cU : ∀ w, Calls Tryd.prog 49 #[.int .u8 m, .bool neg, .bool (l0 == 0), .int .i64 0, .bool false] w fun e w' => e = .returned (.bool true) ∧ Below w.heap.size w w') (cA : ∀ w, Calls Tryd.prog 50 #[.string (strB v0), .string ⟨#[1]⟩] w fun e w' => e = .returned (.tuple #[.string (strB v2), .int .i64 0]) ∧ Below w.heap.size w w')  :
    Calls Tryd.prog 24 #[.int .u8 f, .int .u8 m, BV a] w fun e w' => e = .returned (.tuple #[.string (strB v2), .bool false]) ∧ Below w.heap.size w w' := by
  have H := Own.start w
  go_enter Tryd.func24, Tryd.ntmps24
  exact walk6
theorem r19R_C0Ef (f m a v0 v1 v2 : Nat) (neg x1 : Bool) (nn dd : ByteArray) (ee er : Int) (w : World) (l1 : Int) (l0 : Int) (cV : ∀ w, Calls Tryd.prog 46 #[.int .u8 f, BV a] w fun e w' => e = .returned (.tuple #[.agg (exC neg nn dd ee), .int .i64 er]) ∧ Below w.heap.size w w') (cF : ∀ w, Calls Tryd.prog 47 #[.agg (exC neg nn dd ee), .int .i64 0] w fun e w' => e = .returned (.tuple #[.string (strB v0), .bool false, .int .i64 0]) ∧ Below w.heap.size w w') (cG : ∀ w, Calls Tryd.prog 47 #[.agg (exC neg nn dd ee), .int .i64 (-1)] w fun e w' => e = .returned (.tuple #[.string (strB v1), .bool true, .int .i64 0]) ∧ Below w.heap.size w w') (cL : ∀ w, Calls Tryd.prog 48 #[.string (strB v1)] w fun e w' => e = .returned (.int .i64 l1) ∧ Below w.heap.size w w') (hl : (l1 == 0) = true) (n1 : (strB v1).toList.isEmpty = false) (m1 : ¬ (strB v1).toList = []) (n0 : (strB v0).toList.isEmpty = false) (m0 : ¬ (strB v0).toList = []) (cK : ∀ w, Calls Tryd.prog 48 #[.string (strB v0)] w fun e w' => e = .returned (.int .i64 l0) ∧ Below w.heap.size w w') (cU : ∀ w, Calls Tryd.prog 49 #[.int .u8 m, .bool neg, .bool (l0 == 0), .int .i64 0, .bool false] w fun e w' => e = .returned (.bool false) ∧ Below w.heap.size w w')  :
    Calls Tryd.prog 24 #[.int .u8 f, .int .u8 m, BV a] w fun e w' => e = .returned (.tuple #[.string (strB v0), .bool false]) ∧ Below w.heap.size w w' := by
  have H := Own.start w
  go_enter Tryd.func24, Tryd.ntmps24
  exact walk6
theorem r19R_C1Dt (f m a v0 v1 v2 : Nat) (neg x1 : Bool) (nn dd : ByteArray) (ee er : Int) (w : World) (l1 : Int) (cV : ∀ w, Calls Tryd.prog 46 #[.int .u8 f, BV a] w fun e w' => e = .returned (.tuple #[.agg (exC neg nn dd ee), .int .i64 er]) ∧ Below w.heap.size w w') (cF : ∀ w, Calls Tryd.prog 47 #[.agg (exC neg nn dd ee), .int .i64 0] w fun e w' => e = .returned (.tuple #[.string (strB v0), .bool false, .int .i64 0]) ∧ Below w.heap.size w w') (cG : ∀ w, Calls Tryd.prog 47 #[.agg (exC neg nn dd ee), .int .i64 (-1)] w fun e w' => e = .returned (.tuple #[.string (strB v1), .bool false, .int .i64 0]) ∧ Below w.heap.size w w') (cL : ∀ w, Calls Tryd.prog 48 #[.string (strB v1)] w fun e w' => e = .returned (.int .i64 l1) ∧ Below w.heap.size w w') (hl : (l1 == 0) = true) (n1 : (strB v1).toList.isEmpty = false) (m1 : ¬ (strB v1).toList = []) (n0 : (strB v0).toList.isEmpty = true) (m0 : (strB v0).toList = []) (cU : ∀ w, Calls Tryd.prog 49 #[.int .u8 m, .bool neg, .bool false, .int .i64 1, .bool false] w fun e w' => e = .returned (.bool true) ∧ Below w.heap.size w w') (cA : ∀ w, Calls Tryd.prog 50 #[.string (strB v0), .string ⟨#[1]⟩] w fun e w' => e = .returned (.tuple #[.string (strB v2), .int .i64 0]) ∧ Below w.heap.size w w')  :
    Calls Tryd.prog 24 #[.int .u8 f, .int .u8 m, BV a] w fun e w' => e = .returned (.tuple #[.string (strB v2), .bool false]) ∧ Below w.heap.size w w' := by
  have H := Own.start w
  go_enter Tryd.func24, Tryd.ntmps24
  exact walk6
theorem r19R_C1Df (f m a v0 v1 v2 : Nat) (neg x1 : Bool) (nn dd : ByteArray) (ee er : Int) (w : World) (l1 : Int) (cV : ∀ w, Calls Tryd.prog 46 #[.int .u8 f, BV a] w fun e w' => e = .returned (.tuple #[.agg (exC neg nn dd ee), .int .i64 er]) ∧ Below w.heap.size w w') (cF : ∀ w, Calls Tryd.prog 47 #[.agg (exC neg nn dd ee), .int .i64 0] w fun e w' => e = .returned (.tuple #[.string (strB v0), .bool false, .int .i64 0]) ∧ Below w.heap.size w w') (cG : ∀ w, Calls Tryd.prog 47 #[.agg (exC neg nn dd ee), .int .i64 (-1)] w fun e w' => e = .returned (.tuple #[.string (strB v1), .bool false, .int .i64 0]) ∧ Below w.heap.size w w') (cL : ∀ w, Calls Tryd.prog 48 #[.string (strB v1)] w fun e w' => e = .returned (.int .i64 l1) ∧ Below w.heap.size w w') (hl : (l1 == 0) = true) (n1 : (strB v1).toList.isEmpty = false) (m1 : ¬ (strB v1).toList = []) (n0 : (strB v0).toList.isEmpty = true) (m0 : (strB v0).toList = []) (cU : ∀ w, Calls Tryd.prog 49 #[.int .u8 m, .bool neg, .bool false, .int .i64 1, .bool false] w fun e w' => e = .returned (.bool false) ∧ Below w.heap.size w w')  :
    Calls Tryd.prog 24 #[.int .u8 f, .int .u8 m, BV a] w fun e w' => e = .returned (.tuple #[.string (strB v0), .bool false]) ∧ Below w.heap.size w w' := by
  have H := Own.start w
  go_enter Tryd.func24, Tryd.ntmps24
  exact walk6
theorem r19R_C1Et (f m a v0 v1 v2 : Nat) (neg x1 : Bool) (nn dd : ByteArray) (ee er : Int) (w : World) (l1 : Int) (l0 : Int) (cV : ∀ w, Calls Tryd.prog 46 #[.int .u8 f, BV a] w fun e w' => e = .returned (.tuple #[.agg (exC neg nn dd ee), .int .i64 er]) ∧ Below w.heap.size w w') (cF : ∀ w, Calls Tryd.prog 47 #[.agg (exC neg nn dd ee), .int .i64 0] w fun e w' => e = .returned (.tuple #[.string (strB v0), .bool false, .int .i64 0]) ∧ Below w.heap.size w w') (cG : ∀ w, Calls Tryd.prog 47 #[.agg (exC neg nn dd ee), .int .i64 (-1)] w fun e w' => e = .returned (.tuple #[.string (strB v1), .bool false, .int .i64 0]) ∧ Below w.heap.size w w') (cL : ∀ w, Calls Tryd.prog 48 #[.string (strB v1)] w fun e w' => e = .returned (.int .i64 l1) ∧ Below w.heap.size w w') (hl : (l1 == 0) = true) (n1 : (strB v1).toList.isEmpty = false) (m1 : ¬ (strB v1).toList = []) (n0 : (strB v0).toList.isEmpty = false) (m0 : ¬ (strB v0).toList = []) (cK : ∀ w, Calls Tryd.prog 48 #[.string (strB v0)] w fun e w' => e = .returned (.int .i64 l0) ∧ Below w.heap.size w w') (cU : ∀ w, Calls Tryd.prog 49 #[.int .u8 m, .bool neg, .bool (l0 == 0), .int .i64 1, .bool false] w fun e w' => e = .returned (.bool true) ∧ Below w.heap.size w w') (cA : ∀ w, Calls Tryd.prog 50 #[.string (strB v0), .string ⟨#[1]⟩] w fun e w' => e = .returned (.tuple #[.string (strB v2), .int .i64 0]) ∧ Below w.heap.size w w')  :
    Calls Tryd.prog 24 #[.int .u8 f, .int .u8 m, BV a] w fun e w' => e = .returned (.tuple #[.string (strB v2), .bool false]) ∧ Below w.heap.size w w' := by
  have H := Own.start w
  go_enter Tryd.func24, Tryd.ntmps24
  exact walk6
theorem r19R_C1Ef (f m a v0 v1 v2 : Nat) (neg x1 : Bool) (nn dd : ByteArray) (ee er : Int) (w : World) (l1 : Int) (l0 : Int) (cV : ∀ w, Calls Tryd.prog 46 #[.int .u8 f, BV a] w fun e w' => e = .returned (.tuple #[.agg (exC neg nn dd ee), .int .i64 er]) ∧ Below w.heap.size w w') (cF : ∀ w, Calls Tryd.prog 47 #[.agg (exC neg nn dd ee), .int .i64 0] w fun e w' => e = .returned (.tuple #[.string (strB v0), .bool false, .int .i64 0]) ∧ Below w.heap.size w w') (cG : ∀ w, Calls Tryd.prog 47 #[.agg (exC neg nn dd ee), .int .i64 (-1)] w fun e w' => e = .returned (.tuple #[.string (strB v1), .bool false, .int .i64 0]) ∧ Below w.heap.size w w') (cL : ∀ w, Calls Tryd.prog 48 #[.string (strB v1)] w fun e w' => e = .returned (.int .i64 l1) ∧ Below w.heap.size w w') (hl : (l1 == 0) = true) (n1 : (strB v1).toList.isEmpty = false) (m1 : ¬ (strB v1).toList = []) (n0 : (strB v0).toList.isEmpty = false) (m0 : ¬ (strB v0).toList = []) (cK : ∀ w, Calls Tryd.prog 48 #[.string (strB v0)] w fun e w' => e = .returned (.int .i64 l0) ∧ Below w.heap.size w w') (cU : ∀ w, Calls Tryd.prog 49 #[.int .u8 m, .bool neg, .bool (l0 == 0), .int .i64 1, .bool false] w fun e w' => e = .returned (.bool false) ∧ Below w.heap.size w w')  :
    Calls Tryd.prog 24 #[.int .u8 f, .int .u8 m, BV a] w fun e w' => e = .returned (.tuple #[.string (strB v0), .bool false]) ∧ Below w.heap.size w w' := by
  have H := Own.start w
  go_enter Tryd.func24, Tryd.ntmps24
  exact walk6
open Go.RowKit Go.Proofs.YtecdpjhifmlahaaDoorW.PrintWords Go.Proofs.YtecdpjhifmlahaaDoor.PTointEnds
theorem up_print (m : Nat) (neg odd ex : Bool) (h : Int) : abacusref10_Up.f (m : Int) neg odd h ex = some (upB m neg odd h ex) := by
  unfold abacusref10_Up.f upB
  cases ex
  · rw [if_neg (by decide)]
    obtain rfl | rfl | rfl | rfl | rfl | h5 : m = 0 ∨ m = 1 ∨ m = 2 ∨ m = 3 ∨ m = 4 ∨ 5 ≤ m := by omega
    · simp; split
      · rename_i h1; simp [h1]
      · rename_i h1; split
        · rename_i h2; simp [h2]
        · rename_i h2; simp [h2]; omega
    · simp
    · simp
    · simp
    · simp
    · rw [if_neg (by omega), if_neg (by omega), if_neg (by omega), if_neg (by omega)]
      match m, h5 with
      | m + 5, _ => rfl
  · rfl
theorem r10Up_any (m : Nat) (neg odd ex : Bool) (h : Int) (w : World) : Calls Tryd.prog 49 #[.int .u8 m, .bool neg, .bool odd, .int .i64 h, .bool ex] w fun e' w' => e' = .returned (.bool (upB m neg odd h ex)) ∧ Below w.heap.size w w' :=
  (abacusref10_Up.calls m neg odd h ex _ w (up_print m neg odd ex h)).mono fun _ _ k => ⟨k.1, k.2.below⟩
theorem odd_low (v : Nat) (h : v ≠ 0) : (((lowZ v : Nat) : Int) == 0) = decide (v % 2 = 1) := by
  rw [Bool.eq_iff_iff, beq_iff_eq, decide_eq_true_iff]
  constructor
  · intro h0
    have h1 : lowZ v = 0 := by omega
    have h2 := (low_split v h).2.1
    rw [h1, Nat.pow_zero, Nat.div_one] at h2; exact h2
  · intro h1; rw [low_again v h1]; rfl
theorem even_low (v : Nat) (h : (((lowZ v : Nat) : Int) == 0) = false) : v % 2 ≠ 1 := by
  intro h1; rw [low_again v h1] at h; cases h
theorem str_full (v : Nat) (h : v ≠ 0) : (strB v).toList.isEmpty = false ∧ ¬ (strB v).toList = ([] : List UInt8) := by
  have h1 : ¬ (strB v).toList = ([] : List UInt8) := fun e => h ((strB_empty v).1 e)
  refine ⟨?_, h1⟩
  cases hl : (strB v).toList with
  | nil => exact absurd hl h1
  | cons a l => rfl
theorem str_none (v : Nat) (h : v = 0) : (strB v).toList.isEmpty = true ∧ (strB v).toList = ([] : List UInt8) := by
  have h1 := (strB_empty v).2 h
  exact ⟨by rw [h1]; rfl, h1⟩
theorem lenN_mono (x y : Nat) (h : x ≤ y) : lenN x ≤ lenN y := (lenN_le x _).2 (Nat.lt_of_le_of_lt h (lenN_lt y))
theorem nb_of_len (x l : Nat) (h : lenN x ≤ l) (hl : l ≤ 120000) : nb x ≤ 15001 := by unfold nb; omega
theorem fl_nb (n d : Nat) (e a : Int) (hn : lenN n ≤ 1000) (he : e - a ≤ 100000) : nb (ratFl n d e a) ≤ 15001 := by
  unfold ratFl
  by_cases h0 : n = 0
  · subst h0; rw [Nat.zero_mul, Nat.zero_div]; decide
  · refine nb_of_len _ (lenN (n * 2 ^ (e - a).toNat)) (lenN_mono _ _ (Nat.div_le_self _ _)) ?_
    rw [lenN_mul_pow n _ h0]; omega
/-- The one form of a significand. -/
theorem one_form (s : Nat) (x : Int) (hs : s < 2 ^ 113) (h1 : -40000 ≤ x) (h2 : x ≤ 40000) : lenN (numX s 1) ≤ 113 ∧ denX s 1 = 1 ∧ -40000 ≤ expX s 1 x ∧ expX s 1 x ≤ 40113 := by
  have hl := (lenN_le s 113).2 hs
  by_cases h0 : s = 0
  · subst h0; unfold numX denX expX; simp; decide
  · obtain ⟨e1, e2, e3⟩ := numX_one s h0 x
    have h3 := lowZ_lt s h0
    rw [e1, e2, e3]
    exact ⟨Nat.le_trans (lenN_mono _ _ (Nat.div_le_self _ _)) hl, rfl, by omega, by omega⟩
/-- Rounded to a whole number: in the one form as it stands. -/
theorem round_plain (s : Nat) (x : Int) (m : Nat) (neg : Bool) (d : Nat) (hd : d = denX s 1) :
    (ratFl (numX s 1) d (expX s 1 x) 0 + cond (upB m (negX' neg s) (decide (ratFl (numX s 1) d (expX s 1 x) 0 % 2 = 1)) (if ratEx (numX s 1) d (expX s 1 x) 0 = true then -1 else if ratFl (numX s 1) d (expX s 1 x) (-1) % 2 = 1 then (if ratEx (numX s 1) d (expX s 1 x) (-1) = true then 0 else 1) else -1) (ratEx (numX s 1) d (expX s 1 x) 0)) 1 0,
      ratEx (numX s 1) d (expX s 1 x) 0) = gridN m neg s x false 0 := by
  have h1 : 0 < 1 := by decide
  have hfl : (ratS s 1 x h1).fl x = s := by
    show ratFl s 1 x x = s
    unfold ratFl; rw [show (x - x).toNat = 0 by omega, Nat.pow_zero, Nat.mul_one, Nat.mul_one, Nat.div_one]
  have hex : (ratS s 1 x h1).ex x = true := by
    show ratEx s 1 x x = true
    unfold ratEx; rw [show (x - x).toNat = 0 by omega, Nat.pow_zero, Nat.mul_one, Nat.mod_one]; rfl
  have key := grid_src (ratS s 1 x h1) m neg x 0 (Or.inl hex)
  rw [hfl, hex] at key
  have key2 : gridN m neg s x false 0 = gridR (ratS s 1 x h1) m neg 0 := key
  rw [key2]
  by_cases h0 : s = 0
  · subst h0
    have e1 : ∀ e a, ratFl 0 1 e a = 0 := fun e a => by unfold ratFl; rw [Nat.zero_mul, Nat.zero_div]
    have e2 : ∀ e a, ratEx 0 1 e a = true := fun e a => by unfold ratEx; rw [Nat.zero_mul, Nat.zero_mod]; rfl
    have e3 : numX 0 1 = 0 := rfl
    have e4 : denX 0 1 = 1 := rfl
    rw [hd, e3, e4, e1, e2]
    unfold gridR
    rw [show (ratS 0 1 x h1).fl 0 = 0 from e1 x 0, show (ratS 0 1 x h1).ex 0 = true from e2 x 0, upB_exact, upB_exact]
  · have hd' : 0 < denX s 1 := by rw [(numX_one s h0 x).2.1]; decide
    have hs := mkx_src s 1 x h0 h1 hd'
    have hn : negX' neg s = neg := by unfold negX'; rw [if_neg h0]
    rw [← hs, hn, hd]
    rfl
theorem r19Rounded_any (f m a : Nat) (w : World) (h : fitsB f a = true) (h8 : nanB (clsN f a) = false) (hi : infB (clsN f a) = false) :
    Calls Tryd.prog 24 #[.int .u8 f, .int .u8 m, BV a] w fun e w' => e = .returned (.tuple #[.string (strB (gridN m (negN f a) (sigN f a) (xpN f a) false 0).1), .bool (gridN m (negN f a) (sigN f a) (xpN f a) false 0).2]) ∧ Below w.heap.size w w' := by
  have cV := fun w => r8Value_any f a w h h8 hi
  obtain ⟨x1, x2⟩ := xpN_bound f a h
  have hs := sigN_113 f a h
  generalize sigN f a = s at *
  generalize xpN f a = x at *
  generalize negN f a = neg at *
  obtain ⟨l1, l2, l3, l4⟩ := one_form s x hs x1 x2
  rw [← round_plain s x m neg 1 l2.symm]
  rw [l2] at cV
  generalize numX s 1 = n at *
  generalize expX s 1 x = e at *
  generalize negX' neg s = ng at *
  have hn : nb n ≤ 16384 := by unfold nb; omega
  have cF := fun w => r6Floor_any ng n 1 e 0 w hn (by decide) (by decide) (by omega) (by omega) (by omega) (by omega) (Or.inr (Or.inr (by omega)))
  have cG := fun w => r6Floor_any ng n 1 e (-1) w hn (by decide) (by decide) (by omega) (by omega) (by omega) (by omega) (Or.inr (Or.inr (by omega)))
  have b0 := fl_nb n 1 e 0 (by omega) (by omega)
  have b1 := fl_nb n 1 e (-1) (by omega) (by omega)
  generalize ratFl n 1 e 0 = v0 at *
  generalize ratFl n 1 e (-1) = v1 at *
  generalize ratEx n 1 e 0 = X0 at *
  generalize ratEx n 1 e (-1) = X1 at *
  cases X0
  case true =>
    rw [upB_exact]
    exact r19R_exact f m a v0 v1 0 ng X1 _ _ _ _ w cV cF
  rw [if_neg (by decide)]
  have cL := fun w => r5Low_any v1 w (by omega)
  have cK := fun w => r5Low_any v0 w (by omega)
  have hA := fun w => r5Add_any v0 1 w (by omega) (by decide)
  rw [strB_one] at hA
  have fin : ∀ (hv : Int) (od : Bool) (P : Nat → Prop), (upB m ng od hv false = true → P (v0 + 1)) → (upB m ng od hv false = false → P v0) → P (v0 + cond (upB m ng od hv false) 1 0) := by
    intro hv od P p1 p2
    cases hu : upB m ng od hv false
    · exact p2 hu
    · exact p1 hu
  have cU := fun hv od w => r10Up_any m ng od false hv w
  by_cases hv0 : v0 = 0
  · obtain ⟨q1, q2⟩ := str_none v0 hv0
    have ho : decide (v0 % 2 = 1) = false := by rw [hv0]; rfl
    rw [ho]
    by_cases hl : (((lowZ v1 : Nat) : Int) == 0) = true
    · by_cases hv1 : v1 = 0
      · obtain ⟨p1, p2⟩ := str_none v1 hv1
        rw [if_neg (show ¬ v1 % 2 = 1 by rw [hv1]; decide)]
        refine fin (-1) false (fun q => Calls _ _ _ w fun e' w' => e' = .returned (.tuple #[.string (strB q), .bool false]) ∧ Below w.heap.size w w') (fun hu => ?_) (fun hu => ?_)
        · exact r19R_BDt f m a v0 v1 (v0 + 1) ng X1 _ _ _ _ w _ cV cF cG cL hl p1 p2 q1 q2 (by have k := cU (-1) false; rw [hu] at k; exact k) hA
        · exact r19R_BDf f m a v0 v1 0 ng X1 _ _ _ _ w _ cV cF cG cL hl p1 p2 q1 q2 (by have k := cU (-1) false; rw [hu] at k; exact k)
      · obtain ⟨p1, p2⟩ := str_full v1 hv1
        have h2 : v1 % 2 = 1 := by rw [odd_low v1 hv1] at hl; exact of_decide_eq_true hl
        rw [if_pos h2]
        cases X1
        · rw [if_neg (by decide)]
          refine fin 1 false (fun q => Calls _ _ _ w fun e' w' => e' = .returned (.tuple #[.string (strB q), .bool false]) ∧ Below w.heap.size w w') (fun hu => ?_) (fun hu => ?_)
          · exact r19R_C1Dt f m a v0 v1 (v0 + 1) ng false _ _ _ _ w _ cV cF cG cL hl p1 p2 q1 q2 (by have k := cU 1 false; rw [hu] at k; exact k) hA
          · exact r19R_C1Df f m a v0 v1 0 ng false _ _ _ _ w _ cV cF cG cL hl p1 p2 q1 q2 (by have k := cU 1 false; rw [hu] at k; exact k)
        · rw [if_pos rfl]
          refine fin 0 false (fun q => Calls _ _ _ w fun e' w' => e' = .returned (.tuple #[.string (strB q), .bool false]) ∧ Below w.heap.size w w') (fun hu => ?_) (fun hu => ?_)
          · exact r19R_C0Dt f m a v0 v1 (v0 + 1) ng false _ _ _ _ w _ cV cF cG cL hl p1 p2 q1 q2 (by have k := cU 0 false; rw [hu] at k; exact k) hA
          · exact r19R_C0Df f m a v0 v1 0 ng false _ _ _ _ w _ cV cF cG cL hl p1 p2 q1 q2 (by have k := cU 0 false; rw [hu] at k; exact k)
    · have hl' := Bool.eq_false_iff.2 hl
      rw [if_neg (even_low v1 hl')]
      refine fin (-1) false (fun q => Calls _ _ _ w fun e' w' => e' = .returned (.tuple #[.string (strB q), .bool false]) ∧ Below w.heap.size w w') (fun hu => ?_) (fun hu => ?_)
      · exact r19R_ADt f m a v0 v1 (v0 + 1) ng X1 _ _ _ _ w _ cV cF cG cL hl' q1 q2 (by have k := cU (-1) false; rw [hu] at k; exact k) hA
      · exact r19R_ADf f m a v0 v1 0 ng X1 _ _ _ _ w _ cV cF cG cL hl' q1 q2 (by have k := cU (-1) false; rw [hu] at k; exact k)
  · obtain ⟨q1, q2⟩ := str_full v0 hv0
    rw [← odd_low v0 hv0]
    by_cases hl : (((lowZ v1 : Nat) : Int) == 0) = true
    · by_cases hv1 : v1 = 0
      · obtain ⟨p1, p2⟩ := str_none v1 hv1
        rw [if_neg (show ¬ v1 % 2 = 1 by rw [hv1]; decide)]
        refine fin (-1) _ (fun q => Calls _ _ _ w fun e' w' => e' = .returned (.tuple #[.string (strB q), .bool false]) ∧ Below w.heap.size w w') (fun hu => ?_) (fun hu => ?_)
        · exact r19R_BEt f m a v0 v1 (v0 + 1) ng X1 _ _ _ _ w _ _ cV cF cG cL hl p1 p2 q1 q2 cK (by have k := cU (-1) (((lowZ v0 : Nat) : Int) == 0); rw [hu] at k; exact k) hA
        · exact r19R_BEf f m a v0 v1 0 ng X1 _ _ _ _ w _ _ cV cF cG cL hl p1 p2 q1 q2 cK (by have k := cU (-1) (((lowZ v0 : Nat) : Int) == 0); rw [hu] at k; exact k)
      · obtain ⟨p1, p2⟩ := str_full v1 hv1
        have h2 : v1 % 2 = 1 := by rw [odd_low v1 hv1] at hl; exact of_decide_eq_true hl
        rw [if_pos h2]
        cases X1
        · rw [if_neg (by decide)]
          refine fin 1 _ (fun q => Calls _ _ _ w fun e' w' => e' = .returned (.tuple #[.string (strB q), .bool false]) ∧ Below w.heap.size w w') (fun hu => ?_) (fun hu => ?_)
          · exact r19R_C1Et f m a v0 v1 (v0 + 1) ng false _ _ _ _ w _ _ cV cF cG cL hl p1 p2 q1 q2 cK (by have k := cU 1 (((lowZ v0 : Nat) : Int) == 0); rw [hu] at k; exact k) hA
          · exact r19R_C1Ef f m a v0 v1 0 ng false _ _ _ _ w _ _ cV cF cG cL hl p1 p2 q1 q2 cK (by have k := cU 1 (((lowZ v0 : Nat) : Int) == 0); rw [hu] at k; exact k)
        · rw [if_pos rfl]
          refine fin 0 _ (fun q => Calls _ _ _ w fun e' w' => e' = .returned (.tuple #[.string (strB q), .bool false]) ∧ Below w.heap.size w w') (fun hu => ?_) (fun hu => ?_)
          · exact r19R_C0Et f m a v0 v1 (v0 + 1) ng false _ _ _ _ w _ _ cV cF cG cL hl p1 p2 q1 q2 cK (by have k := cU 0 (((lowZ v0 : Nat) : Int) == 0); rw [hu] at k; exact k) hA
          · exact r19R_C0Ef f m a v0 v1 0 ng false _ _ _ _ w _ _ cV cF cG cL hl p1 p2 q1 q2 cK (by have k := cU 0 (((lowZ v0 : Nat) : Int) == 0); rw [hu] at k; exact k)
    · have hl' := Bool.eq_false_iff.2 hl
      rw [if_neg (even_low v1 hl')]
      refine fin (-1) _ (fun q => Calls _ _ _ w fun e' w' => e' = .returned (.tuple #[.string (strB q), .bool false]) ∧ Below w.heap.size w w') (fun hu => ?_) (fun hu => ?_)
      · exact r19R_AEt f m a v0 v1 (v0 + 1) ng X1 _ _ _ _ w _ _ cV cF cG cL hl' q1 q2 cK (by have k := cU (-1) (((lowZ v0 : Nat) : Int) == 0); rw [hu] at k; exact k) hA
      · exact r19R_AEf f m a v0 v1 0 ng X1 _ _ _ _ w _ _ cV cF cG cL hl' q1 q2 cK (by have k := cU (-1) (((lowZ v0 : Nat) : Int) == 0); rw [hu] at k; exact k)
open Go.RowKit Go.Proofs.YtecdpjhifmlahaaDoorW.PrintWords Go.Proofs.YtecdpjhifmlahaaDoor.PTointEnds
theorem walk8 {P : Prop} (h : P := by
  go_wp2_with (first
    | ((with_reducible show wpList _ _ _ (⟨_, .box _ _, _, _, _, _⟩ :: _) _ _); refine H.box rfl rfl (cells_agg _) ?_; (intro g w H; simp only [Act.put, q1_, q2_, q3_]))
    | ((with_reducible show wpList _ _ _ (⟨_, .alloc 33, _, _, _, _⟩ :: _) _ _); refine H.mk0 rfl rW rfl ?_; (intro g w H; simp only [Act.put, q1_, q2_, q3_]))
    | ((with_reducible show wpList _ _ _ (⟨_, .load 27 _, _, _, _, _⟩ :: _) _ _); refine H.ld rfl rB rfl rfl v2_ v3_ (by rfl) ?_; simp only [Act.put, q1_, q2_, q3_])
    | ((with_reducible show wpList _ _ _ (⟨_, .load 33 _, _, _, _, _⟩ :: _) _ _); refine H.ld rfl rW rfl rfl v2_ v4_ (by rfl) ?_; simp only [Act.put, q1_, q2_, q3_])
    | ((with_reducible show wpList _ _ _ (⟨_, .store 33 _ _, _, _, _, _⟩ :: _) _ _); refine H.st rfl rW rfl rfl (cells_agg _) v6_ (set_zero6 _ rfl) (by rfl) (by exact one_of rfl) v15_ ?_; (intro w H; simp only [Act.put]))
    | (go_at_call 20; ((with_reducible refine (cT _).mono ?_); rintro e w ⟨rfl, hb⟩; replace H := H.call hb; clear hb))
    | (go_at_call 21; ((with_reducible refine (cM _).mono ?_); rintro e w ⟨rfl, hb⟩; replace H := H.call hb; clear hb))
    | (go_at_call 22; ((with_reducible refine (cN _).mono ?_); rintro e w ⟨rfl, hb⟩; replace H := H.call hb; clear hb))
    | (go_at_call 23; ((with_reducible refine (cI _).mono ?_); rintro e w ⟨rfl, hb⟩; replace H := H.call hb; clear hb))
    | (go_at_call 24; ((with_reducible refine (cR _).mono ?_); rintro e w ⟨rfl, hb⟩; replace H := H.call hb; clear hb))
    | (go_at_call 25; ((with_reducible refine (cL _).mono ?_); rintro e w ⟨rfl, hb⟩; replace H := H.call hb; clear hb))
    | (go_at_call 26; ((with_reducible refine (cW _).mono ?_); rintro e w ⟨rfl, hb⟩; replace H := H.call hb; clear hb))
    | (go_at_call 27; ((with_reducible refine (cS _).mono ?_); rintro e w ⟨rfl, hb⟩; replace H := H.call hb; clear hb))
    )
  all_goals (refine bodyPost_ret (results_tctt rfl rfl (H.res rW v2_ v4_ (by rfl))) rfl ⟨?_, H.below⟩; exact rfl)) : P := h
theorem r19W_fit (f m a n : Nat) (x : Bool) (w : World) (cT : ∀ w, Calls Tryd.prog 20 #[.int .u8 f, BV a] w fun e w' => e = .returned (.bool false) ∧ Below w.heap.size w w')  :
    Calls Tryd.prog 9 #[.int .u8 f, .int .u8 m, BV a] w fun e w' => e = .returned (.tuple #[.bool false, W 0, .bool false, .int .i64 2]) ∧ Below w.heap.size w w' := by
  have H := Own.start w
  go_enter Tryd.func9, Tryd.ntmps9
  exact walk8
theorem r19W_mode (f m a n : Nat) (x : Bool) (w : World) (cT : ∀ w, Calls Tryd.prog 20 #[.int .u8 f, BV a] w fun e w' => e = .returned (.bool true) ∧ Below w.heap.size w w') (cM : ∀ w, Calls Tryd.prog 21 #[.int .u8 m] w fun e w' => e = .returned (.bool false) ∧ Below w.heap.size w w')  :
    Calls Tryd.prog 9 #[.int .u8 f, .int .u8 m, BV a] w fun e w' => e = .returned (.tuple #[.bool false, W 0, .bool false, .int .i64 2]) ∧ Below w.heap.size w w' := by
  have H := Own.start w
  go_enter Tryd.func9, Tryd.ntmps9
  exact walk8
theorem r19W_nan (f m a n : Nat) (x : Bool) (w : World) (cT : ∀ w, Calls Tryd.prog 20 #[.int .u8 f, BV a] w fun e w' => e = .returned (.bool true) ∧ Below w.heap.size w w') (cM : ∀ w, Calls Tryd.prog 21 #[.int .u8 m] w fun e w' => e = .returned (.bool true) ∧ Below w.heap.size w w') (cN : ∀ w, Calls Tryd.prog 22 #[.int .u8 f, BV a] w fun e w' => e = .returned (.bool true) ∧ Below w.heap.size w w')  :
    Calls Tryd.prog 9 #[.int .u8 f, .int .u8 m, BV a] w fun e w' => e = .returned (.tuple #[.bool false, W 0, .bool false, .int .i64 80]) ∧ Below w.heap.size w w' := by
  have H := Own.start w
  go_enter Tryd.func9, Tryd.ntmps9
  exact walk8
theorem r19W_inf (f m a n : Nat) (x : Bool) (w : World) (cT : ∀ w, Calls Tryd.prog 20 #[.int .u8 f, BV a] w fun e w' => e = .returned (.bool true) ∧ Below w.heap.size w w') (cM : ∀ w, Calls Tryd.prog 21 #[.int .u8 m] w fun e w' => e = .returned (.bool true) ∧ Below w.heap.size w w') (cN : ∀ w, Calls Tryd.prog 22 #[.int .u8 f, BV a] w fun e w' => e = .returned (.bool false) ∧ Below w.heap.size w w') (cI : ∀ w, Calls Tryd.prog 23 #[.int .u8 f, BV a] w fun e w' => e = .returned (.bool true) ∧ Below w.heap.size w w')  :
    Calls Tryd.prog 9 #[.int .u8 f, .int .u8 m, BV a] w fun e w' => e = .returned (.tuple #[.bool false, W 0, .bool false, .int .i64 80]) ∧ Below w.heap.size w w' := by
  have H := Own.start w
  go_enter Tryd.func9, Tryd.ntmps9
  exact walk8
theorem r19W_long (f m a n l : Nat) (x : Bool) (w : World) (cT : ∀ w, Calls Tryd.prog 20 #[.int .u8 f, BV a] w fun e w' => e = .returned (.bool true) ∧ Below w.heap.size w w') (cM : ∀ w, Calls Tryd.prog 21 #[.int .u8 m] w fun e w' => e = .returned (.bool true) ∧ Below w.heap.size w w') (cN : ∀ w, Calls Tryd.prog 22 #[.int .u8 f, BV a] w fun e w' => e = .returned (.bool false) ∧ Below w.heap.size w w') (cI : ∀ w, Calls Tryd.prog 23 #[.int .u8 f, BV a] w fun e w' => e = .returned (.bool false) ∧ Below w.heap.size w w') (cR : ∀ w, Calls Tryd.prog 24 #[.int .u8 f, .int .u8 m, BV a] w fun e w' => e = .returned (.tuple #[.string (strB n), .bool x]) ∧ Below w.heap.size w w') (cL : ∀ w, Calls Tryd.prog 25 #[.string (strB n)] w fun e w' => e = .returned (.int .i64 (l : Nat)) ∧ Below w.heap.size w w') (hl : 384 < (l : Int))  :
    Calls Tryd.prog 9 #[.int .u8 f, .int .u8 m, BV a] w fun e w' => e = .returned (.tuple #[.bool false, W 0, .bool false, .int .i64 4]) ∧ Below w.heap.size w w' := by
  have H := Own.start w
  go_enter Tryd.func9, Tryd.ntmps9
  exact walk8
theorem walk4 {P : Prop} (h : P := by
  go_wp2_with (first
    | ((with_reducible show wpList _ _ _ (⟨_, .box _ _, _, _, _, _⟩ :: _) _ _); refine H.box rfl rfl (cells_agg _) ?_; (intro g w H; simp only [Act.put, q1_, q2_, q3_]))
    | ((with_reducible show wpList _ _ _ (⟨_, .alloc 33, _, _, _, _⟩ :: _) _ _); refine H.mk0 rfl rW rfl ?_; (intro g w H; simp only [Act.put, q1_, q2_, q3_]))
    | ((with_reducible show wpList _ _ _ (⟨_, .load 27 _, _, _, _, _⟩ :: _) _ _); refine H.ld rfl rB rfl rfl v2_ v3_ (by rfl) ?_; simp only [Act.put, q1_, q2_, q3_])
    | ((with_reducible show wpList _ _ _ (⟨_, .load 33 _, _, _, _, _⟩ :: _) _ _); refine H.ld rfl rW rfl rfl v2_ v4_ (by rfl) ?_; simp only [Act.put, q1_, q2_, q3_])
    | ((with_reducible show wpList _ _ _ (⟨_, .store 33 _ _, _, _, _, _⟩ :: _) _ _); refine H.st rfl rW rfl rfl (cells_agg _) v6_ (set_limbsR _ _) (by rfl) (by exact one_of rfl) v15_ ?_; (intro w H; simp only [Act.put]))
    | ((with_reducible show Code.wp _ (.region 9 _ true) _ _ _); refine H.heldSub rfl (List.Sublist.cons_cons _ (List.Sublist.cons _ (List.Sublist.refl _))) ?_; intro H; refine H.takeRun v13_ 0 rfl (by kernel_rfl) (by kernel_rfl) (by kernel_rfl) (fun _ _ _ _ h => h) rfl v14_ ?_; (try simp only [Act.put, q1_, q2_, q3_]); (try simp only [q4_, q5_, q6_]); (first | refine H.tk v13_ 1 rfl (by kernel_rfl) (by kernel_rfl) (by kernel_rfl) (fun _ _ _ _ h => h) rfl rB rfl rfl v2_ v3_ (by rfl) ?_ | refine H.tk v13_ 1 rfl (by kernel_rfl) (by kernel_rfl) (by kernel_rfl) (fun _ _ _ _ h => h) rfl rW rfl rfl v2_ v4_ (by rfl) ?_); (try simp only [Act.put, q1_, q2_, q3_]); (try simp only [q4_, q5_, q6_]); (first | refine H.tk v13_ 7 rfl (by kernel_rfl) (by kernel_rfl) (by kernel_rfl) (fun _ _ _ _ h => h) rfl rB rfl rfl v2_ v3_ (by rfl) ?_ | refine H.tk v13_ 7 rfl (by kernel_rfl) (by kernel_rfl) (by kernel_rfl) (fun _ _ _ _ h => h) rfl rW rfl rfl v2_ v4_ (by rfl) ?_); (try simp only [Act.put, q1_, q2_, q3_]); (try simp only [q4_, q5_, q6_]); refine H.takeRun v13_ 8 rfl (by kernel_rfl) (by kernel_rfl) (by kernel_rfl) (fun _ _ _ _ h => h) rfl v14_ ?_; (try simp only [Act.put, q1_, q2_, q3_]); (try simp only [q4_, q5_, q6_]); refine held_one (i := 2) (by kernel_rfl) rfl rfl ?_; unfold Oper.wp; go_simp; (first | (go_at_call 20; ((with_reducible refine (cT _).mono ?_); rintro e w ⟨rfl, hb⟩; replace H := H.call hb; clear hb)) | (go_at_call 21; ((with_reducible refine (cM _).mono ?_); rintro e w ⟨rfl, hb⟩; replace H := H.call hb; clear hb)) | (go_at_call 22; ((with_reducible refine (cN _).mono ?_); rintro e w ⟨rfl, hb⟩; replace H := H.call hb; clear hb)) | (go_at_call 23; ((with_reducible refine (cI _).mono ?_); rintro e w ⟨rfl, hb⟩; replace H := H.call hb; clear hb)) | (go_at_call 24; ((with_reducible refine (cR _).mono ?_); rintro e w ⟨rfl, hb⟩; replace H := H.call hb; clear hb)) | (go_at_call 25; ((with_reducible refine (cL _).mono ?_); rintro e w ⟨rfl, hb⟩; replace H := H.call hb; clear hb)) | (go_at_call 26; ((with_reducible refine (cW _).mono ?_); rintro e w ⟨rfl, hb⟩; replace H := H.call hb; clear hb)) | (go_at_call 27; ((with_reducible refine (cS _).mono ?_); rintro e w ⟨rfl, hb⟩; replace H := H.call hb; clear hb))); refine H.next v13_ ?_; (try simp only [Act.put, q1_, q2_, q3_]); (try simp only [q4_, q5_, q6_]); refine H.takeRun v13_ 3 rfl (by kernel_rfl) (by kernel_rfl) (by kernel_rfl) (fun _ _ _ _ h => h) rfl v14_ ?_; (try simp only [Act.put, q1_, q2_, q3_]); (try simp only [q4_, q5_, q6_]); (first | refine H.takeRun v13_ 4 rfl (by kernel_rfl) (by kernel_rfl) (by kernel_rfl) (fun _ _ _ _ h => h) rfl v14_ ?_ | refine H.takeOff v13_ 4 rfl (by kernel_rfl) (by kernel_rfl) (by kernel_rfl) (fun _ _ _ _ h => h) rfl ?_); (try simp only [Act.put, q1_, q2_, q3_]); (try simp only [q4_, q5_, q6_]); (first | refine H.takeRun v13_ 5 rfl (by kernel_rfl) (by kernel_rfl) (by kernel_rfl) (fun _ _ _ _ h => h) rfl v14_ ?_ | refine H.takeOff v13_ 5 rfl (by kernel_rfl) (by kernel_rfl) (by kernel_rfl) (fun _ _ _ _ h => h) rfl ?_); (try simp only [Act.put, q1_, q2_, q3_]); (try simp only [q4_, q5_, q6_]); refine H.takeRun v13_ 6 rfl (by kernel_rfl) (by kernel_rfl) (by kernel_rfl) (fun _ _ _ _ h => h) rfl v14_ ?_; (try simp only [Act.put, q1_, q2_, q3_]); (try simp only [q4_, q5_, q6_]); refine H.takeRun v13_ 9 rfl (by kernel_rfl) (by kernel_rfl) (by kernel_rfl) (fun _ _ _ _ h => h) rfl v14_ ?_; (try simp only [Act.put, q1_, q2_, q3_]); (try simp only [q4_, q5_, q6_]); refine held_one (i := 10) (by kernel_rfl) rfl rfl ?_; refine H.ost rW rfl rfl (cells_agg _) v6_ (set_limbsR _ _) (by rfl) (by exact one_of rfl) v15_ ?_; intro w H; refine H.next v13_ ?_; (try simp only [Act.put]); refine H.takeRun v13_ 11 rfl (by kernel_rfl) (by kernel_rfl) (by kernel_rfl) (fun _ _ _ _ h => h) rfl v14_ ?_; (try simp only [Act.put, q1_, q2_, q3_]); (try simp only [q4_, q5_, q6_]); refine H.takeRun v13_ 12 rfl (by kernel_rfl) (by kernel_rfl) (by kernel_rfl) (fun _ _ _ _ h => h) rfl v14_ ?_; (try simp only [Act.put, q1_, q2_, q3_]); (try simp only [q4_, q5_, q6_]); refine wpAnyH_done (by kernel_rfl) ?_ _)
    | (go_at_call 20; ((with_reducible refine (cT _).mono ?_); rintro e w ⟨rfl, hb⟩; replace H := H.call hb; clear hb))
    | (go_at_call 21; ((with_reducible refine (cM _).mono ?_); rintro e w ⟨rfl, hb⟩; replace H := H.call hb; clear hb))
    | (go_at_call 22; ((with_reducible refine (cN _).mono ?_); rintro e w ⟨rfl, hb⟩; replace H := H.call hb; clear hb))
    | (go_at_call 23; ((with_reducible refine (cI _).mono ?_); rintro e w ⟨rfl, hb⟩; replace H := H.call hb; clear hb))
    | (go_at_call 24; ((with_reducible refine (cR _).mono ?_); rintro e w ⟨rfl, hb⟩; replace H := H.call hb; clear hb))
    | (go_at_call 25; ((with_reducible refine (cL _).mono ?_); rintro e w ⟨rfl, hb⟩; replace H := H.call hb; clear hb))
    | (go_at_call 26; ((with_reducible refine (cW _).mono ?_); rintro e w ⟨rfl, hb⟩; replace H := H.call hb; clear hb))
    | (go_at_call 27; ((with_reducible refine (cS _).mono ?_); rintro e w ⟨rfl, hb⟩; replace H := H.call hb; clear hb))
    )
  all_goals (refine bodyPost_ret (results_tctt rfl rfl (H.res rW v2_ v4_ (by rfl))) rfl ⟨?_, H.below⟩; exact rfl)) : P := h
theorem r19W_ok_tt (f m a n l : Nat) (x : Bool) (w : World) (cT : ∀ w, Calls Tryd.prog 20 #[.int .u8 f, BV a] w fun e w' => e = .returned (.bool true) ∧ Below w.heap.size w w') (cM : ∀ w, Calls Tryd.prog 21 #[.int .u8 m] w fun e w' => e = .returned (.bool true) ∧ Below w.heap.size w w') (cN : ∀ w, Calls Tryd.prog 22 #[.int .u8 f, BV a] w fun e w' => e = .returned (.bool false) ∧ Below w.heap.size w w') (cI : ∀ w, Calls Tryd.prog 23 #[.int .u8 f, BV a] w fun e w' => e = .returned (.bool false) ∧ Below w.heap.size w w') (cR : ∀ w, Calls Tryd.prog 24 #[.int .u8 f, .int .u8 m, BV a] w fun e w' => e = .returned (.tuple #[.string (strB n), .bool x]) ∧ Below w.heap.size w w') (cL : ∀ w, Calls Tryd.prog 25 #[.string (strB n)] w fun e w' => e = .returned (.int .i64 (l : Nat)) ∧ Below w.heap.size w w') (hl : (l : Int) ≤ 384) (n0 : (strB n).toList.isEmpty = false) (m0 : ¬ (strB n).toList = []) (cW : ∀ w, Calls Tryd.prog 26 #[.string (strB n)] w fun e w' => e = .returned (.tuple #[W n, .bool true]) ∧ Below w.heap.size w w') (cS : ∀ w, Calls Tryd.prog 27 #[.int .u8 f, BV a] w fun e w' => e = .returned (.bool true) ∧ Below w.heap.size w w')  :
    Calls Tryd.prog 9 #[.int .u8 f, .int .u8 m, BV a] w fun e w' => e = .returned (.tuple #[.bool true, W n, .bool x, .int .i64 0]) ∧ Below w.heap.size w w' := by
  have H := Own.start w
  go_enter Tryd.func9, Tryd.ntmps9
  exact walk4
theorem r19W_ok_tf (f m a n l : Nat) (x : Bool) (w : World) (cT : ∀ w, Calls Tryd.prog 20 #[.int .u8 f, BV a] w fun e w' => e = .returned (.bool true) ∧ Below w.heap.size w w') (cM : ∀ w, Calls Tryd.prog 21 #[.int .u8 m] w fun e w' => e = .returned (.bool true) ∧ Below w.heap.size w w') (cN : ∀ w, Calls Tryd.prog 22 #[.int .u8 f, BV a] w fun e w' => e = .returned (.bool false) ∧ Below w.heap.size w w') (cI : ∀ w, Calls Tryd.prog 23 #[.int .u8 f, BV a] w fun e w' => e = .returned (.bool false) ∧ Below w.heap.size w w') (cR : ∀ w, Calls Tryd.prog 24 #[.int .u8 f, .int .u8 m, BV a] w fun e w' => e = .returned (.tuple #[.string (strB n), .bool x]) ∧ Below w.heap.size w w') (cL : ∀ w, Calls Tryd.prog 25 #[.string (strB n)] w fun e w' => e = .returned (.int .i64 (l : Nat)) ∧ Below w.heap.size w w') (hl : (l : Int) ≤ 384) (n0 : (strB n).toList.isEmpty = true) (m0 : (strB n).toList = []) (cW : ∀ w, Calls Tryd.prog 26 #[.string (strB n)] w fun e w' => e = .returned (.tuple #[W n, .bool true]) ∧ Below w.heap.size w w') (cS : ∀ w, Calls Tryd.prog 27 #[.int .u8 f, BV a] w fun e w' => e = .returned (.bool true) ∧ Below w.heap.size w w')  :
    Calls Tryd.prog 9 #[.int .u8 f, .int .u8 m, BV a] w fun e w' => e = .returned (.tuple #[.bool false, W n, .bool x, .int .i64 0]) ∧ Below w.heap.size w w' := by
  have H := Own.start w
  go_enter Tryd.func9, Tryd.ntmps9
  exact walk4
theorem r19W_ok_fx (f m a n l : Nat) (x : Bool) (w : World) (cT : ∀ w, Calls Tryd.prog 20 #[.int .u8 f, BV a] w fun e w' => e = .returned (.bool true) ∧ Below w.heap.size w w') (cM : ∀ w, Calls Tryd.prog 21 #[.int .u8 m] w fun e w' => e = .returned (.bool true) ∧ Below w.heap.size w w') (cN : ∀ w, Calls Tryd.prog 22 #[.int .u8 f, BV a] w fun e w' => e = .returned (.bool false) ∧ Below w.heap.size w w') (cI : ∀ w, Calls Tryd.prog 23 #[.int .u8 f, BV a] w fun e w' => e = .returned (.bool false) ∧ Below w.heap.size w w') (cR : ∀ w, Calls Tryd.prog 24 #[.int .u8 f, .int .u8 m, BV a] w fun e w' => e = .returned (.tuple #[.string (strB n), .bool x]) ∧ Below w.heap.size w w') (cL : ∀ w, Calls Tryd.prog 25 #[.string (strB n)] w fun e w' => e = .returned (.int .i64 (l : Nat)) ∧ Below w.heap.size w w') (hl : (l : Int) ≤ 384) (cW : ∀ w, Calls Tryd.prog 26 #[.string (strB n)] w fun e w' => e = .returned (.tuple #[W n, .bool true]) ∧ Below w.heap.size w w') (cS : ∀ w, Calls Tryd.prog 27 #[.int .u8 f, BV a] w fun e w' => e = .returned (.bool false) ∧ Below w.heap.size w w')  :
    Calls Tryd.prog 9 #[.int .u8 f, .int .u8 m, BV a] w fun e w' => e = .returned (.tuple #[.bool false, W n, .bool x, .int .i64 0]) ∧ Below w.heap.size w w' := by
  have H := Own.start w
  go_enter Tryd.func9, Tryd.ntmps9
  exact walk4
open Go.RowKit
set_option maxHeartbeats 3200000 in
theorem kindUnpack_0 (f b e t p : Nat) (neg : Bool) (w : World) (hT : Tab w)
    (cT : ∀ w, Calls Tryd.prog 29 #[.int .u8 f, BV b] w fun e' w' => e' = .returned (.bool true) ∧ Below w.heap.size w w')
    (cP : ∀ w, Calls Tryd.prog 30 #[.int .u8 f] w fun e' w' => e' = .returned (.int .i64 (p : Nat)) ∧ Below w.heap.size w w')
    (cF : ∀ w, Tab w → Calls Tryd.prog 31 #[.int .u8 f, BV b] w fun e' w' => e' = .returned (.tuple #[.bool neg, .int .i64 (e : Nat), W t]) ∧ Below w.heap.size w w')
    (cC : ∀ w, Tab w → Calls Tryd.prog 32 #[.int .u8 f, BV b] w fun e' w' => e' = .returned (.int .u8 0) ∧ Below w.heap.size w w') :
    Calls Tryd.prog 13 #[.int .u8 f, BV b] w fun e' w' => e' = .returned (.tuple #[PV 0 0 0 0, .int .i64 0]) ∧ Below w.heap.size w w' := by
  have HT := Lib.hid hT
  clear hT
  go_enter Tryd.func13, Tryd.ntmps13
  go_wp2_with fail
  refine (cT _).mono ?_
  rintro e' w1 ⟨rfl, hb1⟩
  go_wp2_with fail
  refine (cP _).mono ?_
  rintro e' w2 ⟨rfl, hb2⟩
  have b4 : Blk 45 w2 (w.heap.size + 1) (parts 0 0 0 0) := by
    rw [parts_zero]
    have := (Blk.new (T := 45) (w.alloc (.cells #[.int .u64 (limb b 1), .int .u64 (limb b 0)] 27 (0, 0))) #[.int .u8 0, .int .u64 0, .int .u64 0, .int .u64 0, .int .u64 0, .int .u64 0, .int .u64 0, .int .i64 0, .int .u64 0, .int .u64 0, .int .u64 0, .int .u64 0, .int .u64 0, .int .u64 0]).below hb1 (by simp)
    have := this.below hb2 this.lt
    simpa using this
  have b3 : Blk 27 w2 w.heap.size #[.int .u64 (limb b 1), .int .u64 (limb b 0)] := by
    have h1 := ((Blk.new (T := 27) w #[.int .u64 (limb b 1), .int .u64 (limb b 0)]).alloc (.cells #[.int .u8 0, .int .u64 0, .int .u64 0, .int .u64 0, .int .u64 0, .int .u64 0, .int .u64 0, .int .i64 0, .int .u64 0, .int .u64 0, .int .u64 0, .int .u64 0, .int .u64 0, .int .u64 0] 45 (0, 0))).below hb1 (by simp <;> omega)
    exact h1.below hb2 h1.lt
  have hw2 := ((((Below.refl w.heap.size w).alloc (Nat.le_refl _) (.cells #[.int .u64 (limb b 1), .int .u64 (limb b 0)] 27 (0, 0))).alloc (by simp) (.cells #[.int .u8 0, .int .u64 0, .int .u64 0, .int .u64 0, .int .u64 0, .int .u64 0, .int .u64 0, .int .i64 0, .int .u64 0, .int .u64 0, .int .u64 0, .int .u64 0, .int .u64 0, .int .u64 0] 45 (0, 0))).trans (hb1.mono (by simp <;> omega))).trans (hb2.mono v17_)
  clear hb1 hb2
  have g0 := b3.cell 0 rfl
  have g1 := b3.cell 1 rfl
  go_wp2_with fail
  refine (cF _ (HT.out.below hw2)).mono ?_
  rintro e' w3 ⟨rfl, hb3⟩
  replace hw2 := (hw2.trans (hb3.mono (Nat.le_of_lt b3.lt))).alloc v18_ (.cells (limbs t) 33 (0, 0))
  replace b4 := (b4.below hb3 b4.lt).alloc (.cells (limbs t) 33 (0, 0))
  replace b3 := (b3.below hb3 b3.lt).alloc (.cells (limbs t) 33 (0, 0))
  have b9 := Blk.new (T := 33) w3 (limbs t)
  clear g0 g1 hb3
  go_upto_region 5 with (fail)
  change Code.wp _ _ _ _ (w3.alloc (.cells (limbs t) 33 (0, 0)))
  generalize w3.alloc (.cells (limbs t) 33 (0, 0)) = v at *
  have g0 := b3.cell 0 rfl
  have g1 := b3.cell 1 rfl
  go_wp2_with fail
  refine (cC _ (HT.out.below hw2)).mono ?_
  rintro e' w4 ⟨rfl, hb4⟩
  replace hw2 := (hw2.trans (hb4.mono (Nat.le_of_lt b3.lt))).alloc v19_ (.cells (parts 0 0 0 0) 45 (0, 0))
  replace b4 := (b4.below hb4 b4.lt).alloc (.cells (parts 0 0 0 0) 45 (0, 0))
  replace b9 := (b9.below hb4 b9.lt).alloc (.cells (parts 0 0 0 0) 45 (0, 0))
  have b10 := Blk.new (T := 45) w4 (parts 0 0 0 0)
  clear g0 g1 hb4 b3
  go_upto_region 6 with (fail)
  rw [← show parts 0 0 0 0 = #[.int .u8 0, .int .u64 0, .int .u64 0, .int .u64 0, .int .u64 0, .int .u64 0, .int .u64 0, .int .i64 0, .int .u64 0, .int .u64 0, .int .u64 0, .int .u64 0, .int .u64 0, .int .u64 0] from parts_zero 0]
  generalize w4.alloc (.cells (parts 0 0 0 0) 45 (0, 0)) = v at *
  obtain ⟨d0, d1, d2, d3, d4, d5, d6, d7, d8, d9, d10, d11, d12, d13⟩ := b10.p14
  obtain ⟨c0, c1, c2, c3, c4, c5, c6, c7, c8, c9, c10, c11, c12, c13⟩ := b4.p14
  obtain ⟨n0, n1, n2, n3, n4, n5, n6, n7, n8, n9, n10, n11, n12, n13⟩ := b4.free14
  simp only [limb_zero] at d0 d1 d2 d3 d4 d5 d6 d7 d8 d9 d10 d11 d12 d13 c0 c1 c2 c3 c4 c5 c6 c7 c8 c9 c10 c11 c12 c13
  replace d0 : v.cell? ⟨w4.heap.size, 0, none⟩ = some (.int .u8 0) := d0
  replace c0 : v.cell? ⟨w.heap.size + 1, 0, none⟩ = some (.int .u8 0) := c0
  clear b10 b9 cT cP cF cC
  have HW := Lib.hid hw2
  clear hw2
  go_wp2_with fail
  have hb := below_put14 HW.out (by omega : w.heap.size ≤ w.heap.size + 1) 0 0 0 0
  unfold put14 at hb
  simp only [limb_zero] at hb
  replace hb := hb
  exact bodyPost_ret (v := .tuple #[PV 0 0 0 0, .int .i64 0]) v20_ rfl ⟨rfl, hb⟩
set_option maxHeartbeats 3200000 in
theorem kindUnpack_3 (f b e t p : Nat) (neg : Bool) (w : World) (hT : Tab w)
    (cT : ∀ w, Calls Tryd.prog 29 #[.int .u8 f, BV b] w fun e' w' => e' = .returned (.bool true) ∧ Below w.heap.size w w')
    (cP : ∀ w, Calls Tryd.prog 30 #[.int .u8 f] w fun e' w' => e' = .returned (.int .i64 (p : Nat)) ∧ Below w.heap.size w w')
    (cF : ∀ w, Tab w → Calls Tryd.prog 31 #[.int .u8 f, BV b] w fun e' w' => e' = .returned (.tuple #[.bool neg, .int .i64 (e : Nat), W t]) ∧ Below w.heap.size w w')
    (cC : ∀ w, Tab w → Calls Tryd.prog 32 #[.int .u8 f, BV b] w fun e' w' => e' = .returned (.int .u8 3) ∧ Below w.heap.size w w') :
    Calls Tryd.prog 13 #[.int .u8 f, BV b] w fun e' w' => e' = .returned (.tuple #[PV 3 0 0 0, .int .i64 0]) ∧ Below w.heap.size w w' := by
  have HT := Lib.hid hT
  clear hT
  go_enter Tryd.func13, Tryd.ntmps13
  go_wp2_with fail
  refine (cT _).mono ?_
  rintro e' w1 ⟨rfl, hb1⟩
  go_wp2_with fail
  refine (cP _).mono ?_
  rintro e' w2 ⟨rfl, hb2⟩
  have b4 : Blk 45 w2 (w.heap.size + 1) (parts 0 0 0 0) := by
    rw [parts_zero]
    have := (Blk.new (T := 45) (w.alloc (.cells #[.int .u64 (limb b 1), .int .u64 (limb b 0)] 27 (0, 0))) #[.int .u8 0, .int .u64 0, .int .u64 0, .int .u64 0, .int .u64 0, .int .u64 0, .int .u64 0, .int .i64 0, .int .u64 0, .int .u64 0, .int .u64 0, .int .u64 0, .int .u64 0, .int .u64 0]).below hb1 (by simp)
    have := this.below hb2 this.lt
    simpa using this
  have b3 : Blk 27 w2 w.heap.size #[.int .u64 (limb b 1), .int .u64 (limb b 0)] := by
    have h1 := ((Blk.new (T := 27) w #[.int .u64 (limb b 1), .int .u64 (limb b 0)]).alloc (.cells #[.int .u8 0, .int .u64 0, .int .u64 0, .int .u64 0, .int .u64 0, .int .u64 0, .int .u64 0, .int .i64 0, .int .u64 0, .int .u64 0, .int .u64 0, .int .u64 0, .int .u64 0, .int .u64 0] 45 (0, 0))).below hb1 (by simp <;> omega)
    exact h1.below hb2 h1.lt
  have hw2 := ((((Below.refl w.heap.size w).alloc (Nat.le_refl _) (.cells #[.int .u64 (limb b 1), .int .u64 (limb b 0)] 27 (0, 0))).alloc (by simp) (.cells #[.int .u8 0, .int .u64 0, .int .u64 0, .int .u64 0, .int .u64 0, .int .u64 0, .int .u64 0, .int .i64 0, .int .u64 0, .int .u64 0, .int .u64 0, .int .u64 0, .int .u64 0, .int .u64 0] 45 (0, 0))).trans (hb1.mono (by simp <;> omega))).trans (hb2.mono v17_)
  clear hb1 hb2
  have g0 := b3.cell 0 rfl
  have g1 := b3.cell 1 rfl
  go_wp2_with fail
  refine (cF _ (HT.out.below hw2)).mono ?_
  rintro e' w3 ⟨rfl, hb3⟩
  replace hw2 := (hw2.trans (hb3.mono (Nat.le_of_lt b3.lt))).alloc v18_ (.cells (limbs t) 33 (0, 0))
  replace b4 := (b4.below hb3 b4.lt).alloc (.cells (limbs t) 33 (0, 0))
  replace b3 := (b3.below hb3 b3.lt).alloc (.cells (limbs t) 33 (0, 0))
  have b9 := Blk.new (T := 33) w3 (limbs t)
  clear g0 g1 hb3
  go_upto_region 5 with (fail)
  change Code.wp _ _ _ _ (w3.alloc (.cells (limbs t) 33 (0, 0)))
  generalize w3.alloc (.cells (limbs t) 33 (0, 0)) = v at *
  have g0 := b3.cell 0 rfl
  have g1 := b3.cell 1 rfl
  go_wp2_with fail
  refine (cC _ (HT.out.below hw2)).mono ?_
  rintro e' w4 ⟨rfl, hb4⟩
  replace hw2 := (hw2.trans (hb4.mono (Nat.le_of_lt b3.lt))).alloc v19_ (.cells (parts 3 0 0 0) 45 (0, 0))
  replace b4 := (b4.below hb4 b4.lt).alloc (.cells (parts 3 0 0 0) 45 (0, 0))
  replace b9 := (b9.below hb4 b9.lt).alloc (.cells (parts 3 0 0 0) 45 (0, 0))
  have b10 := Blk.new (T := 45) w4 (parts 3 0 0 0)
  clear g0 g1 hb4 b3
  go_upto_region 6 with (fail)
  rw [← show parts 3 0 0 0 = #[.int .u8 3, .int .u64 0, .int .u64 0, .int .u64 0, .int .u64 0, .int .u64 0, .int .u64 0, .int .i64 0, .int .u64 0, .int .u64 0, .int .u64 0, .int .u64 0, .int .u64 0, .int .u64 0] from parts_zero 3]
  generalize w4.alloc (.cells (parts 3 0 0 0) 45 (0, 0)) = v at *
  obtain ⟨d0, d1, d2, d3, d4, d5, d6, d7, d8, d9, d10, d11, d12, d13⟩ := b10.p14
  obtain ⟨c0, c1, c2, c3, c4, c5, c6, c7, c8, c9, c10, c11, c12, c13⟩ := b4.p14
  obtain ⟨n0, n1, n2, n3, n4, n5, n6, n7, n8, n9, n10, n11, n12, n13⟩ := b4.free14
  simp only [limb_zero] at d0 d1 d2 d3 d4 d5 d6 d7 d8 d9 d10 d11 d12 d13 c0 c1 c2 c3 c4 c5 c6 c7 c8 c9 c10 c11 c12 c13
  replace d0 : v.cell? ⟨w4.heap.size, 0, none⟩ = some (.int .u8 3) := d0
  replace c0 : v.cell? ⟨w.heap.size + 1, 0, none⟩ = some (.int .u8 0) := c0
  clear b10 b9 cT cP cF cC
  have HW := Lib.hid hw2
  clear hw2
  go_wp2_with fail
  have hb := below_put14 HW.out (by omega : w.heap.size ≤ w.heap.size + 1) 3 0 0 0
  unfold put14 at hb
  simp only [limb_zero] at hb
  replace hb := hb
  exact bodyPost_ret (v := .tuple #[PV 3 0 0 0, .int .i64 0]) v20_ rfl ⟨rfl, hb⟩
set_option maxHeartbeats 3200000 in
theorem kindUnpack_4 (f b e t p : Nat) (neg : Bool) (w : World) (hT : Tab w)
    (cT : ∀ w, Calls Tryd.prog 29 #[.int .u8 f, BV b] w fun e' w' => e' = .returned (.bool true) ∧ Below w.heap.size w w')
    (cP : ∀ w, Calls Tryd.prog 30 #[.int .u8 f] w fun e' w' => e' = .returned (.int .i64 (p : Nat)) ∧ Below w.heap.size w w')
    (cF : ∀ w, Tab w → Calls Tryd.prog 31 #[.int .u8 f, BV b] w fun e' w' => e' = .returned (.tuple #[.bool neg, .int .i64 (e : Nat), W t]) ∧ Below w.heap.size w w')
    (cC : ∀ w, Tab w → Calls Tryd.prog 32 #[.int .u8 f, BV b] w fun e' w' => e' = .returned (.int .u8 4) ∧ Below w.heap.size w w') :
    Calls Tryd.prog 13 #[.int .u8 f, BV b] w fun e' w' => e' = .returned (.tuple #[PV 4 0 0 0, .int .i64 0]) ∧ Below w.heap.size w w' := by
  have HT := Lib.hid hT
  clear hT
  go_enter Tryd.func13, Tryd.ntmps13
  go_wp2_with fail
  refine (cT _).mono ?_
  rintro e' w1 ⟨rfl, hb1⟩
  go_wp2_with fail
  refine (cP _).mono ?_
  rintro e' w2 ⟨rfl, hb2⟩
  have b4 : Blk 45 w2 (w.heap.size + 1) (parts 0 0 0 0) := by
    rw [parts_zero]
    have := (Blk.new (T := 45) (w.alloc (.cells #[.int .u64 (limb b 1), .int .u64 (limb b 0)] 27 (0, 0))) #[.int .u8 0, .int .u64 0, .int .u64 0, .int .u64 0, .int .u64 0, .int .u64 0, .int .u64 0, .int .i64 0, .int .u64 0, .int .u64 0, .int .u64 0, .int .u64 0, .int .u64 0, .int .u64 0]).below hb1 (by simp)
    have := this.below hb2 this.lt
    simpa using this
  have b3 : Blk 27 w2 w.heap.size #[.int .u64 (limb b 1), .int .u64 (limb b 0)] := by
    have h1 := ((Blk.new (T := 27) w #[.int .u64 (limb b 1), .int .u64 (limb b 0)]).alloc (.cells #[.int .u8 0, .int .u64 0, .int .u64 0, .int .u64 0, .int .u64 0, .int .u64 0, .int .u64 0, .int .i64 0, .int .u64 0, .int .u64 0, .int .u64 0, .int .u64 0, .int .u64 0, .int .u64 0] 45 (0, 0))).below hb1 (by simp <;> omega)
    exact h1.below hb2 h1.lt
  have hw2 := ((((Below.refl w.heap.size w).alloc (Nat.le_refl _) (.cells #[.int .u64 (limb b 1), .int .u64 (limb b 0)] 27 (0, 0))).alloc (by simp) (.cells #[.int .u8 0, .int .u64 0, .int .u64 0, .int .u64 0, .int .u64 0, .int .u64 0, .int .u64 0, .int .i64 0, .int .u64 0, .int .u64 0, .int .u64 0, .int .u64 0, .int .u64 0, .int .u64 0] 45 (0, 0))).trans (hb1.mono (by simp <;> omega))).trans (hb2.mono v17_)
  clear hb1 hb2
  have g0 := b3.cell 0 rfl
  have g1 := b3.cell 1 rfl
  go_wp2_with fail
  refine (cF _ (HT.out.below hw2)).mono ?_
  rintro e' w3 ⟨rfl, hb3⟩
  replace hw2 := (hw2.trans (hb3.mono (Nat.le_of_lt b3.lt))).alloc v18_ (.cells (limbs t) 33 (0, 0))
  replace b4 := (b4.below hb3 b4.lt).alloc (.cells (limbs t) 33 (0, 0))
  replace b3 := (b3.below hb3 b3.lt).alloc (.cells (limbs t) 33 (0, 0))
  have b9 := Blk.new (T := 33) w3 (limbs t)
  clear g0 g1 hb3
  go_upto_region 5 with (fail)
  change Code.wp _ _ _ _ (w3.alloc (.cells (limbs t) 33 (0, 0)))
  generalize w3.alloc (.cells (limbs t) 33 (0, 0)) = v at *
  have g0 := b3.cell 0 rfl
  have g1 := b3.cell 1 rfl
  go_wp2_with fail
  refine (cC _ (HT.out.below hw2)).mono ?_
  rintro e' w4 ⟨rfl, hb4⟩
  replace hw2 := (hw2.trans (hb4.mono (Nat.le_of_lt b3.lt))).alloc v19_ (.cells (parts 4 0 0 0) 45 (0, 0))
  replace b4 := (b4.below hb4 b4.lt).alloc (.cells (parts 4 0 0 0) 45 (0, 0))
  replace b9 := (b9.below hb4 b9.lt).alloc (.cells (parts 4 0 0 0) 45 (0, 0))
  have b10 := Blk.new (T := 45) w4 (parts 4 0 0 0)
  clear g0 g1 hb4 b3
  go_upto_region 6 with (fail)
  rw [← show parts 4 0 0 0 = #[.int .u8 4, .int .u64 0, .int .u64 0, .int .u64 0, .int .u64 0, .int .u64 0, .int .u64 0, .int .i64 0, .int .u64 0, .int .u64 0, .int .u64 0, .int .u64 0, .int .u64 0, .int .u64 0] from parts_zero 4]
  generalize w4.alloc (.cells (parts 4 0 0 0) 45 (0, 0)) = v at *
  obtain ⟨d0, d1, d2, d3, d4, d5, d6, d7, d8, d9, d10, d11, d12, d13⟩ := b10.p14
  obtain ⟨c0, c1, c2, c3, c4, c5, c6, c7, c8, c9, c10, c11, c12, c13⟩ := b4.p14
  obtain ⟨n0, n1, n2, n3, n4, n5, n6, n7, n8, n9, n10, n11, n12, n13⟩ := b4.free14
  simp only [limb_zero] at d0 d1 d2 d3 d4 d5 d6 d7 d8 d9 d10 d11 d12 d13 c0 c1 c2 c3 c4 c5 c6 c7 c8 c9 c10 c11 c12 c13
  replace d0 : v.cell? ⟨w4.heap.size, 0, none⟩ = some (.int .u8 4) := d0
  replace c0 : v.cell? ⟨w.heap.size + 1, 0, none⟩ = some (.int .u8 0) := c0
  clear b10 b9 cT cP cF cC
  have HW := Lib.hid hw2
  clear hw2
  go_wp2_with fail
  have hb := below_put14 HW.out (by omega : w.heap.size ≤ w.heap.size + 1) 4 0 0 0
  unfold put14 at hb
  simp only [limb_zero] at hb
  replace hb := hb
  exact bodyPost_ret (v := .tuple #[PV 4 0 0 0, .int .i64 0]) v20_ rfl ⟨rfl, hb⟩
set_option maxHeartbeats 3200000 in
theorem kindUnpack_7 (f b e t p : Nat) (neg : Bool) (w : World) (hT : Tab w)
    (cT : ∀ w, Calls Tryd.prog 29 #[.int .u8 f, BV b] w fun e' w' => e' = .returned (.bool true) ∧ Below w.heap.size w w')
    (cP : ∀ w, Calls Tryd.prog 30 #[.int .u8 f] w fun e' w' => e' = .returned (.int .i64 (p : Nat)) ∧ Below w.heap.size w w')
    (cF : ∀ w, Tab w → Calls Tryd.prog 31 #[.int .u8 f, BV b] w fun e' w' => e' = .returned (.tuple #[.bool neg, .int .i64 (e : Nat), W t]) ∧ Below w.heap.size w w')
    (cC : ∀ w, Tab w → Calls Tryd.prog 32 #[.int .u8 f, BV b] w fun e' w' => e' = .returned (.int .u8 7) ∧ Below w.heap.size w w') :
    Calls Tryd.prog 13 #[.int .u8 f, BV b] w fun e' w' => e' = .returned (.tuple #[PV 7 0 0 0, .int .i64 0]) ∧ Below w.heap.size w w' := by
  have HT := Lib.hid hT
  clear hT
  go_enter Tryd.func13, Tryd.ntmps13
  go_wp2_with fail
  refine (cT _).mono ?_
  rintro e' w1 ⟨rfl, hb1⟩
  go_wp2_with fail
  refine (cP _).mono ?_
  rintro e' w2 ⟨rfl, hb2⟩
  have b4 : Blk 45 w2 (w.heap.size + 1) (parts 0 0 0 0) := by
    rw [parts_zero]
    have := (Blk.new (T := 45) (w.alloc (.cells #[.int .u64 (limb b 1), .int .u64 (limb b 0)] 27 (0, 0))) #[.int .u8 0, .int .u64 0, .int .u64 0, .int .u64 0, .int .u64 0, .int .u64 0, .int .u64 0, .int .i64 0, .int .u64 0, .int .u64 0, .int .u64 0, .int .u64 0, .int .u64 0, .int .u64 0]).below hb1 (by simp)
    have := this.below hb2 this.lt
    simpa using this
  have b3 : Blk 27 w2 w.heap.size #[.int .u64 (limb b 1), .int .u64 (limb b 0)] := by
    have h1 := ((Blk.new (T := 27) w #[.int .u64 (limb b 1), .int .u64 (limb b 0)]).alloc (.cells #[.int .u8 0, .int .u64 0, .int .u64 0, .int .u64 0, .int .u64 0, .int .u64 0, .int .u64 0, .int .i64 0, .int .u64 0, .int .u64 0, .int .u64 0, .int .u64 0, .int .u64 0, .int .u64 0] 45 (0, 0))).below hb1 (by simp <;> omega)
    exact h1.below hb2 h1.lt
  have hw2 := ((((Below.refl w.heap.size w).alloc (Nat.le_refl _) (.cells #[.int .u64 (limb b 1), .int .u64 (limb b 0)] 27 (0, 0))).alloc (by simp) (.cells #[.int .u8 0, .int .u64 0, .int .u64 0, .int .u64 0, .int .u64 0, .int .u64 0, .int .u64 0, .int .i64 0, .int .u64 0, .int .u64 0, .int .u64 0, .int .u64 0, .int .u64 0, .int .u64 0] 45 (0, 0))).trans (hb1.mono (by simp <;> omega))).trans (hb2.mono v17_)
  clear hb1 hb2
  have g0 := b3.cell 0 rfl
  have g1 := b3.cell 1 rfl
  go_wp2_with fail
  refine (cF _ (HT.out.below hw2)).mono ?_
  rintro e' w3 ⟨rfl, hb3⟩
  replace hw2 := (hw2.trans (hb3.mono (Nat.le_of_lt b3.lt))).alloc v18_ (.cells (limbs t) 33 (0, 0))
  replace b4 := (b4.below hb3 b4.lt).alloc (.cells (limbs t) 33 (0, 0))
  replace b3 := (b3.below hb3 b3.lt).alloc (.cells (limbs t) 33 (0, 0))
  have b9 := Blk.new (T := 33) w3 (limbs t)
  clear g0 g1 hb3
  go_upto_region 5 with (fail)
  change Code.wp _ _ _ _ (w3.alloc (.cells (limbs t) 33 (0, 0)))
  generalize w3.alloc (.cells (limbs t) 33 (0, 0)) = v at *
  have g0 := b3.cell 0 rfl
  have g1 := b3.cell 1 rfl
  go_wp2_with fail
  refine (cC _ (HT.out.below hw2)).mono ?_
  rintro e' w4 ⟨rfl, hb4⟩
  replace hw2 := (hw2.trans (hb4.mono (Nat.le_of_lt b3.lt))).alloc v19_ (.cells (parts 7 0 0 0) 45 (0, 0))
  replace b4 := (b4.below hb4 b4.lt).alloc (.cells (parts 7 0 0 0) 45 (0, 0))
  replace b9 := (b9.below hb4 b9.lt).alloc (.cells (parts 7 0 0 0) 45 (0, 0))
  have b10 := Blk.new (T := 45) w4 (parts 7 0 0 0)
  clear g0 g1 hb4 b3
  go_upto_region 6 with (fail)
  rw [← show parts 7 0 0 0 = #[.int .u8 7, .int .u64 0, .int .u64 0, .int .u64 0, .int .u64 0, .int .u64 0, .int .u64 0, .int .i64 0, .int .u64 0, .int .u64 0, .int .u64 0, .int .u64 0, .int .u64 0, .int .u64 0] from parts_zero 7]
  generalize w4.alloc (.cells (parts 7 0 0 0) 45 (0, 0)) = v at *
  obtain ⟨d0, d1, d2, d3, d4, d5, d6, d7, d8, d9, d10, d11, d12, d13⟩ := b10.p14
  obtain ⟨c0, c1, c2, c3, c4, c5, c6, c7, c8, c9, c10, c11, c12, c13⟩ := b4.p14
  obtain ⟨n0, n1, n2, n3, n4, n5, n6, n7, n8, n9, n10, n11, n12, n13⟩ := b4.free14
  simp only [limb_zero] at d0 d1 d2 d3 d4 d5 d6 d7 d8 d9 d10 d11 d12 d13 c0 c1 c2 c3 c4 c5 c6 c7 c8 c9 c10 c11 c12 c13
  replace d0 : v.cell? ⟨w4.heap.size, 0, none⟩ = some (.int .u8 7) := d0
  replace c0 : v.cell? ⟨w.heap.size + 1, 0, none⟩ = some (.int .u8 0) := c0
  clear b10 b9 cT cP cF cC
  have HW := Lib.hid hw2
  clear hw2
  go_wp2_with fail
  have hb := below_put14 HW.out (by omega : w.heap.size ≤ w.heap.size + 1) 7 0 0 0
  unfold put14 at hb
  simp only [limb_zero] at hb
  replace hb := hb
  exact bodyPost_ret (v := .tuple #[PV 7 0 0 0, .int .i64 0]) v20_ rfl ⟨rfl, hb⟩
end Go.Proofs.YtecdpjhifmlahaaDoor
