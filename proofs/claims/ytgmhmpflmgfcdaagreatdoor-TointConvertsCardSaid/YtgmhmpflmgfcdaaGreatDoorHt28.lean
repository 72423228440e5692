/- Part 28 of what is proved: E6, E6j, Fin, Ev, Et, R19, Pa, Fin2, R10, R19j, Rxt, Fd, R7b, Rd, Unq, Unp7, Grd, Pck. -/
import Derived.Outline
import Derived.Test.YtgmhmpflmgfcdaaGreatDoorHt1
import Derived.Test.YtgmhmpflmgfcdaaGreatDoorHt2
import Derived.Test.YtgmhmpflmgfcdaaGreatDoorHt3
import Derived.Test.YtgmhmpflmgfcdaaGreatDoorHt4
import Derived.Test.YtgmhmpflmgfcdaaGreatDoorHt5
import Derived.Test.YtgmhmpflmgfcdaaGreatDoorHt6
import Derived.Test.YtgmhmpflmgfcdaaGreatDoorHt27
set_option linter.unusedSimpArgs false
set_option linter.unusedVariables false
set_option linter.unnecessarySimpa false
set_option maxRecDepth 100000
set_option maxHeartbeats 1600000
namespace Go.Proofs.YtgmhmpflmgfcdaaGreatDoor
open Go.RowKit
def exAt : Array (Nat × Nat) := #[(0, 1), (1, 1), (2, 1), (3, 1)]
theorem places_ex (w : World) : ∃ fs, Tryz.prog.underlying 87 = some (.struct fs) ∧ (fs.mapM fun f => do pure (f.offset, ← sizeOf f.type) : Sem (Array (Nat × Nat))).run Tryz.prog w = .ok exAt w := by
  refine ⟨_, Tryz.underlying87, ?_⟩
  unfold exAt
  go_simp
theorem ex_s0 (neg : Bool) (n d : ByteArray) (e : Int) (x : Bool) (rest : List (Nat × Value)) : Instr.fill (exAt[·]?) (exC neg n d e) ((0, .bool x) :: rest) = Instr.fill (exAt[·]?) (exC x n d e) rest := fill_step _ _ 0 0 1 _ _ rfl rfl (show 0 + 1 ≤ 4 by decide)
theorem ex_s1 (neg : Bool) (n d : ByteArray) (e : Int) (x : ByteArray) (rest : List (Nat × Value)) : Instr.fill (exAt[·]?) (exC neg n d e) ((1, .string x) :: rest) = Instr.fill (exAt[·]?) (exC neg x d e) rest := fill_step _ _ 1 1 1 _ _ rfl rfl (show 1 + 1 ≤ 4 by decide)
theorem ex_s2 (neg : Bool) (n d : ByteArray) (e : Int) (x : ByteArray) (rest : List (Nat × Value)) : Instr.fill (exAt[·]?) (exC neg n d e) ((2, .string x) :: rest) = Instr.fill (exAt[·]?) (exC neg n x e) rest := fill_step _ _ 2 2 1 _ _ rfl rfl (show 2 + 1 ≤ 4 by decide)
theorem ex_s3 (neg : Bool) (n d : ByteArray) (e x : Int) (rest : List (Nat × Value)) : Instr.fill (exAt[·]?) (exC neg n d e) ((3, .int .i64 x) :: rest) = Instr.fill (exAt[·]?) (exC neg n d x) rest := fill_step _ _ 3 3 1 _ _ rfl rfl (show 3 + 1 ≤ 4 by decide)
theorem ex_mk (neg : Bool) (n d : ByteArray) (e : Int) (w : World) : (Instr.build 87 #[(0, .bool neg), (1, .string n), (2, .string d), (3, .int .i64 e)]).run Tryz.prog w = .ok (.agg (exC neg n d e)) w := by
  obtain ⟨fs, hu, hp⟩ := places_ex w
  exact run_build rEx hu hp _ _ (by show Instr.fill _ _ [_, _, _, _] = _; rw [ex_s0, ex_s1, ex_s2, ex_s3]; rfl)
theorem ex_den (d : ByteArray) (w : World) : (Instr.build 87 #[(2, .string d)]).run Tryz.prog w = .ok (.agg (exC false ⟨#[]⟩ d 0)) w := by
  obtain ⟨fs, hu, hp⟩ := places_ex w
  exact run_build rEx hu hp _ _ (by show Instr.fill _ _ [_] = _; rw [ex_s2]; rfl)
theorem wp_bldE {P : Program} {op : Oper} {a : Act} {Q : Exit → Act → World → Prop} {ops : Array Oper} {rest : List Oper} {w : World} {t : TypeId} {i : Nat} {x : Operand} (hw : Region.wanted op (yielded ops a.tmps) = true) (ho : op.op = .build t #[(i, x)]) {u1 : Value} (h1 : a.eval x = u1) {v : Value}
    (hv : ∀ w, (Instr.build t #[(i, u1)]).run P w = .ok v w) (h : wpList P ops Q rest (a.put op.dst v) w) : wpList P ops Q (op :: rest) a w :=
  wp_bld hw ho (by simp [h1]) hv h
theorem set_exl (neg : Bool) (n d : ByteArray) (e : Int) (x : Bool) (n' d' : ByteArray) (e' : Int) : setRow (exC neg n d e) 0 (#[.bool x, .string n', .string d', .int .i64 e'] : Array Value).toList = exC x n' d' e' := set_ex _ _ _ _ _ _ _ _
theorem r6Null_any (w : World) :
    Calls Tryz.prog 147 #[] w fun e w' => e = .returned (.agg (exC false ⟨#[]⟩ ⟨#[1]⟩ 0)) ∧ Below w.heap.size w w' := by
  have H := Own.start w
  go_enter Tryz.func147, Tryz.ntmps147
  go_wp2_with (first
    | ((with_reducible show wpList _ _ _ (⟨_, .store 87 _ _, _, _, _, _⟩ :: _) _ _); refine H.xs ?_ (hv := set_exl _ _ _ _ _ _ _ _); (intro w H; simp only [Act.put]))
    | ((with_reducible show wpList _ _ _ (⟨_, .box _ _, _, _, _, _⟩ :: _) _ _); refine H.xb ?_; (intro g w H; simp only [Act.put, q1_, q2_, q3_]))
    | ((with_reducible show wpList _ _ _ (⟨_, .alloc _, _, _, _, _⟩ :: _) _ _); refine H.xa ?_; (intro g w H; simp only [Act.put, q1_, q2_, q3_]))
    | ((with_reducible show wpList _ _ _ (⟨_, .load _ _, _, _, _, _⟩ :: _) _ _); (first | refine H.xl ?_ | refine H.xm ?_); simp only [Act.put, q1_, q2_, q3_])
    | ((with_reducible show wpList _ _ _ (⟨_, .store _ _ _, _, _, _, _⟩ :: _) _ _); (first | refine H.xs ?_ | refine H.xt ?_); (intro w H; simp only [Act.put]))
    )
  all_goals
    refine bodyPost_ret (results_c rfl rfl (H.res rEx v2_ (ext_ex _ _ _ _) (by rfl))) rfl ⟨?_, H.below⟩
    exact rfl
theorem r6Make_z (neg : Bool) (n d : ByteArray) (ee : Int) (w : World) (he1 : -900000 ≤ ee) (he2 : ee ≤ 900000) (h1 : decide (ee < -1048576) = false) (h2 : decide (1048576 < ee) = false) (cM : CK_ 135 #[.string n] (.bool true)) (cm : CK_ 135 #[.string d] (.bool true)) (f_d : d.toList.isEmpty = false) (f_d' : ¬ (d.toList = [])) (f_n : n.toList.isEmpty = true) (f_n' : n.toList = [])  :
    Calls Tryz.prog 63 #[.bool neg, .string n, .string d, .int .i64 ee] w fun e w' => e = .returned (.tuple #[.agg (exC false ⟨#[]⟩ ⟨#[1]⟩ 0), .int .i64 0]) ∧ Below w.heap.size w w' := by
  have H := Own.start w
  go_enter Tryz.func63, Tryz.ntmps63
  exact walk1
theorem r6Make_1 (neg l1 l2 : Bool) (n d n1 d1 g : ByteArray) (ee : Int) (a b : Nat) (w : World) (ha : a ≤ 131072) (hb : b ≤ 131072) (he1 : -900000 ≤ ee) (he2 : ee ≤ 900000) (h1 : decide (ee < -1048576) = false) (h2 : decide (1048576 < ee) = false) (h3 : decide (ee + (a : Int) - (b : Int) < -1048576) = false) (h4 : decide (1048576 < ee + (a : Int) - (b : Int)) = false) (cM : CK_ 135 #[.string n] (.bool true)) (cm : CK_ 135 #[.string d] (.bool true)) (f_d : d.toList.isEmpty = false) (f_d' : ¬ (d.toList = [])) (f_n : n.toList.isEmpty = false) (f_n' : ¬ (n.toList = [])) (cA : CK_ 131 #[.string n] (.int .i64 (a : Nat))) (ca : CK_ 131 #[.string d] (.int .i64 (b : Nat))) (cR : CK_ 148 #[.string n, .int .i64 (a : Nat)] (.tuple #[.string n1, .bool l1, .int .i64 0])) (cr : CK_ 148 #[.string d, .int .i64 (b : Nat)] (.tuple #[.string d1, .bool l2, .int .i64 0])) (cG : CK_ 149 #[.string n1, .string d1] (.string g)) (g1 : (g.toList == ([1] : List UInt8)) = true) (g1' : g.toList = [1])  :
    Calls Tryz.prog 63 #[.bool neg, .string n, .string d, .int .i64 ee] w fun e w' => e = .returned (.tuple #[.agg (exC neg n1 d1 (ee + (a : Int) - (b : Int))), .int .i64 0]) ∧ Below w.heap.size w w' := by
  have H := Own.start w
  go_enter Tryz.func63, Tryz.ntmps63
  exact walk1
theorem r6Make_d (neg l1 l2 : Bool) (n d n1 d1 n2 d2 r1 r2 g : ByteArray) (ee : Int) (a b : Nat) (w : World) (ha : a ≤ 131072) (hb : b ≤ 131072) (he1 : -900000 ≤ ee) (he2 : ee ≤ 900000) (h1 : decide (ee < -1048576) = false) (h2 : decide (1048576 < ee) = false) (h3 : decide (ee + (a : Int) - (b : Int) < -1048576) = false) (h4 : decide (1048576 < ee + (a : Int) - (b : Int)) = false) (cM : CK_ 135 #[.string n] (.bool true)) (cm : CK_ 135 #[.string d] (.bool true)) (f_d : d.toList.isEmpty = false) (f_d' : ¬ (d.toList = [])) (f_n : n.toList.isEmpty = false) (f_n' : ¬ (n.toList = [])) (cA : CK_ 131 #[.string n] (.int .i64 (a : Nat))) (ca : CK_ 131 #[.string d] (.int .i64 (b : Nat))) (cR : CK_ 148 #[.string n, .int .i64 (a : Nat)] (.tuple #[.string n1, .bool l1, .int .i64 0])) (cr : CK_ 148 #[.string d, .int .i64 (b : Nat)] (.tuple #[.string d1, .bool l2, .int .i64 0])) (cG : CK_ 149 #[.string n1, .string d1] (.string g)) (cD : CK_ 150 #[.string n1, .string g] (.tuple #[.string n2, .string r1, .int .i64 0])) (cd : CK_ 150 #[.string d1, .string g] (.tuple #[.string d2, .string r2, .int .i64 0])) (g1 : (g.toList == ([1] : List UInt8)) = false) (g1' : ¬ (g.toList = [1]))  :
    Calls Tryz.prog 63 #[.bool neg, .string n, .string d, .int .i64 ee] w fun e w' => e = .returned (.tuple #[.agg (exC neg n2 d2 (ee + (a : Int) - (b : Int))), .int .i64 0]) ∧ Below w.heap.size w w' := by
  have H := Own.start w
  go_enter Tryz.func63, Tryz.ntmps63
  exact walk1
theorem r6shifted_w (a b : ByteArray) (n : Int) (er : Int) (w : World) (cL : CK_ 196 #[.string a, .int .i64 n] (.tuple #[.string b, .int .i64 er]))  :
    Calls Tryz.prog 224 #[.string a, .int .i64 n] w fun e w' => e = .returned (.string b) ∧ Below w.heap.size w w' := by
  have H := Own.start w
  go_enter Tryz.func224, Tryz.ntmps224
  exact walk1
theorem r6Top_yy (neg : Bool) (n d t : ByteArray) (ee c : Int) (a b : Nat) (w : World) (ha : a ≤ 131072) (hb : b ≤ 131072) (he1 : -1048576 ≤ ee) (he2 : ee ≤ 1048576) (f_n : n.toList.isEmpty = false) (f_n' : ¬ (n.toList = [])) (cA : CK_ 203 #[.string n] (.int .i64 (a : Nat))) (cB : CK_ 203 #[.string d] (.int .i64 (b : Nat))) (q0 : decide (b ≤ a) = true) (cS : CK_ 224 #[.string d, .int .i64 ((a : Int) - (b : Int))] (.string t)) (cC : CK_ 57 #[.string n, .string t] (.int .i64 c)) (q1 : decide (0 ≤ c) = true)  :
    Calls Tryz.prog 197 #[.agg (exC neg n d ee)] w fun e w' => e = .returned (.tuple #[.int .i64 ((a : Int) - (b : Int) + ee), .int .i64 0]) ∧ Below w.heap.size w w' := by
  have H := Own.start w
  go_enter Tryz.func197, Tryz.ntmps197
  exact walk2
theorem r6Top_yn (neg : Bool) (n d t : ByteArray) (ee c : Int) (a b : Nat) (w : World) (ha : a ≤ 131072) (hb : b ≤ 131072) (he1 : -1048576 ≤ ee) (he2 : ee ≤ 1048576) (f_n : n.toList.isEmpty = false) (f_n' : ¬ (n.toList = [])) (cA : CK_ 203 #[.string n] (.int .i64 (a : Nat))) (cB : CK_ 203 #[.string d] (.int .i64 (b : Nat))) (q0 : decide (b ≤ a) = true) (cS : CK_ 224 #[.string d, .int .i64 ((a : Int) - (b : Int))] (.string t)) (cC : CK_ 57 #[.string n, .string t] (.int .i64 c)) (q1 : decide (0 ≤ c) = false)  :
    Calls Tryz.prog 197 #[.agg (exC neg n d ee)] w fun e w' => e = .returned (.tuple #[.int .i64 ((a : Int) - (b : Int) - 1 + ee), .int .i64 0]) ∧ Below w.heap.size w w' := by
  have H := Own.start w
  go_enter Tryz.func197, Tryz.ntmps197
  exact walk2
theorem r6Top_ny (neg : Bool) (n d t : ByteArray) (ee c : Int) (a b : Nat) (w : World) (ha : a ≤ 131072) (hb : b ≤ 131072) (he1 : -1048576 ≤ ee) (he2 : ee ≤ 1048576) (f_n : n.toList.isEmpty = false) (f_n' : ¬ (n.toList = [])) (cA : CK_ 203 #[.string n] (.int .i64 (a : Nat))) (cB : CK_ 203 #[.string d] (.int .i64 (b : Nat))) (q0 : decide (b ≤ a) = false) (cS : CK_ 224 #[.string n, .int .i64 (-((a : Int) - (b : Int)))] (.string t)) (cC : CK_ 57 #[.string t, .string d] (.int .i64 c)) (q1 : decide (0 ≤ c) = true)  :
    Calls Tryz.prog 197 #[.agg (exC neg n d ee)] w fun e w' => e = .returned (.tuple #[.int .i64 ((a : Int) - (b : Int) + ee), .int .i64 0]) ∧ Below w.heap.size w w' := by
  have H := Own.start w
  go_enter Tryz.func197, Tryz.ntmps197
  exact walk2
theorem r6Top_nn (neg : Bool) (n d t : ByteArray) (ee c : Int) (a b : Nat) (w : World) (ha : a ≤ 131072) (hb : b ≤ 131072) (he1 : -1048576 ≤ ee) (he2 : ee ≤ 1048576) (f_n : n.toList.isEmpty = false) (f_n' : ¬ (n.toList = [])) (cA : CK_ 203 #[.string n] (.int .i64 (a : Nat))) (cB : CK_ 203 #[.string d] (.int .i64 (b : Nat))) (q0 : decide (b ≤ a) = false) (cS : CK_ 224 #[.string n, .int .i64 (-((a : Int) - (b : Int)))] (.string t)) (cC : CK_ 57 #[.string t, .string d] (.int .i64 c)) (q1 : decide (0 ≤ c) = false)  :
    Calls Tryz.prog 197 #[.agg (exC neg n d ee)] w fun e w' => e = .returned (.tuple #[.int .i64 ((a : Int) - (b : Int) - 1 + ee), .int .i64 0]) ∧ Below w.heap.size w w' := by
  have H := Own.start w
  go_enter Tryz.func197, Tryz.ntmps197
  exact walk2
theorem r6Floor_z (neg : Bool) (n d m q r : ByteArray) (ee a T : Int) (w : World) (he1 : -1048576 ≤ ee) (he2 : ee ≤ 1048576) (ha1 : -2097152 ≤ a) (ha2 : a ≤ 2097152) (r1 : decide (a < -2097152) = false) (r2 : decide (2097152 < a) = false) (f_n : n.toList.isEmpty = true) (f_n' : n.toList = [])  :
    Calls Tryz.prog 130 #[.agg (exC neg n d ee), .int .i64 a] w fun e w' => e = .returned (.tuple #[.string ⟨#[]⟩, .bool true, .int .i64 0]) ∧ Below w.heap.size w w' := by
  have H := Own.start w
  go_enter Tryz.func130, Tryz.ntmps130
  exact walk1
theorem r6Floor_uy (neg : Bool) (n d m q r : ByteArray) (ee a T : Int) (w : World) (he1 : -1048576 ≤ ee) (he2 : ee ≤ 1048576) (ha1 : -2097152 ≤ a) (ha2 : a ≤ 2097152) (r1 : decide (a < -2097152) = false) (r2 : decide (2097152 < a) = false) (f_n : n.toList.isEmpty = false) (f_n' : ¬ (n.toList = [])) (q0 : decide (a ≤ ee) = true) (cL : CK_ 196 #[.string n, .int .i64 (ee - a)] (.tuple #[.string m, .int .i64 0])) (cD : CK_ 150 #[.string m, .string d] (.tuple #[.string q, .string r, .int .i64 0])) (f_r : r.toList.isEmpty = true) (f_r' : r.toList = [])  :
    Calls Tryz.prog 130 #[.agg (exC neg n d ee), .int .i64 a] w fun e w' => e = .returned (.tuple #[.string q, .bool true, .int .i64 0]) ∧ Below w.heap.size w w' := by
  have H := Own.start w
  go_enter Tryz.func130, Tryz.ntmps130
  exact walk2
theorem r6Floor_dy (neg : Bool) (n d m q r : ByteArray) (ee a T : Int) (w : World) (he1 : -1048576 ≤ ee) (he2 : ee ≤ 1048576) (ha1 : -2097152 ≤ a) (ha2 : a ≤ 2097152) (r1 : decide (a < -2097152) = false) (r2 : decide (2097152 < a) = false) (f_n : n.toList.isEmpty = false) (f_n' : ¬ (n.toList = [])) (q0 : decide (a ≤ ee) = false) (cT : CK_ 197 #[.agg (exC neg n d ee)] (.tuple #[.int .i64 T, .int .i64 0])) (q1 : decide (T < a) = false) (cL : CK_ 196 #[.string d, .int .i64 (a - ee)] (.tuple #[.string m, .int .i64 0])) (cD : CK_ 150 #[.string n, .string m] (.tuple #[.string q, .string r, .int .i64 0])) (f_r : r.toList.isEmpty = true) (f_r' : r.toList = [])  :
    Calls Tryz.prog 130 #[.agg (exC neg n d ee), .int .i64 a] w fun e w' => e = .returned (.tuple #[.string q, .bool true, .int .i64 0]) ∧ Below w.heap.size w w' := by
  have H := Own.start w
  go_enter Tryz.func130, Tryz.ntmps130
  exact walk2
theorem r6Floor_un (neg : Bool) (n d m q r : ByteArray) (ee a T : Int) (w : World) (he1 : -1048576 ≤ ee) (he2 : ee ≤ 1048576) (ha1 : -2097152 ≤ a) (ha2 : a ≤ 2097152) (r1 : decide (a < -2097152) = false) (r2 : decide (2097152 < a) = false) (f_n : n.toList.isEmpty = false) (f_n' : ¬ (n.toList = [])) (q0 : decide (a ≤ ee) = true) (cL : CK_ 196 #[.string n, .int .i64 (ee - a)] (.tuple #[.string m, .int .i64 0])) (cD : CK_ 150 #[.string m, .string d] (.tuple #[.string q, .string r, .int .i64 0])) (f_r : r.toList.isEmpty = false) (f_r' : ¬ (r.toList = []))  :
    Calls Tryz.prog 130 #[.agg (exC neg n d ee), .int .i64 a] w fun e w' => e = .returned (.tuple #[.string q, .bool false, .int .i64 0]) ∧ Below w.heap.size w w' := by
  have H := Own.start w
  go_enter Tryz.func130, Tryz.ntmps130
  exact walk2
theorem r6Floor_dn (neg : Bool) (n d m q r : ByteArray) (ee a T : Int) (w : World) (he1 : -1048576 ≤ ee) (he2 : ee ≤ 1048576) (ha1 : -2097152 ≤ a) (ha2 : a ≤ 2097152) (r1 : decide (a < -2097152) = false) (r2 : decide (2097152 < a) = false) (f_n : n.toList.isEmpty = false) (f_n' : ¬ (n.toList = [])) (q0 : decide (a ≤ ee) = false) (cT : CK_ 197 #[.agg (exC neg n d ee)] (.tuple #[.int .i64 T, .int .i64 0])) (q1 : decide (T < a) = false) (cL : CK_ 196 #[.string d, .int .i64 (a - ee)] (.tuple #[.string m, .int .i64 0])) (cD : CK_ 150 #[.string n, .string m] (.tuple #[.string q, .string r, .int .i64 0])) (f_r : r.toList.isEmpty = false) (f_r' : ¬ (r.toList = []))  :
    Calls Tryz.prog 130 #[.agg (exC neg n d ee), .int .i64 a] w fun e w' => e = .returned (.tuple #[.string q, .bool false, .int .i64 0]) ∧ Below w.heap.size w w' := by
  have H := Own.start w
  go_enter Tryz.func130, Tryz.ntmps130
  exact walk2
theorem r6Floor_t (neg : Bool) (n d m q r : ByteArray) (ee a T : Int) (w : World) (he1 : -1048576 ≤ ee) (he2 : ee ≤ 1048576) (ha1 : -2097152 ≤ a) (ha2 : a ≤ 2097152) (r1 : decide (a < -2097152) = false) (r2 : decide (2097152 < a) = false) (f_n : n.toList.isEmpty = false) (f_n' : ¬ (n.toList = [])) (q0 : decide (a ≤ ee) = false) (cT : CK_ 197 #[.agg (exC neg n d ee)] (.tuple #[.int .i64 T, .int .i64 0])) (q1 : decide (T < a) = true)  :
    Calls Tryz.prog 130 #[.agg (exC neg n d ee), .int .i64 a] w fun e w' => e = .returned (.tuple #[.string ⟨#[]⟩, .bool false, .int .i64 0]) ∧ Below w.heap.size w w' := by
  have H := Own.start w
  go_enter Tryz.func130, Tryz.ntmps130
  exact walk2
open Go.RowKit Go.Proofs.YtgmhmpflmgfcdaaGreatDoorW.PrintWords Go.Proofs.YtgmhmpflmgfcdaaGreatDoor.PDivQuotients
abbrev exV (neg : Bool) (n d : Nat) (e : Int) : Value := .agg (exC neg (strB n) (strB d) e)
theorem r5Low_any (n : Nat) (w : World) (hn : nb n ≤ 16384) : Calls Tryz.prog 131 #[.string (strB n)] w fun e' w' => e' = .returned (.int .i64 (lowZ n : Nat)) ∧ Below w.heap.size w w' :=
  (abacusref05_Low.calls _ (strB n) _ w (low_strB n (nb n + 70) hn (Nat.le_refl _))).mono fun _ _ h => ⟨h.1, h.2.below⟩
theorem r5Len_any (n : Nat) (w : World) (hn : nb n ≤ 16384) : Calls Tryz.prog 203 #[.string (strB n)] w fun e' w' => e' = .returned (.int .i64 (lenN n : Nat)) ∧ Below w.heap.size w w' :=
  (abacusref05_Len.calls _ (strB n) _ w (len_strB n 65 hn (Nat.le_refl _))).mono fun _ _ h => ⟨h.1, h.2.below⟩
theorem r5May_any (n : Nat) (w : World) (hn : nb n ≤ 16384) : Calls Tryz.prog 135 #[.string (strB n)] w fun e' w' => e' = .returned (.bool true) ∧ Below w.heap.size w w' :=
  (abacusref05_May.calls (strB n) _ w (may_strB n hn)).mono fun _ _ h => ⟨h.1, h.2.below⟩
theorem r5At_any (n i : Nat) (w : World) (hn : nb n ≤ 16384) (hi : i ≤ 16384) : Calls Tryz.prog 136 #[.string (strB n), .int .i64 i] w fun e' w' => e' = .returned (.int .i64 (byt n i : Nat)) ∧ Below w.heap.size w w' :=
  (abacusref05_at.calls (strB n) i _ w (at_strB n i (by unfold Fine; omega) (by omega))).mono fun _ _ h => ⟨h.1, h.2.below⟩
theorem nb_add (a b m : Nat) (ha : nb a ≤ m) (hb : nb b ≤ m) : nb (a + b) ≤ m + 1 := by
  have h2 := (nb_le a m).1 ha
  have h3 := (nb_le b m).1 hb
  refine (nb_le _ _).2 ?_
  rw [pow_succ256]
  generalize 256 ^ m = x at *
  omega
theorem r5Add_any (a b : Nat) (w : World) (ha : nb a ≤ 16300) (hb : nb b ≤ 16300) : Calls Tryz.prog 133 #[.string (strB a), .string (strB b)] w fun e' w' => e' = .returned (.tuple #[.string (strB (a + b)), .int .i64 0]) ∧ Below w.heap.size w w' := by
  refine abacusref05_Add.calls (2 * (nb a + nb b) + 16) (strB a) (strB b) _ _ w ?_
  have h1 : nb (a + b) ≤ 16384 := Nat.le_trans (nb_add a b 16300 ha hb) (by decide)
  unfold abacusref05_Add.f abacusref05_long.f
  rw [add_strB a b _ (by omega) (by omega) (Nat.le_refl _), Option.bind_some, size_strB, if_neg (by omega)]; rfl
theorem strE_full (v : Nat) (h : v ≠ 0) : (strB v).toList.isEmpty = false ∧ ¬ (strB v).toList = ([] : List UInt8) := by
  have h1 : ¬ (strB v).toList = ([] : List UInt8) := fun e => h ((strB_empty v).1 e)
  refine ⟨?_, h1⟩
  cases hl : (strB v).toList with
  | nil => exact absurd hl h1
  | cons a l => rfl
theorem strE_none (v : Nat) (h : v = 0) : (strB v).toList.isEmpty = true ∧ (strB v).toList = ([] : List UInt8) := by
  have h1 := (strB_empty v).2 h
  exact ⟨by rw [h1]; rfl, h1⟩
theorem strE_one (g : Nat) (h : g = 1) : ((strB g).toList == ([1] : List UInt8)) = true ∧ (strB g).toList = ([1] : List UInt8) := by
  have h1 := (one_list g).2 h
  exact ⟨by rw [h1]; rfl, h1⟩
theorem strE_more (g : Nat) (h : g ≠ 1) : ((strB g).toList == ([1] : List UInt8)) = false ∧ ¬ (strB g).toList = ([1] : List UInt8) := by
  have h1 : ¬ (strB g).toList = ([1] : List UInt8) := fun e => h ((one_list g).1 e)
  exact ⟨by rw [beq_eq_false_iff_ne]; exact h1, h1⟩
theorem r5Left_any (a n : Nat) (w : World) (ha : nb a ≤ 16384) (hn : a = 0 ∨ lenN a + n ≤ 131072) (hn2 : n ≤ 131072) : Calls Tryz.prog 196 #[.string (strB a), .int .i64 (n : Int)] w fun e' w' => e' = .returned (.tuple #[.string (strB (a * 2 ^ n)), .int .i64 0]) ∧ Below w.heap.size w w' :=
  abacusref05_Left.calls _ _ _ _ _ w (left_strB a n _ ha hn hn2 (Nat.le_refl _))
theorem r5Right_any (a n : Nat) (ha : nb a ≤ 16384) (hn : n ≤ 131072) : ∃ lost, ∀ w, Calls Tryz.prog 148 #[.string (strB a), .int .i64 (n : Int)] w fun e' w' => e' = .returned (.tuple #[.string (strB (a / 2 ^ n)), .bool lost, .int .i64 0]) ∧ Below w.heap.size w w' := by
  obtain ⟨lost, h⟩ := right_strB a n _ ha (by omega) (Nat.le_refl _)
  exact ⟨lost, fun w => abacusref05_Right.calls _ _ _ _ _ _ w h⟩
theorem r5Div_any (a b : Nat) (w : World) (hb0 : b ≠ 0) (ha : nb a ≤ 16384) (hb : nb b ≤ 16384) : Calls Tryz.prog 150 #[.string (strB a), .string (strB b)] w fun e' w' => e' = .returned (.tuple #[.string (strB (a / b)), .string (strB (a % b)), .int .i64 0]) ∧ Below w.heap.size w w' :=
  abacusref05_Div.calls _ _ _ _ _ _ w (div_strB a b _ hb0 ha hb (Nat.le_refl _))
theorem r5Gcd_any (a b : Nat) (w : World) (ha : nb a ≤ 16384) (hb : nb b ≤ 16384) : Calls Tryz.prog 149 #[.string (strB a), .string (strB b)] w fun e' w' => e' = .returned (.string (strB (Nat.gcd a b))) ∧ Below w.heap.size w w' :=
  abacusref05_Gcd.calls _ _ _ _ w (gcd_strB a b _ ha hb (Nat.le_refl _))
theorem r5Cmp_any (a b : Nat) (w : World) : Calls Tryz.prog 57 #[.string (strB a), .string (strB b)] w fun e' w' => e' = .returned (.int .i64 (cmpN a b)) ∧ Below w.heap.size w w' :=
  (abacusref05_Cmp.calls _ _ _ w (cmp_strB a b)).mono fun _ _ h => ⟨h.1, h.2.below⟩
theorem r6Make_any (neg : Bool) (n d : Nat) (e : Int) (w : World) (hn : nb n ≤ 16384) (hd : nb d ≤ 16384) (hd0 : d ≠ 0) (he : -700000 ≤ e) (he2 : e ≤ 700000) :
    Calls Tryz.prog 63 #[.bool neg, .string (strB n), .string (strB d), .int .i64 e] w fun e' w' => e' = .returned (.tuple #[exV (negX' neg n) (numX n d) (denX n d) (expX n d e), .int .i64 0]) ∧ Below w.heap.size w w' := by
  have cM := fun w => r5May_any n w hn
  have cm := fun w => r5May_any d w hd
  obtain ⟨fd, fd'⟩ := strE_full d hd0
  have l1 := low_le n hn
  have l2 := low_le d hd
  by_cases h0 : n = 0
  · obtain ⟨fn, fn'⟩ := strE_none n h0
    have h := r6Make_z neg (strB n) (strB d) e w (by omega) (by omega) (decide_eq_false (by omega)) (decide_eq_false (by omega)) cM cm fd fd' fn fn'
    have e1 : exV (negX' neg n) (numX n d) (denX n d) (expX n d e) = .agg (exC false ⟨#[]⟩ ⟨#[1]⟩ 0) := by
      show Value.agg (exC _ (strB _) (strB _) _) = _
      unfold negX' numX denX expX
      rw [if_pos h0, if_pos h0, if_pos h0, if_pos h0, strB_one, strB_zero]
    rw [e1]; exact h
  obtain ⟨fn, fn'⟩ := strE_full n h0
  obtain ⟨s1, cR⟩ := r5Right_any n (lowZ n) hn l1
  obtain ⟨s2, cr⟩ := r5Right_any d (lowZ d) hd l2
  have cA := fun w => r5Low_any n w hn
  have ca := fun w => r5Low_any d w hd
  have b1 := nb_div n (2 ^ lowZ n) hn
  have b2 := nb_div d (2 ^ lowZ d) hd
  have cG := fun w => r5Gcd_any (n / 2 ^ lowZ n) (d / 2 ^ lowZ d) w b1 b2
  have hN : negX' neg n = neg := by unfold negX'; rw [if_neg h0]
  have hE : expX n d e = e + (lowZ n : Int) - (lowZ d : Int) := by unfold expX; rw [if_neg h0]
  have hX : numX n d = n / 2 ^ lowZ n / gcdX n d := by unfold numX; rw [if_neg h0]
  have hD : denX n d = d / 2 ^ lowZ d / gcdX n d := by unfold denX; rw [if_neg h0]
  have hgx : Nat.gcd (n / 2 ^ lowZ n) (d / 2 ^ lowZ d) = gcdX n d := rfl
  have hgp := gcdX_pos n d h0
  simp only [hgx] at cG
  rw [hN, hE]
  by_cases h1 : gcdX n d = 1
  · obtain ⟨g1, g1'⟩ := strE_one (gcdX n d) h1
    rw [hX, hD, h1, Nat.div_one, Nat.div_one]
    exact r6Make_1 neg s1 s2 _ _ _ _ _ e (lowZ n) (lowZ d) w l1 l2 (by omega) (by omega) (decide_eq_false (by omega)) (decide_eq_false (by omega)) (decide_eq_false (by omega)) (decide_eq_false (by omega)) cM cm fd fd' fn fn' cA ca cR cr cG g1 g1'
  · obtain ⟨g1, g1'⟩ := strE_more (gcdX n d) h1
    have hgb : nb (gcdX n d) ≤ 16384 := by
      have := Nat.gcd_le_left (d / 2 ^ lowZ d) (Nat.pos_of_ne_zero (low_split n h0).2.2)
      exact Nat.le_trans (nb_mono _ _ this) b1
    have cD := fun w => r5Div_any (n / 2 ^ lowZ n) (gcdX n d) w (by omega) b1 hgb
    have cd := fun w => r5Div_any (d / 2 ^ lowZ d) (gcdX n d) w (by omega) b2 hgb
    rw [hX, hD]
    exact r6Make_d neg s1 s2 _ _ _ _ _ _ _ _ _ e (lowZ n) (lowZ d) w l1 l2 (by omega) (by omega) (decide_eq_false (by omega)) (decide_eq_false (by omega)) (decide_eq_false (by omega)) (decide_eq_false (by omega)) cM cm fd fd' fn fn' cA ca cR cr cG cD cd g1 g1'
theorem r6Top_any (neg : Bool) (n d : Nat) (e : Int) (w : World) (h0 : n ≠ 0) (hn : nb n ≤ 16384) (hd : nb d ≤ 16384) (he : -1048576 ≤ e) (he2 : e ≤ 1048576) :
    Calls Tryz.prog 197 #[exV neg n d e] w fun e' w' => e' = .returned (.tuple #[.int .i64 (topX n d + e), .int .i64 0]) ∧ Below w.heap.size w w' := by
  have l1 := len_nb n hn
  have l2 := len_nb d hd
  obtain ⟨fn, fn'⟩ := strE_full n h0
  have cA := fun w => r5Len_any n w hn
  have cB := fun w => r5Len_any d w hd
  unfold topX
  by_cases h : lenN d ≤ lenN n
  · rw [if_pos h]
    have cS : ∀ w, Calls Tryz.prog 224 #[.string (strB d), .int .i64 ((lenN n : Int) - (lenN d : Int))] w fun e' w' => e' = .returned (.string (strB (d * 2 ^ (lenN n - lenN d)))) ∧ Below w.heap.size w w' := by
      rw [show (lenN n : Int) - (lenN d : Int) = ((lenN n - lenN d : Nat) : Int) by omega]
      exact fun w => r6shifted_w _ _ _ _ w fun w => r5Left_any d (lenN n - lenN d) w hd (Or.inr (by omega)) (by omega)
    have cC := fun w => r5Cmp_any n (d * 2 ^ (lenN n - lenN d)) w
    by_cases h2 : d * 2 ^ (lenN n - lenN d) ≤ n
    · rw [if_pos h2]
      have k := r6Top_yy neg _ _ _ e _ (lenN n) (lenN d) w l1 l2 he he2 fn fn' cA cB (decide_eq_true h) cS cC (decide_eq_true ((cmp_ge _ _).2 h2))
      rw [show (lenN n : Int) - (lenN d : Int) = ((lenN n - lenN d : Nat) : Int) by omega] at k
      exact k
    · rw [if_neg h2]
      have k := r6Top_yn neg _ _ _ e _ (lenN n) (lenN d) w l1 l2 he he2 fn fn' cA cB (decide_eq_true h) cS cC (decide_eq_false (fun h3 => h2 ((cmp_ge _ _).1 h3)))
      rw [show (lenN n : Int) - (lenN d : Int) = ((lenN n - lenN d : Nat) : Int) by omega] at k
      exact k
  · rw [if_neg h]
    have cS : ∀ w, Calls Tryz.prog 224 #[.string (strB n), .int .i64 (-((lenN n : Int) - (lenN d : Int)))] w fun e' w' => e' = .returned (.string (strB (n * 2 ^ (lenN d - lenN n)))) ∧ Below w.heap.size w w' := by
      rw [show -((lenN n : Int) - (lenN d : Int)) = ((lenN d - lenN n : Nat) : Int) by omega]
      exact fun w => r6shifted_w _ _ _ _ w fun w => r5Left_any n (lenN d - lenN n) w hn (Or.inr (by omega)) (by omega)
    have cC := fun w => r5Cmp_any (n * 2 ^ (lenN d - lenN n)) d w
    by_cases h2 : d ≤ n * 2 ^ (lenN d - lenN n)
    · rw [if_pos h2]
      have k := r6Top_ny neg _ _ _ e _ (lenN n) (lenN d) w l1 l2 he he2 fn fn' cA cB (decide_eq_false h) cS cC (decide_eq_true ((cmp_ge _ _).2 h2))
      rw [show (lenN n : Int) - (lenN d : Int) = -((lenN d - lenN n : Nat) : Int) by omega] at k
      exact k
    · rw [if_neg h2]
      have k := r6Top_nn neg _ _ _ e _ (lenN n) (lenN d) w l1 l2 he he2 fn fn' cA cB (decide_eq_false h) cS cC (decide_eq_false (fun h3 => h2 ((cmp_ge _ _).1 h3)))
      rw [show (lenN n : Int) - (lenN d : Int) = -((lenN d - lenN n : Nat) : Int) by omega] at k
      exact k
theorem r6Floor_any (neg : Bool) (n d : Nat) (e a : Int) (w : World) (hn : nb n ≤ 16384) (hd : nb d ≤ 16384) (hd0 : d ≠ 0) (he : -1048576 ≤ e) (he2 : e ≤ 1048576) (ha : -2097152 ≤ a) (ha2 : a ≤ 2097152) (hl : n = 0 ∨ e < a ∨ (lenN n : Int) + (e - a) ≤ 131072) :
    Calls Tryz.prog 130 #[exV neg n d e, .int .i64 a] w fun e' w' => e' = .returned (.tuple #[.string (strB (ratFl n d e a)), .bool (ratEx n d e a), .int .i64 0]) ∧ Below w.heap.size w w' := by
  have l1 := len_nb n hn
  have l2 := len_nb d hd
  have r1 : decide (a < -2097152) = false := decide_eq_false (by omega)
  have r2 : decide (2097152 < a) = false := decide_eq_false (by omega)
  by_cases h0 : n = 0
  · obtain ⟨fn, fn'⟩ := strE_none n h0
    have h := r6Floor_z neg (strB n) (strB d) ⟨#[]⟩ ⟨#[]⟩ ⟨#[]⟩ e a 0 w he he2 ha ha2 r1 r2 fn fn'
    have e1 : ratFl n d e a = 0 ∧ ratEx n d e a = true := by
      unfold ratFl ratEx
      rw [h0, Nat.zero_mul, Nat.zero_div, Nat.zero_mod]; exact ⟨rfl, rfl⟩
    rw [e1.1, e1.2, strB_zero]; exact h
  obtain ⟨fn, fn'⟩ := strE_full n h0
  by_cases hea : a ≤ e
  · obtain ⟨j, hj⟩ : ∃ j : Nat, e - a = j := ⟨(e - a).toNat, by omega⟩
    have hlj : lenN n + j ≤ 131072 := by rcases hl with h | h | h; exact absurd h h0; omega; omega
    have hb : nb (n * 2 ^ j) ≤ 16384 := nb_len _ (by rw [lenN_mul_pow n j h0]; exact hlj)
    have cL := fun w => r5Left_any n j w hn (Or.inr hlj) (by omega)
    rw [← hj] at cL
    have cD := fun w => r5Div_any (n * 2 ^ j) d w hd0 hb hd
    have e1 : ratFl n d e a = n * 2 ^ j / d ∧ ratEx n d e a = decide (n * 2 ^ j % d = 0) := by
      unfold ratFl ratEx
      rw [show (e - a).toNat = j by omega, show (a - e).toNat = 0 by omega, Nat.pow_zero, Nat.mul_one]; exact ⟨rfl, rfl⟩
    rw [e1.1, e1.2]
    by_cases hr : n * 2 ^ j % d = 0
    · obtain ⟨fr, fr'⟩ := strE_none _ hr
      rw [decide_eq_true hr]
      exact r6Floor_uy neg _ _ _ _ _ e a 0 w he he2 ha ha2 r1 r2 fn fn' (decide_eq_true hea) cL cD fr fr'
    · obtain ⟨fr, fr'⟩ := strE_full _ hr
      rw [decide_eq_false hr]
      exact r6Floor_un neg _ _ _ _ _ e a 0 w he he2 ha ha2 r1 r2 fn fn' (decide_eq_true hea) cL cD fr fr'
  have cT := fun w => r6Top_any neg n d e w h0 hn hd he he2
  have hT := rat_top n d e h0 (Nat.pos_of_ne_zero hd0)
  by_cases ht : topX n d + e < a
  · have hz : ratFl n d e a = 0 := hT.high a ht
    have hx : ratEx n d e a = false := by
      cases hc : ratEx n d e a
      · rfl
      · exfalso
        have h1 : n * 2 ^ (e - a).toNat % (d * 2 ^ (a - e).toNat) = 0 := of_decide_eq_true hc
        have h2 : n * 2 ^ (e - a).toNat / (d * 2 ^ (a - e).toNat) = 0 := hz
        have h3 := Nat.div_add_mod (n * 2 ^ (e - a).toNat) (d * 2 ^ (a - e).toNat)
        rw [h1, h2] at h3
        have h4 := Nat.mul_ne_zero h0 (Nat.ne_of_gt (two_pos (e - a).toNat))
        omega
    rw [hz, hx, strB_zero]
    exact r6Floor_t neg _ _ ⟨#[]⟩ ⟨#[]⟩ ⟨#[]⟩ e a _ w he he2 ha ha2 r1 r2 fn fn' (decide_eq_false hea) cT (decide_eq_true ht)
  · obtain ⟨j, hj⟩ : ∃ j : Nat, a - e = j := ⟨(a - e).toNat, by omega⟩
    have hlj : lenN d + j ≤ 131072 := by have := topX_le n d; omega
    have hb : nb (d * 2 ^ j) ≤ 16384 := nb_len _ (by rw [lenN_mul_pow d j hd0]; exact hlj)
    have cL := fun w => r5Left_any d j w hd (Or.inr hlj) (by omega)
    rw [← hj] at cL
    have cD := fun w => r5Div_any n (d * 2 ^ j) w (Nat.mul_ne_zero hd0 (Nat.ne_of_gt (two_pos j))) hn hb
    have e1 : ratFl n d e a = n / (d * 2 ^ j) ∧ ratEx n d e a = decide (n % (d * 2 ^ j) = 0) := by
      unfold ratFl ratEx
      rw [show (a - e).toNat = j by omega, show (e - a).toNat = 0 by omega, Nat.pow_zero, Nat.mul_one]; exact ⟨rfl, rfl⟩
    rw [e1.1, e1.2]
    by_cases hr : n % (d * 2 ^ j) = 0
    · obtain ⟨fr, fr'⟩ := strE_none _ hr
      rw [decide_eq_true hr]
      exact r6Floor_dy neg _ _ _ _ _ e a _ w he he2 ha ha2 r1 r2 fn fn' (decide_eq_false hea) cT (decide_eq_false ht) cL cD fr fr'
    · obtain ⟨fr, fr'⟩ := strE_full _ hr
      rw [decide_eq_false hr]
      exact r6Floor_dn neg _ _ _ _ _ e a _ w he he2 ha ha2 r1 r2 fn fn' (decide_eq_false hea) cT (decide_eq_false ht) cL cD fr fr'
theorem sigN_113 (f a : Nat) (hf : fitsB f a = true) : sigN f a < 2 ^ 113 := by
  have h4 := ((fits_iff f a).1 hf).1
  have hp := pF_113 f
  rcases cls_sort f a with c | c | c | c
  · unfold sigN; rw [if_neg (by omega), if_neg (by omega)]; exact two_pos 113
  · unfold sigN; rw [if_neg (by omega), if_neg (by omega)]; exact two_pos 113
  · unfold sigN; rw [if_neg (by omega), if_neg (by omega)]; exact two_pos 113
  · have := (can_of f a hf c).1.lt
    exact Nat.lt_of_lt_of_le this (Nat.pow_le_pow_right (by decide) hp)
theorem xpN_bound (f a : Nat) (hf : fitsB f a = true) : -40000 ≤ xpN f a ∧ xpN f a ≤ 40000 := by
  have h4 := ((fits_iff f a).1 hf).1
  obtain ⟨h1, h2, h3, h5, h6, h7, h8, h9⟩ := formK f h4
  rcases cls_sort f a with c | c | c | c
  · unfold xpN; rw [if_neg (by omega), if_neg (by omega)]; omega
  · unfold xpN; rw [if_neg (by omega), if_neg (by omega)]; omega
  · unfold xpN; rw [if_neg (by omega), if_neg (by omega)]; omega
  · have hc := (can_of f a hf c).1
    have := hc.ge; have := hc.le; omega
theorem below_fits (f a : Nat) (h : fitsB f a = true) : a < 2 ^ (64 * 2) := by
  obtain ⟨h4, hb⟩ := (fits_iff f a).1 h
  exact Nat.lt_of_lt_of_le hb (Nat.pow_le_pow_right (by decide) (by have := (formB f h4).2.2.2.1; omega))
open Go.RowKit Go.Proofs.YtgmhmpflmgfcdaaGreatDoorW.PrintWords Go.Proofs.YtgmhmpflmgfcdaaGreatDoor.PDivQuotients
set_option maxHeartbeats 3200000 in
theorem r8Value_w (f b c s fr : Nat) (x : Int) (neg : Bool) (n : ByteArray) (neg2 : Bool) (n2 d2 : ByteArray) (e2 er : Int) (w : World) (cU : CK_ 169 #[.int .u8 f, BV b] (PV c s x fr)) (q8 : ((c : Int) == 8) = false) (q9 : ((c : Int) == 9) = false) (q0 : ((c : Int) == 0) = false) (q7 : ((c : Int) == 7) = false) (cS : CK_ 50 #[.int .u8 f, BV b] (.bool neg)) (cO : CK_ 170 #[W s] (.string n)) (cM : CK_ 63 #[.bool neg, .string n, .string ⟨#[1]⟩, .int .i64 x] (.tuple #[.agg (exC neg2 n2 d2 e2), .int .i64 er])) :
    Calls Tryz.prog 88 #[.int .u8 f, BV b] w fun e w' => e = .returned (.tuple #[.agg (exC neg2 n2 d2 e2), .int .i64 0]) ∧ Below w.heap.size w w' := by
  have H := Own.start w
  go_enter Tryz.func88, Tryz.ntmps88
  exact walk1
theorem sig_nb (f b : Nat) (h : fitsB f b = true) : nb (sigN f b) ≤ 15 := by
  refine (nb_le _ _).2 (Nat.lt_of_lt_of_le (sigN_113 f b h) ?_)
  rw [pow256]; exact Nat.pow_le_pow_right (by decide) (by decide)
theorem r8Value_any (f b : Nat) (w : World) (h : fitsB f b = true) (h8 : nanB (clsN f b) = false) (hi : infB (clsN f b) = false) :
    Calls Tryz.prog 88 #[.int .u8 f, BV b] w fun e w' => e = .returned (.tuple #[exV (negX' (negN f b) (sigN f b)) (numX (sigN f b) 1) (denX (sigN f b) 1) (expX (sigN f b) 1 (xpN f b)), .int .i64 0]) ∧ Below w.heap.size w w' := by
  have hf := ((fits_iff f b).1 h).1
  have hb := below_fits f b h
  obtain ⟨x1, x2⟩ := xpN_bound f b h
  have hs := sig_nb f b h
  have c8 : ¬ 8 ≤ clsN f b := by unfold nanB at h8; exact of_decide_eq_false h8
  have c07 : clsN f b ≠ 0 ∧ clsN f b ≠ 7 := by unfold infB at hi; simpa using hi
  have cS := fun w => r8Sign_any f b w hb
  rw [h, Bool.true_and] at cS
  have cM := fun w => r6Make_any (negN f b) (sigN f b) 1 (xpN f b) w (by omega) (by decide) (by decide) (by omega) (by omega)
  rw [strB_one] at cM
  exact r8Value_w f b (clsN f b) (sigN f b) (frN f b) (xpN f b) (negN f b) (strB (sigN f b)) _ _ _ _ _ w (fun w => r8Unpack_any f b w hf hb)
    (int_eq_false _ 8 (by omega)) (int_eq_false _ 9 (by omega)) (int_eq_false _ 0 c07.1) (int_eq_false _ 7 c07.2) cS (fun w => r5OfWide_any (sigN f b) w (lt_top_bits _ (Nat.lt_of_lt_of_le (sigN_113 f b h) (by decide)))) cM
open Go.RowKit Go.Proofs.YtgmhmpflmgfcdaaGreatDoorW.PrintWords Go.Proofs.YtgmhmpflmgfcdaaGreatDoor.PDivQuotients
theorem limbN_up8 (V q r : Nat) (hV : V < 2 ^ (64 * q + r)) (hr : r ≤ 64) : limbN V q < 2 ^ r := by
  unfold limbN
  refine Nat.lt_of_le_of_lt (Nat.mod_le _ _) ?_
  rw [Nat.div_lt_iff_lt_mul (pw_pos q), ← Nat.pow_add, Nat.add_comm]; exact hV
theorem set_byte (V b k q r : Nat) (X : Int) (hX : X = ((b * 2 ^ (8 * r) : Nat) : Int)) (hk : k = 8 * q + r) (hr : r < 8) (hq : q < 6) (hb : b < 256) (hV : V < 256 ^ k) :
    setRow (limbs V) q (#[.int .u64 (Go.bits .or .u64 (limb V q) X)] : Array Value).toList = limbs (V + b * 256 ^ k) := by
  subst hX
  have hV' : V < 2 ^ (64 * q + 8 * r) := by rw [pow256, hk] at hV; rw [show 64 * q + 8 * r = 8 * (8 * q + r) by omega]; exact hV
  have h1 := limbN_up8 V q (8 * r) hV' (by omega)
  have hp : 2 ^ (8 * r) * 256 ≤ 18446744073709551616 := by rw [show (256 : Nat) = 2 ^ 8 from rfl, ← Nat.pow_add, B64]; exact Nat.pow_le_pow_right (by decide) (by omega)
  have h2 : b * 2 ^ (8 * r) + 2 ^ (8 * r) ≤ 256 * 2 ^ (8 * r) := by
    have := Nat.mul_le_mul_right (2 ^ (8 * r)) (show b + 1 ≤ 256 by omega)
    rw [Nat.add_mul, Nat.one_mul] at this; exact this
  have e1 : Go.bits .or .u64 (limb V q) ((b * 2 ^ (8 * r) : Nat) : Int) = ((limbN V q + b * 2 ^ (8 * r) : Nat) : Int) := by
    unfold limb
    rw [u64_or_nat _ _ (limbN_lt V q) (by omega)]
    congr 1
    have := Nat.two_pow_add_eq_or_of_lt h1 b
    rw [Nat.or_comm, Nat.mul_comm b, ← this, Nat.add_comm]
  rw [e1]
  show (limbs V).setIfInBounds q _ = _
  have hlow : V < 2 ^ (64 * (q + 1)) := Nat.lt_of_lt_of_le hV' (Nat.pow_le_pow_right (by decide) (by omega))
  have hVs : V = V % 2 ^ (64 * q) + limbN V q * 2 ^ (64 * q) := by rw [← mod_low, Nat.mod_eq_of_lt hlow]
  have h3 := limbs_put (V % 2 ^ (64 * q)) (limbN V q + b * 2 ^ (8 * r)) q hq (Nat.mod_lt _ (pw_pos q)) (by omega)
  have e2 : V % 2 ^ (64 * q) + (limbN V q + b * 2 ^ (8 * r)) * 2 ^ (64 * q) = V + b * 256 ^ k := by
    rw [Nat.add_mul, ← Nat.add_assoc, ← hVs, pow256, hk, Nat.mul_assoc, ← Nat.pow_add, show 8 * r + 64 * q = 8 * (8 * q + r) by omega]
  rw [← e2, ← h3]
  have e3 : (limbs V).setIfInBounds q (.int .u64 ((limbN V q + b * 2 ^ (8 * r) : Nat) : Int)) = (limbs (V % 2 ^ (64 * q))).setIfInBounds q (.int .u64 ((limbN V q + b * 2 ^ (8 * r) : Nat) : Int)) := by
    apply Array.ext_getElem?
    intro j
    rw [Array.getElem?_setIfInBounds, Array.getElem?_setIfInBounds, limbs_size, limbs_size]
    by_cases hj : q = j
    · rw [if_pos hj, if_pos hj]
    · rw [if_neg hj, if_neg hj]
      by_cases h6 : j < 6
      · rw [limbs_get _ j h6, limbs_get _ j h6]
        unfold limb
        rcases Nat.lt_or_ge j q with h7 | h7
        · rw [limbN_mod V j q h7]
        · have h8 : limbN V j = 0 := by
            unfold limbN; rw [Nat.div_eq_of_lt (Nat.lt_of_lt_of_le hlow (Nat.pow_le_pow_right (by decide) (by omega)))]
          have h9 : limbN (V % 2 ^ (64 * q)) j = 0 := by
            unfold limbN; rw [Nat.div_eq_of_lt (Nat.lt_of_lt_of_le (Nat.mod_lt _ (pw_pos q)) (Nat.pow_le_pow_right (by decide) (by omega)))]
          rw [h8, h9]
      · rw [Array.getElem?_eq_none (by rw [limbs_size]; omega), Array.getElem?_eq_none (by rw [limbs_size]; omega)]
  exact e3
set_option maxHeartbeats 3200000 in
theorem r5ToWide_any (n : Nat) (w0 : World) (hn : nb n ≤ 48) :
    Calls Tryz.prog 59 #[.string (strB n)] w0 fun e w' => e = .returned (.tuple #[W n, .bool true]) ∧ Below w0.heap.size w0 w' := by
  have H := Own.start w0
  have cM := fun w => r5May_any n w (by omega)
  have hsz := size_strB n
  have HN := Lib.hid hn
  have HF := Lib.hid (nb_lt n)
  have hszi : (((strB n).size : Nat) : Int) = (nb n : Nat) := by rw [hsz]
  obtain ⟨m, hm⟩ : ∃ m, nb n = m := ⟨_, rfl⟩
  rw [hm] at hsz hszi hn HF
  have hmi : (m : Int) ≤ 48 := by omega
  have HM := Lib.hid hm
  clear hm hn
  go_enter Tryz.func59, Tryz.ntmps59
  go_wp2_with (first
    | ((with_reducible show wpList _ _ _ (⟨some 2, .alloc 60, _, _, _, _⟩ :: _) _ _); refine H.xa ?_; (intro gr w H; simp only [Act.put, q1_, q2_, q3_]))
    | ((with_reducible show wpList _ _ _ (⟨some 4, .alloc 60, _, _, _, _⟩ :: _) _ _); refine H.xa ?_; (intro gs w H; simp only [Act.put, q1_, q2_, q3_]))
    | ((with_reducible show wpList _ _ _ (⟨_, .box _ _, _, _, _, _⟩ :: _) _ _); refine H.xb ?_; (intro g w H; simp only [Act.put, q1_, q2_, q3_]))
    | ((with_reducible show wpList _ _ _ (⟨_, .alloc _, _, _, _, _⟩ :: _) _ _); refine H.xa ?_; (intro g w H; simp only [Act.put, q1_, q2_, q3_]))
    | ((with_reducible show wpList _ _ _ (⟨_, .load _ _, _, _, _, _⟩ :: _) _ _); (first | refine H.xl ?_ | refine H.xm ?_); simp only [Act.put, q1_, q2_, q3_])
    | ((with_reducible show wpList _ _ _ (⟨_, .store _ _ _, _, _, _, _⟩ :: _) _ _); (first | refine H.xs ?_ | refine H.xt ?_); (intro w H; simp only [Act.put]))
    | (go_at_call 135; ((with_reducible refine (cM _).mono ?_); rintro e w ⟨rfl, hb⟩; replace H := H.call hb; clear hb))
    | (go_at_call 136; ((with_reducible refine (cA _).mono ?_); rintro e w ⟨rfl, hb⟩; replace H := H.call hb; clear hb))
    )
  go_loopw [5] (fun iv wr => ∃ (k : Nat), k ≤ m ∧ iv = .int .i64 k ∧ Own w0 wr [(gs, 60, limbs (n % 256 ^ k)), (gr, 60, limbs 0)]) (fun i _ => m - (intOf i).toNat)
  case atStart => exact ⟨0, by omega, rfl, by rw [Nat.pow_zero, Nat.mod_one]; exact H⟩
  case round =>
    clear H
    obtain ⟨k, hk, rfl, H⟩ := hrel
    by_cases hlt : k < m
    · have hlti : (k : Int) < (m : Int) := by omega
      have hk48 : k < 48 := by omega
      obtain ⟨q, hq⟩ : ∃ q : Nat, k / 8 = q := ⟨_, rfl⟩
      obtain ⟨r, hr⟩ : ∃ r : Nat, k % 8 = r := ⟨_, rfl⟩
      have hq6 : q < 6 := by omega
      have hq6i : (q : Int) < 6 := by omega
      have hr8 : r < 8 := by omega
      have HK := Lib.hid (show k = 8 * q + r by omega)
      have t1 : IntKind.i64.wrap ((k : Int).tdiv 8) = (q : Int) := by rw [Int.tdiv_eq_ediv_of_nonneg (by omega), show (k : Int) / 8 = (q : Int) by omega]; exact IntWalk.i64_in _ (by omega)
      have t1' : (k : Int) / 8 = (q : Int) := by omega
      have t2 : (k : Int).tmod 8 = (r : Int) := by rw [Int.tmod_eq_emod_of_nonneg (by omega)]; omega
      have t2' : (k : Int) % 8 = (r : Int) := by omega
      have t3 : IntKind.u64.wrap (8 * (r : Int)) = 8 * (r : Int) := by rw [IntKind.wrap_u64]; omega
      have t3b : IntKind.i64.wrap (8 * (r : Int)) = 8 * (r : Int) := IntWalk.i64_in _ (by omega)
      have t4 : min (8 * (r : Int)).toNat 64 = 8 * r := by omega
      have tq : IntKind.i64.wrap (q : Int) = (q : Int) := IntWalk.i64_in _ (by omega)
      have tr : IntKind.i64.wrap (r : Int) = (r : Int) := IntWalk.i64_in _ (by omega)
      have hq0 : (0 : Int) ≤ (q : Int) := by omega
      have hbl := byt_lt n k
      have HB := Lib.hid (mod_byte n k)
      have HL := Lib.hid (Nat.mod_lt n (pos256 k))
      have cA := fun w => r5At_any n k w (by have := HN.out; omega) (by omega)
      obtain ⟨b, hb⟩ : ∃ b, byt n k = b := ⟨_, rfl⟩
      rw [hb] at cA hbl HB
      obtain ⟨V, hV⟩ : ∃ V, n % 256 ^ k = V := ⟨_, rfl⟩
      rw [hV] at H HB HL
      have hbi : IntKind.u64.wrap (b : Int) = (b : Int) := by rw [IntKind.wrap_u64]; omega
      have hp : b * 2 ^ (8 * r) < 18446744073709551616 := by
        have h1 : 2 ^ (8 * r) ≤ 2 ^ 56 := Nat.pow_le_pow_right (by decide) (by omega)
        have h2 : b * 2 ^ (8 * r) ≤ 255 * 2 ^ 56 := Nat.mul_le_mul (by omega) h1
        omega
      have HX := Lib.hid (show IntKind.u64.wrap ((b : Int) * 2 ^ (8 * r)) = ((b * 2 ^ (8 * r) : Nat) : Int) by
        rw [show (b : Int) * 2 ^ (8 * r) = ((b * 2 ^ (8 * r) : Nat) : Int) by simp]
        generalize b * 2 ^ (8 * r) = x at *
        rw [IntKind.wrap_u64]; omega)
      have G : (limbs V)[q]? = some (.int .u64 (limb V q)) := limbs_get V q hq6
      clear hq hr hb hV hp cM
      go_wp2_with (first
    | ((with_reducible show wpList _ _ _ (⟨some 2, .alloc 60, _, _, _, _⟩ :: _) _ _); refine H.xa ?_; (intro gr w H; simp only [Act.put, q1_, q2_, q3_]))
    | ((with_reducible show wpList _ _ _ (⟨some 4, .alloc 60, _, _, _, _⟩ :: _) _ _); refine H.xa ?_; (intro gs w H; simp only [Act.put, q1_, q2_, q3_]))
    | ((with_reducible show wpList _ _ _ (⟨_, .load 25 _, _, _, _, _⟩ :: _) _ _); refine H.xm ?_ (hv := by first | with_reducible exact G); simp only [Act.put, q1_, q2_, q3_])
    | ((with_reducible show wpList _ _ _ (⟨_, .box _ _, _, _, _, _⟩ :: _) _ _); refine H.xb ?_; (intro g w H; simp only [Act.put, q1_, q2_, q3_]))
    | ((with_reducible show wpList _ _ _ (⟨_, .alloc _, _, _, _, _⟩ :: _) _ _); refine H.xa ?_; (intro g w H; simp only [Act.put, q1_, q2_, q3_]))
    | ((with_reducible show wpList _ _ _ (⟨_, .load _ _, _, _, _, _⟩ :: _) _ _); (first | refine H.xl ?_ | refine H.xm ?_); simp only [Act.put, q1_, q2_, q3_])
    | ((with_reducible show wpList _ _ _ (⟨_, .store _ _ _, _, _, _, _⟩ :: _) _ _); (first | refine H.xs ?_ | refine H.xt ?_); (intro w H; simp only [Act.put]))
    | ((with_reducible show Code.wp _ (.region 7 _ true) _ _ _); refine H.heldSub rfl (List.Sublist.cons _ (List.Sublist.refl _)) ?_; intro H; refine H.zr 0 ?_; (try simp only [Act.put, q1_, q2_, q3_]); (try simp only [q4_, q5_, q6_]); refine H.zr 1 ?_; (try simp only [Act.put, q1_, q2_, q3_]); (try simp only [q4_, q5_, q6_]); refine H.zr 2 ?_; (try simp only [Act.put, q1_, q2_, q3_]); (try simp only [q4_, q5_, q6_]); refine H.zr 3 ?_; (try simp only [Act.put, q1_, q2_, q3_]); (try simp only [q4_, q5_, q6_]); refine H.zr 4 ?_; (try simp only [Act.put, q1_, q2_, q3_]); (try simp only [q4_, q5_, q6_]); refine H.zr 6 ?_; (try simp only [Act.put, q1_, q2_, q3_]); (try simp only [q4_, q5_, q6_]); refine H.zr 7 ?_; (try simp only [Act.put, q1_, q2_, q3_]); (try simp only [q4_, q5_, q6_]); refine H.zr 10 ?_; (try simp only [Act.put, q1_, q2_, q3_]); (try simp only [q4_, q5_, q6_]); refine H.zr 11 ?_; (try simp only [Act.put, q1_, q2_, q3_]); (try simp only [q4_, q5_, q6_]); refine H.zr 12 ?_; (try simp only [Act.put, q1_, q2_, q3_]); (try simp only [q4_, q5_, q6_]); refine H.zr 13 ?_; (try simp only [Act.put, q1_, q2_, q3_]); (try simp only [q4_, q5_, q6_]); refine held2 5 8 ?_ ?_; ((first | refine H.ym ?_ (hv := by first | with_reducible exact G) | refine H.yl ?_ | refine H.ym ?_); refine H.nx ?_; (try simp only [Act.put, q1_, q2_, q3_]); (try simp only [q4_, q5_, q6_]); refine held1 8 ?_; unfold Oper.wp; go_simp; (first | ((first | go_at_call 135 | go_at_call 136); (with_reducible first | refine (cM _).mono ?_ | refine (cA _).mono ?_); rintro e w ⟨rfl, hb⟩; replace H := H.call hb; clear hb)); refine H.nx ?_; (try simp only [Act.put, q1_, q2_, q3_]); (try simp only [q4_, q5_, q6_]); refine H.zr 9 ?_; (try simp only [Act.put, q1_, q2_, q3_]); (try simp only [q4_, q5_, q6_]); refine H.zr 14 ?_; (try simp only [Act.put, q1_, q2_, q3_]); (try simp only [q4_, q5_, q6_]); refine H.zr 15 ?_; (try simp only [Act.put, q1_, q2_, q3_]); (try simp only [q4_, q5_, q6_]); refine H.zr 16 ?_; (try simp only [Act.put, q1_, q2_, q3_]); (try simp only [q4_, q5_, q6_]); refine held1 17 ?_; (first | refine H.yt ?_ (hv := set_byte _ _ _ _ _ _ HX.out HK.out hr8 hq6 hbl HL.out) | refine H.ys ?_ | refine H.yt ?_); intro w H; refine H.nx ?_; (try simp only [Act.put]); refine wpAnyH_done (by kernel_rfl) ?_ _); rotate_left; (unfold Oper.wp; go_simp; (first | ((first | go_at_call 135 | go_at_call 136); (with_reducible first | refine (cM _).mono ?_ | refine (cA _).mono ?_); rintro e w ⟨rfl, hb⟩; replace H := H.call hb; clear hb)); refine H.nx ?_; (try simp only [Act.put, q1_, q2_, q3_]); (try simp only [q4_, q5_, q6_]); refine H.zr 9 ?_; (try simp only [Act.put, q1_, q2_, q3_]); (try simp only [q4_, q5_, q6_]); refine H.zr 14 ?_; (try simp only [Act.put, q1_, q2_, q3_]); (try simp only [q4_, q5_, q6_]); refine held1 5 ?_; (first | refine H.ym ?_ (hv := by first | with_reducible exact G) | refine H.yl ?_ | refine H.ym ?_); refine H.nx ?_; (try simp only [Act.put, q1_, q2_, q3_]); (try simp only [q4_, q5_, q6_]); refine H.zr 15 ?_; (try simp only [Act.put, q1_, q2_, q3_]); (try simp only [q4_, q5_, q6_]); refine H.zr 16 ?_; (try simp only [Act.put, q1_, q2_, q3_]); (try simp only [q4_, q5_, q6_]); refine held1 17 ?_; (first | refine H.yt ?_ (hv := set_byte _ _ _ _ _ _ HX.out HK.out hr8 hq6 hbl HL.out) | refine H.ys ?_ | refine H.yt ?_); intro w H; refine H.nx ?_; (try simp only [Act.put]); refine wpAnyH_done (by kernel_rfl) ?_ _))
    | (go_at_call 135; ((with_reducible refine (cM _).mono ?_); rintro e w ⟨rfl, hb⟩; replace H := H.call hb; clear hb))
    | (go_at_call 136; ((with_reducible refine (cA _).mono ?_); rintro e w ⟨rfl, hb⟩; replace H := H.call hb; clear hb))
    )
      all_goals
        go_roundw
        case rel => exact ⟨k + 1, by omega, by go_num, by rw [HB.out]; exact H⟩
        case measure => simp [intOf] <;> omega
    · obtain rfl : k = m := by omega
      have HE := Lib.hid (show n % 256 ^ k = n from Nat.mod_eq_of_lt HF.out)
      rw [HE.out] at H
      clear hlt hk cM
      go_wp2_with (first
    | ((with_reducible show wpList _ _ _ (⟨some 2, .alloc 60, _, _, _, _⟩ :: _) _ _); refine H.xa ?_; (intro gr w H; simp only [Act.put, q1_, q2_, q3_]))
    | ((with_reducible show wpList _ _ _ (⟨some 4, .alloc 60, _, _, _, _⟩ :: _) _ _); refine H.xa ?_; (intro gs w H; simp only [Act.put, q1_, q2_, q3_]))
    | ((with_reducible show wpList _ _ _ (⟨_, .box _ _, _, _, _, _⟩ :: _) _ _); refine H.xb ?_; (intro g w H; simp only [Act.put, q1_, q2_, q3_]))
    | ((with_reducible show wpList _ _ _ (⟨_, .alloc _, _, _, _, _⟩ :: _) _ _); refine H.xa ?_; (intro g w H; simp only [Act.put, q1_, q2_, q3_]))
    | ((with_reducible show wpList _ _ _ (⟨_, .load _ _, _, _, _, _⟩ :: _) _ _); (first | refine H.xl ?_ | refine H.xm ?_); simp only [Act.put, q1_, q2_, q3_])
    | ((with_reducible show wpList _ _ _ (⟨_, .store _ _ _, _, _, _, _⟩ :: _) _ _); (first | refine H.xs ?_ | refine H.xt ?_); (intro w H; simp only [Act.put]))
    | (go_at_call 135; ((with_reducible refine (cM _).mono ?_); rintro e w ⟨rfl, hb⟩; replace H := H.call hb; clear hb))
    | (go_at_call 136; ((with_reducible refine (cA _).mono ?_); rintro e w ⟨rfl, hb⟩; replace H := H.call hb; clear hb))
    )
      refine bodyPost_ret (results_ct rfl rfl (H.res rW v2_ (ext_limbs _) (by rfl))) rfl ⟨?_, H.below⟩
      rfl
open Go.RowKit Go.Proofs.YtgmhmpflmgfcdaaGreatDoorW.PrintWords Go.Proofs.YtgmhmpflmgfcdaaGreatDoor.PDivQuotients
theorem r19R_exact (f m a v0 v1 v2 : Nat) (neg x1 : Bool) (nn dd : ByteArray) (ee er : Int) (w : World) (cV : CK_ 88 #[.int .u8 f, BV a] (.tuple #[.agg (exC neg nn dd ee), .int .i64 er])) (cF : CK_ 130 #[.agg (exC neg nn dd ee), .int .i64 0] (.tuple #[.string (strB v0), .bool true, .int .i64 0]))  :
    Calls Tryz.prog 55 #[.int .u8 f, .int .u8 m, BV a] w fun e w' => e = .returned (.tuple #[.string (strB v0), .bool true]) ∧ Below w.heap.size w w' := by
  have H := Own.start w
  go_enter Tryz.func55, Tryz.ntmps55
  exact walk1
theorem r19R_ADt (f m a v0 v1 v2 : Nat) (neg x1 : Bool) (nn dd : ByteArray) (ee er : Int) (w : World) (l1 : Int) (cV : CK_ 88 #[.int .u8 f, BV a] (.tuple #[.agg (exC neg nn dd ee), .int .i64 er])) (cF : CK_ 130 #[.agg (exC neg nn dd ee), .int .i64 0] (.tuple #[.string (strB v0), .bool false, .int .i64 0])) (cG : CK_ 130 #[.agg (exC neg nn dd ee), .int .i64 (-1)] (.tuple #[.string (strB v1), .bool x1, .int .i64 0])) (cL : CK_ 131 #[.string (strB v1)] (.int .i64 l1)) (hl : (l1 == 0) = false) (n0 : (strB v0).toList.isEmpty = true) (m0 : (strB v0).toList = []) (cU : CK_ 132 #[.int .u8 m, .bool neg, .bool false, .int .i64 (-1), .bool false] (.bool true)) (cA : CK_ 133 #[.string (strB v0), .string ⟨#[1]⟩] (.tuple #[.string (strB v2), .int .i64 0]))  :
    Calls Tryz.prog 55 #[.int .u8 f, .int .u8 m, BV a] w fun e w' => e = .returned (.tuple #[.string (strB v2), .bool false]) ∧ Below w.heap.size w w' := by
  have H := Own.start w
  go_enter Tryz.func55, Tryz.ntmps55
  exact walk1
theorem r19R_ADf (f m a v0 v1 v2 : Nat) (neg x1 : Bool) (nn dd : ByteArray) (ee er : Int) (w : World) (l1 : Int) (cV : CK_ 88 #[.int .u8 f, BV a] (.tuple #[.agg (exC neg nn dd ee), .int .i64 er])) (cF : CK_ 130 #[.agg (exC neg nn dd ee), .int .i64 0] (.tuple #[.string (strB v0), .bool false, .int .i64 0])) (cG : CK_ 130 #[.agg (exC neg nn dd ee), .int .i64 (-1)] (.tuple #[.string (strB v1), .bool x1, .int .i64 0])) (cL : CK_ 131 #[.string (strB v1)] (.int .i64 l1)) (hl : (l1 == 0) = false) (n0 : (strB v0).toList.isEmpty = true) (m0 : (strB v0).toList = []) (cU : CK_ 132 #[.int .u8 m, .bool neg, .bool false, .int .i64 (-1), .bool false] (.bool false))  :
    Calls Tryz.prog 55 #[.int .u8 f, .int .u8 m, BV a] w fun e w' => e = .returned (.tuple #[.string (strB v0), .bool false]) ∧ Below w.heap.size w w' := by
  have H := Own.start w
  go_enter Tryz.func55, Tryz.ntmps55
  exact walk1
theorem r19R_AEt (f m a v0 v1 v2 : Nat) (neg x1 : Bool) (nn dd : ByteArray) (ee er : Int) (w : World) (l1 : Int) (l0 : Int) (cV : CK_ 88 #[.int .u8 f, BV a] (.tuple #[.agg (exC neg nn dd ee), .int .i64 er])) (cF : CK_ 130 #[.agg (exC neg nn dd ee), .int .i64 0] (.tuple #[.string (strB v0), .bool false, .int .i64 0])) (cG : CK_ 130 #[.agg (exC neg nn dd ee), .int .i64 (-1)] (.tuple #[.string (strB v1), .bool x1, .int .i64 0])) (cL : CK_ 131 #[.string (strB v1)] (.int .i64 l1)) (hl : (l1 == 0) = false) (n0 : (strB v0).toList.isEmpty = false) (m0 : ¬ (strB v0).toList = []) (cK : CK_ 131 #[.string (strB v0)] (.int .i64 l0)) (cU : CK_ 132 #[.int .u8 m, .bool neg, .bool (l0 == 0), .int .i64 (-1), .bool false] (.bool true)) (cA : CK_ 133 #[.string (strB v0), .string ⟨#[1]⟩] (.tuple #[.string (strB v2), .int .i64 0]))  :
    Calls Tryz.prog 55 #[.int .u8 f, .int .u8 m, BV a] w fun e w' => e = .returned (.tuple #[.string (strB v2), .bool false]) ∧ Below w.heap.size w w' := by
  have H := Own.start w
  go_enter Tryz.func55, Tryz.ntmps55
  exact walk1
theorem r19R_AEf (f m a v0 v1 v2 : Nat) (neg x1 : Bool) (nn dd : ByteArray) (ee er : Int) (w : World) (l1 : Int) (l0 : Int) (cV : CK_ 88 #[.int .u8 f, BV a] (.tuple #[.agg (exC neg nn dd ee), .int .i64 er])) (cF : CK_ 130 #[.agg (exC neg nn dd ee), .int .i64 0] (.tuple #[.string (strB v0), .bool false, .int .i64 0])) (cG : CK_ 130 #[.agg (exC neg nn dd ee), .int .i64 (-1)] (.tuple #[.string (strB v1), .bool x1, .int .i64 0])) (cL : CK_ 131 #[.string (strB v1)] (.int .i64 l1)) (hl : (l1 == 0) = false) (n0 : (strB v0).toList.isEmpty = false) (m0 : ¬ (strB v0).toList = []) (cK : CK_ 131 #[.string (strB v0)] (.int .i64 l0)) (cU : CK_ 132 #[.int .u8 m, .bool neg, .bool (l0 == 0), .int .i64 (-1), .bool false] (.bool false))  :
    Calls Tryz.prog 55 #[.int .u8 f, .int .u8 m, BV a] w fun e w' => e = .returned (.tuple #[.string (strB v0), .bool false]) ∧ Below w.heap.size w w' := by
  have H := Own.start w
  go_enter Tryz.func55, Tryz.ntmps55
  exact walk1
theorem r19R_BDt (f m a v0 v1 v2 : Nat) (neg x1 : Bool) (nn dd : ByteArray) (ee er : Int) (w : World) (l1 : Int) (cV : CK_ 88 #[.int .u8 f, BV a] (.tuple #[.agg (exC neg nn dd ee), .int .i64 er])) (cF : CK_ 130 #[.agg (exC neg nn dd ee), .int .i64 0] (.tuple #[.string (strB v0), .bool false, .int .i64 0])) (cG : CK_ 130 #[.agg (exC neg nn dd ee), .int .i64 (-1)] (.tuple #[.string (strB v1), .bool x1, .int .i64 0])) (cL : CK_ 131 #[.string (strB v1)] (.int .i64 l1)) (hl : (l1 == 0) = true) (n1 : (strB v1).toList.isEmpty = true) (m1 : (strB v1).toList = []) (n0 : (strB v0).toList.isEmpty = true) (m0 : (strB v0).toList = []) (cU : CK_ 132 #[.int .u8 m, .bool neg, .bool false, .int .i64 (-1), .bool false] (.bool true)) (cA : CK_ 133 #[.string (strB v0), .string ⟨#[1]⟩] (.tuple #[.string (strB v2), .int .i64 0]))  :
    Calls Tryz.prog 55 #[.int .u8 f, .int .u8 m, BV a] w fun e w' => e = .returned (.tuple #[.string (strB v2), .bool false]) ∧ Below w.heap.size w w' := by
  have H := Own.start w
  go_enter Tryz.func55, Tryz.ntmps55
  exact walk1
theorem r19R_BDf (f m a v0 v1 v2 : Nat) (neg x1 : Bool) (nn dd : ByteArray) (ee er : Int) (w : World) (l1 : Int) (cV : CK_ 88 #[.int .u8 f, BV a] (.tuple #[.agg (exC neg nn dd ee), .int .i64 er])) (cF : CK_ 130 #[.agg (exC neg nn dd ee), .int .i64 0] (.tuple #[.string (strB v0), .bool false, .int .i64 0])) (cG : CK_ 130 #[.agg (exC neg nn dd ee), .int .i64 (-1)] (.tuple #[.string (strB v1), .bool x1, .int .i64 0])) (cL : CK_ 131 #[.string (strB v1)] (.int .i64 l1)) (hl : (l1 == 0) = true) (n1 : (strB v1).toList.isEmpty = true) (m1 : (strB v1).toList = []) (n0 : (strB v0).toList.isEmpty = true) (m0 : (strB v0).toList = []) (cU : CK_ 132 #[.int .u8 m, .bool neg, .bool false, .int .i64 (-1), .bool false] (.bool false))  :
    Calls Tryz.prog 55 #[.int .u8 f, .int .u8 m, BV a] w fun e w' => e = .returned (.tuple #[.string (strB v0), .bool false]) ∧ Below w.heap.size w w' := by
  have H := Own.start w
  go_enter Tryz.func55, Tryz.ntmps55
  exact walk1
theorem r19R_BEt (f m a v0 v1 v2 : Nat) (neg x1 : Bool) (nn dd : ByteArray) (ee er : Int) (w : World) (l1 : Int) (l0 : Int) (cV : CK_ 88 #[.int .u8 f, BV a] (.tuple #[.agg (exC neg nn dd ee), .int .i64 er])) (cF : CK_ 130 #[.agg (exC neg nn dd ee), .int .i64 0] (.tuple #[.string (strB v0), .bool false, .int .i64 0])) (cG : CK_ 130 #[.agg (exC neg nn dd ee), .int .i64 (-1)] (.tuple #[.string (strB v1), .bool x1, .int .i64 0])) (cL : CK_ 131 #[.string (strB v1)] (.int .i64 l1)) (hl : (l1 == 0) = true) (n1 : (strB v1).toList.isEmpty = true) (m1 : (strB v1).toList = []) (n0 : (strB v0).toList.isEmpty = false) (m0 : ¬ (strB v0).toList = []) (cK : CK_ 131 #[.string (strB v0)] (.int .i64 l0)) (cU : CK_ 132 #[.int .u8 m, .bool neg, .bool (l0 == 0), .int .i64 (-1), .bool false] (.bool true)) (cA : CK_ 133 #[.string (strB v0), .string ⟨#[1]⟩] (.tuple #[.string (strB v2), .int .i64 0]))  :
    Calls Tryz.prog 55 #[.int .u8 f, .int .u8 m, BV a] w fun e w' => e = .returned (.tuple #[.string (strB v2), .bool false]) ∧ Below w.heap.size w w' := by
  have H := Own.start w
  go_enter Tryz.func55, Tryz.ntmps55
  exact walk1
theorem r19R_BEf (f m a v0 v1 v2 : Nat) (neg x1 : Bool) (nn dd : ByteArray) (ee er : Int) (w : World) (l1 : Int) (l0 : Int) (cV : CK_ 88 #[.int .u8 f, BV a] (.tuple #[.agg (exC neg nn dd ee), .int .i64 er])) (cF : CK_ 130 #[.agg (exC neg nn dd ee), .int .i64 0] (.tuple #[.string (strB v0), .bool false, .int .i64 0])) (cG : CK_ 130 #[.agg (exC neg nn dd ee), .int .i64 (-1)] (.tuple #[.string (strB v1), .bool x1, .int .i64 0])) (cL : CK_ 131 #[.string (strB v1)] (.int .i64 l1)) (hl : (l1 == 0) = true) (n1 : (strB v1).toList.isEmpty = true) (m1 : (strB v1).toList = []) (n0 : (strB v0).toList.isEmpty = false) (m0 : ¬ (strB v0).toList = []) (cK : CK_ 131 #[.string (strB v0)] (.int .i64 l0)) (cU : CK_ 132 #[.int .u8 m, .bool neg, .bool (l0 == 0), .int .i64 (-1), .bool false] (.bool false))  :
    Calls Tryz.prog 55 #[.int .u8 f, .int .u8 m, BV a] w fun e w' => e = .returned (.tuple #[.string (strB v0), .bool false]) ∧ Below w.heap.size w w' := by
  have H := Own.start w
  go_enter Tryz.func55, Tryz.ntmps55
  exact walk1
theorem r19R_C0Dt (f m a v0 v1 v2 : Nat) (neg x1 : Bool) (nn dd : ByteArray) (ee er : Int) (w : World) (l1 : Int) (cV : CK_ 88 #[.int .u8 f, BV a] (.tuple #[.agg (exC neg nn dd ee), .int .i64 er])) (cF : CK_ 130 #[.agg (exC neg nn dd ee), .int .i64 0] (.tuple #[.string (strB v0), .bool false, .int .i64 0])) (cG : CK_ 130 #[.agg (exC neg nn dd ee), .int .i64 (-1)] (.tuple #[.string (strB v1), .bool true, .int .i64 0])) (cL : CK_ 131 #[.string (strB v1)] (.int .i64 l1)) (hl : (l1 == 0) = true) (n1 : (strB v1).toList.isEmpty = false) (m1 : ¬ (strB v1).toList = []) (n0 : (strB v0).toList.isEmpty = true) (m0 : (strB v0).toList = []) (cU : CK_ 132 #[.int .u8 m, .bool neg, .bool false, .int .i64 0, .bool false] (.bool true)) (cA : CK_ 133 #[.string (strB v0), .string ⟨#[1]⟩] (.tuple #[.string (strB v2), .int .i64 0]))  :
    Calls Tryz.prog 55 #[.int .u8 f, .int .u8 m, BV a] w fun e w' => e = .returned (.tuple #[.string (strB v2), .bool false]) ∧ Below w.heap.size w w' := by
  have H := Own.start w
  go_enter Tryz.func55, Tryz.ntmps55
  exact walk1
theorem r19R_C0Df (f m a v0 v1 v2 : Nat) (neg x1 : Bool) (nn dd : ByteArray) (ee er : Int) (w : World) (l1 : Int) (cV : CK_ 88 #[.int .u8 f, BV a] (.tuple #[.agg (exC neg nn dd ee), .int .i64 er])) (cF : CK_ 130 #[.agg (exC neg nn dd ee), .int .i64 0] (.tuple #[.string (strB v0), .bool false, .int .i64 0])) (cG : CK_ 130 #[.agg (exC neg nn dd ee), .int .i64 (-1)] (.tuple #[.string (strB v1), .bool true, .int .i64 0])) (cL : CK_ 131 #[.string (strB v1)] (.int .i64 l1)) (hl : (l1 == 0) = true) (n1 : (strB v1).toList.isEmpty = false) (m1 : ¬ (strB v1).toList = []) (n0 : (strB v0).toList.isEmpty = true) (m0 : (strB v0).toList = []) (cU : CK_ 132 #[.int .u8 m, .bool neg, .bool false, .int .i64 0, .bool false] (.bool false))  :
    Calls Tryz.prog 55 #[.int .u8 f, .int .u8 m, BV a] w fun e w' => e = .returned (.tuple #[.string (strB v0), .bool false]) ∧ Below w.heap.size w w' := by
  have H := Own.start w
  go_enter Tryz.func55, Tryz.ntmps55
  exact walk1
theorem r19R_C0Et (f m a v0 v1 v2 : Nat) (neg x1 : Bool) (nn dd : ByteArray) (ee er : Int) (w : World) (l1 : Int) (l0 : Int) (cV : CK_ 88 #[.int .u8 f, BV a] (.tuple #[.agg (exC neg nn dd ee), .int .i64 er])) (cF : CK_ 130 #[.agg (exC neg nn dd ee), .int .i64 0] (.tuple #[.string (strB v0), .bool false, .int .i64 0])) (cG : CK_ 130 #[.agg (exC neg nn dd ee), .int .i64 (-1)] (.tuple #[.string (strB v1), .bool true, .int .i64 0])) (cL : CK_ 131 #[.string (strB v1)] (.int .i64 l1)) (hl : (l1 == 0) = true) (n1 : (strB v1).toList.isEmpty = false) (m1 : ¬ (strB v1).toList = []) (n0 : (strB v0).toList.isEmpty = false) (m0 : ¬ (strB v0).toList = []) (cK : CK_ 131 #[.string (strB v0)] (.int .i64 l0)) (cU : CK_ 132 #[.int .u8 m, .bool neg, .bool (l0 == 0), .int .i64 0, .bool false] (.bool true)) (cA : CK_ 133 #[.string (strB v0), .string ⟨#[1]⟩] (.tuple #[.string (strB v2), .int .i64 0]))  :
    Calls Tryz.prog 55 #[.int .u8 f, .int .u8 m, BV a] w fun e w' => e = .returned (.tuple #[.string (strB v2), .bool false]) ∧ Below w.heap.size w w' := by
  have H := Own.start w
  go_enter Tryz.func55, Tryz.ntmps55
  exact walk1
theorem r19R_C0Ef (f m a v0 v1 v2 : Nat) (neg x1 : Bool) (nn dd : ByteArray) (ee er : Int) (w : World) (l1 : Int) (l0 : Int) (cV : CK_ 88 #[.int .u8 f, BV a] (.tuple #[.agg (exC neg nn dd ee), .int .i64 er])) (cF : CK_ 130 #[.agg (exC neg nn dd ee), .int .i64 0] (.tuple #[.string (strB v0), .bool false, .int .i64 0])) (cG : CK_ 130 #[.agg (exC neg nn dd ee), .int .i64 (-1)] (.tuple #[.string (strB v1), .bool true, .int .i64 0])) (cL : CK_ 131 #[.string (strB v1)] (.int .i64 l1)) (hl : (l1 == 0) = true) (n1 : (strB v1).toList.isEmpty = false) (m1 : ¬ (strB v1).toList = []) (n0 : (strB v0).toList.isEmpty = false) (m0 : ¬ (strB v0).toList = []) (cK : CK_ 131 #[.string (strB v0)] (.int .i64 l0)) (cU : CK_ 132 #[.int .u8 m, .bool neg, .bool (l0 == 0), .int .i64 0, .bool false] (.bool false))  :
    Calls Tryz.prog 55 #[.int .u8 f, .int .u8 m, BV a] w fun e w' => e = .returned (.tuple #[.string (strB v0), .bool false]) ∧ Below w.heap.size w w' := by
  have H := Own.start w
  go_enter Tryz.func55, Tryz.ntmps55
  exact walk1
theorem r19R_C1Dt (f m a v0 v1 v2 : Nat) (neg x1 : Bool) (nn dd : ByteArray) (ee er : Int) (w : World) (l1 : Int) (cV : CK_ 88 #[.int .u8 f, BV a] (.tuple #[.agg (exC neg nn dd ee), .int .i64 er])) (cF : CK_ 130 #[.agg (exC neg nn dd ee), .int .i64 0] (.tuple #[.string (strB v0), .bool false, .int .i64 0])) (cG : CK_ 130 #[.agg (exC neg nn dd ee), .int .i64 (-1)] (.tuple #[.string (strB v1), .bool false, .int .i64 0])) (cL : CK_ 131 #[.string (strB v1)] (.int .i64 l1)) (hl : (l1 == 0) = true) (n1 : (strB v1).toList.isEmpty = false) (m1 : ¬ (strB v1).toList = []) (n0 : (strB v0).toList.isEmpty = true) (m0 : (strB v0).toList = []) (cU : CK_ 132 #[.int .u8 m, .bool neg, .bool false, .int .i64 1, .bool false] (.bool true)) (cA : CK_ 133 #[.string (strB v0), .string ⟨#[1]⟩] (.tuple #[.string (strB v2), .int .i64 0]))  :
    Calls Tryz.prog 55 #[.int .u8 f, .int .u8 m, BV a] w fun e w' => e = .returned (.tuple #[.string (strB v2), .bool false]) ∧ Below w.heap.size w w' := by
  have H := Own.start w
  go_enter Tryz.func55, Tryz.ntmps55
  exact walk1
theorem r19R_C1Df (f m a v0 v1 v2 : Nat) (neg x1 : Bool) (nn dd : ByteArray) (ee er : Int) (w : World) (l1 : Int) (cV : CK_ 88 #[.int .u8 f, BV a] (.tuple #[.agg (exC neg nn dd ee), .int .i64 er])) (cF : CK_ 130 #[.agg (exC neg nn dd ee), .int .i64 0] (.tuple #[.string (strB v0), .bool false, .int .i64 0])) (cG : CK_ 130 #[.agg (exC neg nn dd ee), .int .i64 (-1)] (.tuple #[.string (strB v1), .bool false, .int .i64 0])) (cL : CK_ 131 #[.string (strB v1)] (.int .i64 l1)) (hl : (l1 == 0) = true) (n1 : (strB v1).toList.isEmpty = false) (m1 : ¬ (strB v1).toList = []) (n0 : (strB v0).toList.isEmpty = true) (m0 : (strB v0).toList = []) (cU : CK_ 132 #[.int .u8 m, .bool neg, .bool false, .int .i64 1, .bool false] (.bool false))  :
    Calls Tryz.prog 55 #[.int .u8 f, .int .u8 m, BV a] w fun e w' => e = .returned (.tuple #[.string (strB v0), .bool false]) ∧ Below w.heap.size w w' := by
  have H := Own.start w
  go_enter Tryz.func55, Tryz.ntmps55
  exact walk1
theorem r19R_C1Et (f m a v0 v1 v2 : Nat) (neg x1 : Bool) (nn dd : ByteArray) (ee er : Int) (w : World) (l1 : Int) (l0 : Int) (cV : CK_ 88 #[.int .u8 f, BV a] (.tuple #[.agg (exC neg nn dd ee), .int .i64 er])) (cF : CK_ 130 #[.agg (exC neg nn dd ee), .int .i64 0] (.tuple #[.string (strB v0), .bool false, .int .i64 0])) (cG : CK_ 130 #[.agg (exC neg nn dd ee), .int .i64 (-1)] (.tuple #[.string (strB v1), .bool false, .int .i64 0])) (cL : CK_ 131 #[.string (strB v1)] (.int .i64 l1)) (hl : (l1 == 0) = true) (n1 : (strB v1).toList.isEmpty = false) (m1 : ¬ (strB v1).toList = []) (n0 : (strB v0).toList.isEmpty = false) (m0 : ¬ (strB v0).toList = []) (cK : CK_ 131 #[.string (strB v0)] (.int .i64 l0)) (cU : CK_ 132 #[.int .u8 m, .bool neg, .bool (l0 == 0), .int .i64 1, .bool false] (.bool true)) (cA : CK_ 133 #[.string (strB v0), .string ⟨#[1]⟩] (.tuple #[.string (strB v2), .int .i64 0]))  :
    Calls Tryz.prog 55 #[.int .u8 f, .int .u8 m, BV a] w fun e w' => e = .returned (.tuple #[.string (strB v2), .bool false]) ∧ Below w.heap.size w w' := by
  have H := Own.start w
  go_enter Tryz.func55, Tryz.ntmps55
  exact walk1
theorem r19R_C1Ef (f m a v0 v1 v2 : Nat) (neg x1 : Bool) (nn dd : ByteArray) (ee er : Int) (w : World) (l1 : Int) (l0 : Int) (cV : CK_ 88 #[.int .u8 f, BV a] (.tuple #[.agg (exC neg nn dd ee), .int .i64 er])) (cF : CK_ 130 #[.agg (exC neg nn dd ee), .int .i64 0] (.tuple #[.string (strB v0), .bool false, .int .i64 0])) (cG : CK_ 130 #[.agg (exC neg nn dd ee), .int .i64 (-1)] (.tuple #[.string (strB v1), .bool false, .int .i64 0])) (cL : CK_ 131 #[.string (strB v1)] (.int .i64 l1)) (hl : (l1 == 0) = true) (n1 : (strB v1).toList.isEmpty = false) (m1 : ¬ (strB v1).toList = []) (n0 : (strB v0).toList.isEmpty = false) (m0 : ¬ (strB v0).toList = []) (cK : CK_ 131 #[.string (strB v0)] (.int .i64 l0)) (cU : CK_ 132 #[.int .u8 m, .bool neg, .bool (l0 == 0), .int .i64 1, .bool false] (.bool false))  :
    Calls Tryz.prog 55 #[.int .u8 f, .int .u8 m, BV a] w fun e w' => e = .returned (.tuple #[.string (strB v0), .bool false]) ∧ Below w.heap.size w w' := by
  have H := Own.start w
  go_enter Tryz.func55, Tryz.ntmps55
  exact walk1
def sumX (f m : Nat) (nx : Bool) (sx : Nat) (ex : Int) (ny : Bool) (sy : Nat) (ey : Int) : Nat × Nat :=
  if nx = ny then packB f m nx (sx * 2 ^ (ex - min ex ey).toNat + sy * 2 ^ (ey - min ex ey).toNat) (min ex ey) false
  else if sx * 2 ^ (ex - min ex ey).toNat = sy * 2 ^ (ey - min ex ey).toNat then (zeroN f (decide (m = 2)), 0)
  else if sy * 2 ^ (ey - min ex ey).toNat < sx * 2 ^ (ex - min ex ey).toNat then packB f m nx (sx * 2 ^ (ex - min ex ey).toNat - sy * 2 ^ (ey - min ex ey).toNat) (min ex ey) false
  else packB f m ny (sy * 2 ^ (ey - min ex ey).toNat - sx * 2 ^ (ex - min ex ey).toNat) (min ex ey) false
def addR (f m a b : Nat) : Nat × Nat :=
  if (nanB (clsN f a) || nanB (clsN f b)) = true then canonR f (clsN f a) (clsN f b)
  else if (infB (clsN f a) && infB (clsN f b) && !decide (clsN f a = clsN f b)) = true then (nanN f, 16)
  else if infB (clsN f a) = true then (a, 0)
  else if infB (clsN f b) = true then (b, 0)
  else if (zerB (clsN f a) && zerB (clsN f b)) = true then (if clsN f a = clsN f b then (a, 0) else (zeroN f (decide (m = 2)), 0))
  else if zerB (clsN f a) = true then (b, 0)
  else if zerB (clsN f b) = true then (a, 0)
  else sumX f m (belowN4 (clsN f a)) (sigN f a) (xpN f a) (belowN4 (clsN f b)) (sigN f b) (xpN f b)
theorem add_zero (f m a : Nat) (hf : f < 4) (hc : Fin0 f a ∨ clsN f a = 3 ∨ clsN f a = 4) : addR f m a (zeroN f (negN f a)) = (a, 0) := by
  obtain ⟨z1, z2⟩ := zero_parts f (negN f a) hf
  have hz : clsN f (zeroN f (negN f a)) = 3 ∨ clsN f (zeroN f (negN f a)) = 4 := by rw [z2]; cases negN f a <;> simp
  obtain ⟨b1, b2, b3⟩ := zer_flags f _ hz
  unfold addR
  rw [b1, b2, b3]
  rcases hc with hc | hc
  · obtain ⟨a1, a2, a3⟩ := fin_flags f a hc
    rw [a1, a2, a3]; simp
  · obtain ⟨a1, a2, a3⟩ := zer_flags f a hc
    have he : clsN f a = clsN f (zeroN f (negN f a)) := by
      rw [z2, ← below_neg f a (by omega)]; unfold belowN4; rcases hc with h | h <;> rw [h] <;> rfl
    rw [a1, a2, a3, if_pos he]; simp
theorem lt_113_6 (x n : Nat) (hn : n ≤ 384) (h : x < 2 ^ n) : x < top6 := lt_pwr top6 n (64 * 6) _ top6.eq_1 hn h
open Go.RowKit
theorem r10Up_x (m : Nat) (h : Int) (neg odd : Bool) (w : World)  :
    Calls Tryz.prog 132 #[.int .u8 m, .bool neg, .bool odd, .int .i64 h, .bool true] w fun e w' => e = .returned (.bool false) ∧ Below w.heap.size w w' := by
  have H := Own.start w
  go_enter Tryz.func132, Tryz.ntmps132
  exact walk1
theorem r10Up_1 (h : Int) (neg odd : Bool) (w : World)  :
    Calls Tryz.prog 132 #[.int .u8 1, .bool neg, .bool odd, .int .i64 h, .bool false] w fun e w' => e = .returned (.bool false) ∧ Below w.heap.size w w' := by
  have H := Own.start w
  go_enter Tryz.func132, Tryz.ntmps132
  exact walk1
theorem r10Up_2 (h : Int) (neg odd : Bool) (w : World)  :
    Calls Tryz.prog 132 #[.int .u8 2, .bool neg, .bool odd, .int .i64 h, .bool false] w fun e w' => e = .returned (.bool neg) ∧ Below w.heap.size w w' := by
  have H := Own.start w
  go_enter Tryz.func132, Tryz.ntmps132
  exact walk1
theorem r10Up_3 (h : Int) (neg odd : Bool) (w : World)  :
    Calls Tryz.prog 132 #[.int .u8 3, .bool neg, .bool odd, .int .i64 h, .bool false] w fun e w' => e = .returned (.bool (!neg)) ∧ Below w.heap.size w w' := by
  have H := Own.start w
  go_enter Tryz.func132, Tryz.ntmps132
  exact walk1
theorem r10Up_0p (h : Int) (neg odd : Bool) (w : World) (q : decide (0 < h) = true)  :
    Calls Tryz.prog 132 #[.int .u8 0, .bool neg, .bool odd, .int .i64 h, .bool false] w fun e w' => e = .returned (.bool true) ∧ Below w.heap.size w w' := by
  have H := Own.start w
  go_enter Tryz.func132, Tryz.ntmps132
  exact walk1
theorem r10Up_0z (neg odd : Bool) (w : World)  :
    Calls Tryz.prog 132 #[.int .u8 0, .bool neg, .bool odd, .int .i64 0, .bool false] w fun e w' => e = .returned (.bool odd) ∧ Below w.heap.size w w' := by
  have H := Own.start w
  go_enter Tryz.func132, Tryz.ntmps132
  exact walk1
theorem r10Up_0n (h : Int) (neg odd : Bool) (w : World) (q : decide (0 < h) = false) (q1 : (h == 0) = false) (q2 : ¬ h = 0) (q3 : h < 0)  :
    Calls Tryz.prog 132 #[.int .u8 0, .bool neg, .bool odd, .int .i64 h, .bool false] w fun e w' => e = .returned (.bool false) ∧ Below w.heap.size w w' := by
  have H := Own.start w
  go_enter Tryz.func132, Tryz.ntmps132
  exact walk1
theorem r10Up_4y (h : Int) (neg odd : Bool) (w : World) (q : decide (0 ≤ h) = true)  :
    Calls Tryz.prog 132 #[.int .u8 4, .bool neg, .bool odd, .int .i64 h, .bool false] w fun e w' => e = .returned (.bool true) ∧ Below w.heap.size w w' := by
  have H := Own.start w
  go_enter Tryz.func132, Tryz.ntmps132
  exact walk1
theorem r10Up_4n (h : Int) (neg odd : Bool) (w : World) (q : decide (0 ≤ h) = false)  :
    Calls Tryz.prog 132 #[.int .u8 4, .bool neg, .bool odd, .int .i64 h, .bool false] w fun e w' => e = .returned (.bool false) ∧ Below w.heap.size w w' := by
  have H := Own.start w
  go_enter Tryz.func132, Tryz.ntmps132
  exact walk1
theorem r10Up_b (m : Nat) (h : Int) (neg odd : Bool) (w : World) (k0 : ((m : Int) == 0) = false) (k2 : ((m : Int) == 2) = false) (k3 : ((m : Int) == 3) = false) (k4 : ((m : Int) == 4) = false)  :
    Calls Tryz.prog 132 #[.int .u8 m, .bool neg, .bool odd, .int .i64 h, .bool false] w fun e w' => e = .returned (.bool false) ∧ Below w.heap.size w w' := by
  have H := Own.start w
  go_enter Tryz.func132, Tryz.ntmps132
  exact walk1
theorem r10Up_any (m : Nat) (neg odd ex : Bool) (h : Int) (w : World) : Calls Tryz.prog 132 #[.int .u8 m, .bool neg, .bool odd, .int .i64 h, .bool ex] w fun e' w' => e' = .returned (.bool (upB m neg odd h ex)) ∧ Below w.heap.size w w' := by
  cases ex
  · obtain rfl | rfl | rfl | rfl | rfl | h5 : m = 0 ∨ m = 1 ∨ m = 2 ∨ m = 3 ∨ m = 4 ∨ 5 ≤ m := by omega
    · rcases Int.lt_trichotomy h 0 with h1 | h1 | h1
      · rw [show upB 0 neg odd h false = false by unfold upB; simp; omega]
        exact r10Up_0n h neg odd w (decide_eq_false (by omega)) (by rw [beq_eq_false_iff_ne]; omega) (by omega) h1
      · subst h1
        rw [show upB 0 neg odd 0 false = odd by unfold upB; simp]
        exact r10Up_0z neg odd w
      · rw [show upB 0 neg odd h false = true by unfold upB; simp [h1]]
        exact r10Up_0p h neg odd w (decide_eq_true h1)
    · exact r10Up_1 h neg odd w
    · exact r10Up_2 h neg odd w
    · exact r10Up_3 h neg odd w
    · by_cases h1 : 0 ≤ h
      · rw [show upB 4 neg odd h false = true by unfold upB; simp [h1]]
        exact r10Up_4y h neg odd w (decide_eq_true h1)
      · rw [show upB 4 neg odd h false = false by unfold upB; simp [h1]]
        exact r10Up_4n h neg odd w (decide_eq_false h1)
    · rw [upB_big m neg odd h false h5]
      exact r10Up_b m h neg odd w (int_eq_false m 0 (by omega)) (int_eq_false m 2 (by omega)) (int_eq_false m 3 (by omega)) (int_eq_false m 4 (by omega))
  · rw [show upB m neg odd h true = false by unfold upB; rfl]
    exact r10Up_x m h neg odd w
open Go.RowKit Go.Proofs.YtgmhmpflmgfcdaaGreatDoorW.PrintWords Go.Proofs.YtgmhmpflmgfcdaaGreatDoor.PDivQuotients
theorem odd_low (v : Nat) (h : v ≠ 0) : (((lowZ v : Nat) : Int) == 0) = decide (v % 2 = 1) := by
  rw [Bool.eq_iff_iff, beq_iff_eq, decide_eq_true_iff]
  constructor
  · intro h0
    have h1 : lowZ v = 0 := by omega
    have h2 := (low_split v h).2.1
    rw [h1, Nat.pow_zero, Nat.div_one] at h2; exact h2
  · intro h1; rw [low_again v h1]; rfl
theorem even_low (v : Nat) (h : (((lowZ v : Nat) : Int) == 0) = false) : v % 2 ≠ 1 := by
  intro h1; rw [low_again v h1] at h; cases h
theorem str_full (v : Nat) (h : v ≠ 0) : (strB v).toList.isEmpty = false ∧ ¬ (strB v).toList = ([] : List UInt8) := by
  have h1 : ¬ (strB v).toList = ([] : List UInt8) := fun e => h ((strB_empty v).1 e)
  refine ⟨?_, h1⟩
  cases hl : (strB v).toList with
  | nil => exact absurd hl h1
  | cons a l => rfl
theorem str_none (v : Nat) (h : v = 0) : (strB v).toList.isEmpty = true ∧ (strB v).toList = ([] : List UInt8) := by
  have h1 := (strB_empty v).2 h
  exact ⟨by rw [h1]; rfl, h1⟩
theorem lenN_mono (x y : Nat) (h : x ≤ y) : lenN x ≤ lenN y := (lenN_le x _).2 (Nat.lt_of_le_of_lt h (lenN_lt y))
theorem nb_of_len (x l : Nat) (h : lenN x ≤ l) (hl : l ≤ 120000) : nb x ≤ 15001 := by unfold nb; omega
theorem fl_nb (n d : Nat) (e a : Int) (hn : lenN n ≤ 1000) (he : e - a ≤ 100000) : nb (ratFl n d e a) ≤ 15001 := by
  unfold ratFl
  by_cases h0 : n = 0
  · subst h0; rw [Nat.zero_mul, Nat.zero_div]; decide
  · refine nb_of_len _ (lenN (n * 2 ^ (e - a).toNat)) (lenN_mono _ _ (Nat.div_le_self _ _)) ?_
    rw [lenN_mul_pow n _ h0]; omega
theorem one_form (s : Nat) (x : Int) (hs : s < 2 ^ 113) (h1 : -40000 ≤ x) (h2 : x ≤ 40000) : lenN (numX s 1) ≤ 113 ∧ denX s 1 = 1 ∧ -40000 ≤ expX s 1 x ∧ expX s 1 x ≤ 40113 := by
  have hl := (lenN_le s 113).2 hs
  by_cases h0 : s = 0
  · subst h0; unfold numX denX expX; simp; decide
  · obtain ⟨e1, e2, e3⟩ := numX_one s h0 x
    have h3 := lowZ_lt s h0
    rw [e1, e2, e3]
    exact ⟨Nat.le_trans (lenN_mono _ _ (Nat.div_le_self _ _)) hl, rfl, by omega, by omega⟩
theorem round_plain (s : Nat) (x : Int) (m : Nat) (neg : Bool) (d : Nat) (hd : d = denX s 1) :
    (ratFl (numX s 1) d (expX s 1 x) 0 + cond (upB m (negX' neg s) (decide (ratFl (numX s 1) d (expX s 1 x) 0 % 2 = 1)) (if ratEx (numX s 1) d (expX s 1 x) 0 = true then -1 else if ratFl (numX s 1) d (expX s 1 x) (-1) % 2 = 1 then (if ratEx (numX s 1) d (expX s 1 x) (-1) = true then 0 else 1) else -1) (ratEx (numX s 1) d (expX s 1 x) 0)) 1 0,
      ratEx (numX s 1) d (expX s 1 x) 0) = gridN m neg s x false 0 := by
  have h1 : 0 < 1 := by decide
  have hfl : (ratS s 1 x h1).fl x = s := by
    show ratFl s 1 x x = s
    unfold ratFl; rw [show (x - x).toNat = 0 by omega, Nat.pow_zero, Nat.mul_one, Nat.mul_one, Nat.div_one]
  have hex : (ratS s 1 x h1).ex x = true := by
    show ratEx s 1 x x = true
    unfold ratEx; rw [show (x - x).toNat = 0 by omega, Nat.pow_zero, Nat.mul_one, Nat.mod_one]; rfl
  have key := grid_src (ratS s 1 x h1) m neg x 0 (Or.inl hex)
  rw [hfl, hex] at key
  have key2 : gridN m neg s x false 0 = gridR (ratS s 1 x h1) m neg 0 := key
  rw [key2]
  by_cases h0 : s = 0
  · subst h0
    have e1 : ∀ e a, ratFl 0 1 e a = 0 := fun e a => by unfold ratFl; rw [Nat.zero_mul, Nat.zero_div]
    have e2 : ∀ e a, ratEx 0 1 e a = true := fun e a => by unfold ratEx; rw [Nat.zero_mul, Nat.zero_mod]; rfl
    have e3 : numX 0 1 = 0 := rfl
    have e4 : denX 0 1 = 1 := rfl
    rw [hd, e3, e4, e1, e2]
    unfold gridR
    rw [show (ratS 0 1 x h1).fl 0 = 0 from e1 x 0, show (ratS 0 1 x h1).ex 0 = true from e2 x 0, upB_exact, upB_exact]
  · have hd' : 0 < denX s 1 := by rw [(numX_one s h0 x).2.1]; decide
    have hs := mkx_src s 1 x h0 h1 hd'
    have hn : negX' neg s = neg := by unfold negX'; rw [if_neg h0]
    rw [← hs, hn, hd]
    rfl
theorem r19Rounded_any (f m a : Nat) (w : World) (h : fitsB f a = true) (h8 : nanB (clsN f a) = false) (hi : infB (clsN f a) = false) :
    Calls Tryz.prog 55 #[.int .u8 f, .int .u8 m, BV a] w fun e w' => e = .returned (.tuple #[.string (strB (gridN m (negN f a) (sigN f a) (xpN f a) false 0).1), .bool (gridN m (negN f a) (sigN f a) (xpN f a) false 0).2]) ∧ Below w.heap.size w w' := by
  have cV := fun w => r8Value_any f a w h h8 hi
  obtain ⟨x1, x2⟩ := xpN_bound f a h
  have hs := sigN_113 f a h
  generalize sigN f a = s at *
  generalize xpN f a = x at *
  generalize negN f a = neg at *
  obtain ⟨l1, l2, l3, l4⟩ := one_form s x hs x1 x2
  rw [← round_plain s x m neg 1 l2.symm]
  rw [l2] at cV
  generalize numX s 1 = n at *
  generalize expX s 1 x = e at *
  generalize negX' neg s = ng at *
  have hn : nb n ≤ 16384 := by unfold nb; omega
  have cF := fun w => r6Floor_any ng n 1 e 0 w hn (by decide) (by decide) (by omega) (by omega) (by omega) (by omega) (Or.inr (Or.inr (by omega)))
  have cG := fun w => r6Floor_any ng n 1 e (-1) w hn (by decide) (by decide) (by omega) (by omega) (by omega) (by omega) (Or.inr (Or.inr (by omega)))
  have b0 := fl_nb n 1 e 0 (by omega) (by omega)
  have b1 := fl_nb n 1 e (-1) (by omega) (by omega)
  generalize ratFl n 1 e 0 = v0 at *
  generalize ratFl n 1 e (-1) = v1 at *
  generalize ratEx n 1 e 0 = X0 at *
  generalize ratEx n 1 e (-1) = X1 at *
  cases X0
  case true =>
    rw [upB_exact]
    exact r19R_exact f m a v0 v1 0 ng X1 _ _ _ _ w cV cF
  rw [if_neg (by decide)]
  have cL := fun w => r5Low_any v1 w (by omega)
  have cK := fun w => r5Low_any v0 w (by omega)
  have hA := fun w => r5Add_any v0 1 w (by omega) (by decide)
  rw [strB_one] at hA
  have fin : ∀ (hv : Int) (od : Bool) (P : Nat → Prop), (upB m ng od hv false = true → P (v0 + 1)) → (upB m ng od hv false = false → P v0) → P (v0 + cond (upB m ng od hv false) 1 0) := by
    intro hv od P p1 p2
    cases hu : upB m ng od hv false
    · exact p2 hu
    · exact p1 hu
  have cU := fun hv od w => r10Up_any m ng od false hv w
  by_cases hv0 : v0 = 0
  · obtain ⟨q1, q2⟩ := str_none v0 hv0
    have ho : decide (v0 % 2 = 1) = false := by rw [hv0]; rfl
    rw [ho]
    by_cases hl : (((lowZ v1 : Nat) : Int) == 0) = true
    · by_cases hv1 : v1 = 0
      · obtain ⟨p1, p2⟩ := str_none v1 hv1
        rw [if_neg (show ¬ v1 % 2 = 1 by rw [hv1]; decide)]
        refine fin (-1) false (fun q => Calls _ _ _ w fun e' w' => e' = .returned (.tuple #[.string (strB q), .bool false]) ∧ Below w.heap.size w w') (fun hu => ?_) (fun hu => ?_)
        · exact r19R_BDt f m a v0 v1 (v0 + 1) ng X1 _ _ _ _ w _ cV cF cG cL hl p1 p2 q1 q2 (by have k := cU (-1) false; rw [hu] at k; exact k) hA
        · exact r19R_BDf f m a v0 v1 0 ng X1 _ _ _ _ w _ cV cF cG cL hl p1 p2 q1 q2 (by have k := cU (-1) false; rw [hu] at k; exact k)
      · obtain ⟨p1, p2⟩ := str_full v1 hv1
        have h2 : v1 % 2 = 1 := by rw [odd_low v1 hv1] at hl; exact of_decide_eq_true hl
        rw [if_pos h2]
        cases X1
        · rw [if_neg (by decide)]
          refine fin 1 false (fun q => Calls _ _ _ w fun e' w' => e' = .returned (.tuple #[.string (strB q), .bool false]) ∧ Below w.heap.size w w') (fun hu => ?_) (fun hu => ?_)
          · exact r19R_C1Dt f m a v0 v1 (v0 + 1) ng false _ _ _ _ w _ cV cF cG cL hl p1 p2 q1 q2 (by have k := cU 1 false; rw [hu] at k; exact k) hA
          · exact r19R_C1Df f m a v0 v1 0 ng false _ _ _ _ w _ cV cF cG cL hl p1 p2 q1 q2 (by have k := cU 1 false; rw [hu] at k; exact k)
        · rw [if_pos rfl]
          refine fin 0 false (fun q => Calls _ _ _ w fun e' w' => e' = .returned (.tuple #[.string (strB q), .bool false]) ∧ Below w.heap.size w w') (fun hu => ?_) (fun hu => ?_)
          · exact r19R_C0Dt f m a v0 v1 (v0 + 1) ng false _ _ _ _ w _ cV cF cG cL hl p1 p2 q1 q2 (by have k := cU 0 false; rw [hu] at k; exact k) hA
          · exact r19R_C0Df f m a v0 v1 0 ng false _ _ _ _ w _ cV cF cG cL hl p1 p2 q1 q2 (by have k := cU 0 false; rw [hu] at k; exact k)
    · have hl' := Bool.eq_false_iff.2 hl
      rw [if_neg (even_low v1 hl')]
      refine fin (-1) false (fun q => Calls _ _ _ w fun e' w' => e' = .returned (.tuple #[.string (strB q), .bool false]) ∧ Below w.heap.size w w') (fun hu => ?_) (fun hu => ?_)
      · exact r19R_ADt f m a v0 v1 (v0 + 1) ng X1 _ _ _ _ w _ cV cF cG cL hl' q1 q2 (by have k := cU (-1) false; rw [hu] at k; exact k) hA
      · exact r19R_ADf f m a v0 v1 0 ng X1 _ _ _ _ w _ cV cF cG cL hl' q1 q2 (by have k := cU (-1) false; rw [hu] at k; exact k)
  · obtain ⟨q1, q2⟩ := str_full v0 hv0
    rw [← odd_low v0 hv0]
    by_cases hl : (((lowZ v1 : Nat) : Int) == 0) = true
    · by_cases hv1 : v1 = 0
      · obtain ⟨p1, p2⟩ := str_none v1 hv1
        rw [if_neg (show ¬ v1 % 2 = 1 by rw [hv1]; decide)]
        refine fin (-1) _ (fun q => Calls _ _ _ w fun e' w' => e' = .returned (.tuple #[.string (strB q), .bool false]) ∧ Below w.heap.size w w') (fun hu => ?_) (fun hu => ?_)
        · exact r19R_BEt f m a v0 v1 (v0 + 1) ng X1 _ _ _ _ w _ _ cV cF cG cL hl p1 p2 q1 q2 cK (by have k := cU (-1) (((lowZ v0 : Nat) : Int) == 0); rw [hu] at k; exact k) hA
        · exact r19R_BEf f m a v0 v1 0 ng X1 _ _ _ _ w _ _ cV cF cG cL hl p1 p2 q1 q2 cK (by have k := cU (-1) (((lowZ v0 : Nat) : Int) == 0); rw [hu] at k; exact k)
      · obtain ⟨p1, p2⟩ := str_full v1 hv1
        have h2 : v1 % 2 = 1 := by rw [odd_low v1 hv1] at hl; exact of_decide_eq_true hl
        rw [if_pos h2]
        cases X1
        · rw [if_neg (by decide)]
          refine fin 1 _ (fun q => Calls _ _ _ w fun e' w' => e' = .returned (.tuple #[.string (strB q), .bool false]) ∧ Below w.heap.size w w') (fun hu => ?_) (fun hu => ?_)
          · exact r19R_C1Et f m a v0 v1 (v0 + 1) ng false _ _ _ _ w _ _ cV cF cG cL hl p1 p2 q1 q2 cK (by have k := cU 1 (((lowZ v0 : Nat) : Int) == 0); rw [hu] at k; exact k) hA
          · exact r19R_C1Ef f m a v0 v1 0 ng false _ _ _ _ w _ _ cV cF cG cL hl p1 p2 q1 q2 cK (by have k := cU 1 (((lowZ v0 : Nat) : Int) == 0); rw [hu] at k; exact k)
        · rw [if_pos rfl]
          refine fin 0 _ (fun q => Calls _ _ _ w fun e' w' => e' = .returned (.tuple #[.string (strB q), .bool false]) ∧ Below w.heap.size w w') (fun hu => ?_) (fun hu => ?_)
          · exact r19R_C0Et f m a v0 v1 (v0 + 1) ng false _ _ _ _ w _ _ cV cF cG cL hl p1 p2 q1 q2 cK (by have k := cU 0 (((lowZ v0 : Nat) : Int) == 0); rw [hu] at k; exact k) hA
          · exact r19R_C0Ef f m a v0 v1 0 ng false _ _ _ _ w _ _ cV cF cG cL hl p1 p2 q1 q2 cK (by have k := cU 0 (((lowZ v0 : Nat) : Int) == 0); rw [hu] at k; exact k)
    · have hl' := Bool.eq_false_iff.2 hl
      rw [if_neg (even_low v1 hl')]
      refine fin (-1) _ (fun q => Calls _ _ _ w fun e' w' => e' = .returned (.tuple #[.string (strB q), .bool false]) ∧ Below w.heap.size w w') (fun hu => ?_) (fun hu => ?_)
      · exact r19R_AEt f m a v0 v1 (v0 + 1) ng X1 _ _ _ _ w _ _ cV cF cG cL hl' q1 q2 cK (by have k := cU (-1) (((lowZ v0 : Nat) : Int) == 0); rw [hu] at k; exact k) hA
      · exact r19R_AEf f m a v0 v1 0 ng X1 _ _ _ _ w _ _ cV cF cG cL hl' q1 q2 cK (by have k := cU (-1) (((lowZ v0 : Nat) : Int) == 0); rw [hu] at k; exact k)
open Go.RowKit
theorem r1count32 (w : World) :
    Calls Tryz.prog 137 #[.int .i64 32] w fun e w' => e = .returned (.int .i64 32) ∧ Below w.heap.size w w' := by
  have H := Own.start w
  go_enter Tryz.func137, Tryz.ntmps137
  exact walk1
theorem r1Left32 (w0 : World) :
    Calls Tryz.prog 201 #[.int .u64 1, .int .i64 32] w0 fun e w' => e = .returned (.int .u64 4294967296) ∧ Below w0.heap.size w0 w' := by
  have H := Own.start w0
  go_enter Tryz.func201, Tryz.ntmps201
  go_wp2_with (first
    | ((with_reducible show wpList _ _ _ (⟨_, .box _ _, _, _, _, _⟩ :: _) _ _); refine H.xb ?_; (intro g w H; simp only [Act.put, q1_, q2_, q3_]))
    | ((with_reducible show wpList _ _ _ (⟨_, .alloc _, _, _, _, _⟩ :: _) _ _); refine H.xa ?_; (intro g w H; simp only [Act.put, q1_, q2_, q3_]))
    | ((with_reducible show wpList _ _ _ (⟨_, .load _ _, _, _, _, _⟩ :: _) _ _); (first | refine H.xl ?_ | refine H.xm ?_); simp only [Act.put, q1_, q2_, q3_])
    | ((with_reducible show wpList _ _ _ (⟨_, .store _ _ _, _, _, _, _⟩ :: _) _ _); (first | refine H.xs ?_ | refine H.xt ?_); (intro w H; simp only [Act.put]))
    | (go_at_call 137; ((with_reducible refine (r1count32 _).mono ?_); rintro e w ⟨rfl, hb⟩; replace H := H.call hb; clear hb))
    )
  go_loopw [0, 5] (fun xv iv wr => ∃ (k j : Nat) (x : Nat), j + k = 32 ∧ iv = .int .i64 (j : Int) ∧ xv = .int .u64 (x : Int) ∧ x = 2 ^ k ∧ Own w0 wr []) (fun _ i _ => (intOf i).toNat)
  case atStart => exact ⟨0, 32, 1, by omega, rfl, rfl, rfl, H⟩
  case round =>
    clear H
    obtain ⟨k, j, x, hk, rfl, rfl, hx, H⟩ := hrel
    by_cases hj : 0 < j
    · have hx2 : x ≤ 4294967296 := by rw [hx]; exact Nat.le_trans (Nat.pow_le_pow_right (by decide) (by omega : k ≤ 32)) (by decide)
      have hxi : (x : Int) ≤ 4294967296 := by omega
      have hji : (0 : Int) < (j : Int) := by omega
      have hji2 : (j : Int) ≤ 32 := by omega
      have hd : decide (0 < (j : Int)) = true := decide_eq_true hji
      have HX := Lib.hid hx
      clear hx
      go_wp2_with (first
    | ((with_reducible show wpList _ _ _ (⟨_, .box _ _, _, _, _, _⟩ :: _) _ _); refine H.xb ?_; (intro g w H; simp only [Act.put, q1_, q2_, q3_]))
    | ((with_reducible show wpList _ _ _ (⟨_, .alloc _, _, _, _, _⟩ :: _) _ _); refine H.xa ?_; (intro g w H; simp only [Act.put, q1_, q2_, q3_]))
    | ((with_reducible show wpList _ _ _ (⟨_, .load _ _, _, _, _, _⟩ :: _) _ _); (first | refine H.xl ?_ | refine H.xm ?_); simp only [Act.put, q1_, q2_, q3_])
    | ((with_reducible show wpList _ _ _ (⟨_, .store _ _ _, _, _, _, _⟩ :: _) _ _); (first | refine H.xs ?_ | refine H.xt ?_); (intro w H; simp only [Act.put]))
    | (go_at_call 137; ((with_reducible refine (r1count32 _).mono ?_); rintro e w ⟨rfl, hb⟩; replace H := H.call hb; clear hb))
    )
      all_goals
        go_roundw
        case rel => exact ⟨k + 1, j - 1, 2 * x, by omega, by go_num, by go_num, by rw [HX.out, Nat.pow_succ]; omega, H⟩
        case measure => simp [intOf]; try omega
    · have hj0 : j = 0 := by omega
      subst hj0
      have hx3 : x = 4294967296 := by rw [hx, show k = 32 by omega]
      subst hx3
      clear hx
      go_wp2_with (first
    | ((with_reducible show wpList _ _ _ (⟨_, .box _ _, _, _, _, _⟩ :: _) _ _); refine H.xb ?_; (intro g w H; simp only [Act.put, q1_, q2_, q3_]))
    | ((with_reducible show wpList _ _ _ (⟨_, .alloc _, _, _, _, _⟩ :: _) _ _); refine H.xa ?_; (intro g w H; simp only [Act.put, q1_, q2_, q3_]))
    | ((with_reducible show wpList _ _ _ (⟨_, .load _ _, _, _, _, _⟩ :: _) _ _); (first | refine H.xl ?_ | refine H.xm ?_); simp only [Act.put, q1_, q2_, q3_])
    | ((with_reducible show wpList _ _ _ (⟨_, .store _ _ _, _, _, _, _⟩ :: _) _ _); (first | refine H.xs ?_ | refine H.xt ?_); (intro w H; simp only [Act.put]))
    | (go_at_call 137; ((with_reducible refine (r1count32 _).mono ?_); rintro e w ⟨rfl, hb⟩; replace H := H.call hb; clear hb))
    )
      all_goals
        go_ret
        exact ⟨rfl, H.below⟩
theorem r1Mask32 (w : World) :
    Calls Tryz.prog 138 #[.int .i64 32] w fun e w' => e = .returned (.int .u64 4294967295) ∧ Below w.heap.size w w' := by
  have H := Own.start w
  go_enter Tryz.func138, Tryz.ntmps138
  exact walk2
theorem r1Ext_t (x : Nat) (w : World) (hx : x < 18446744073709551616) (cB : CK_ 139 #[.int .u64 x, .int .i64 31] (.bool true)) :
    Calls Tryz.prog 60 #[.int .u64 x, .int .i64 32] w fun e w' => e = .returned (.int .u64 (Go.bits .or .u64 (Go.bits .and .u64 x 4294967295) 18446744069414584320)) ∧ Below w.heap.size w w' := by
  have H := Own.start w
  go_enter Tryz.func60, Tryz.ntmps60
  exact walk2
theorem r1Ext_f (x : Nat) (w : World) (hx : x < 18446744073709551616) (cB : CK_ 139 #[.int .u64 x, .int .i64 31] (.bool false)) :
    Calls Tryz.prog 60 #[.int .u64 x, .int .i64 32] w fun e w' => e = .returned (.int .u64 (Go.bits .and .u64 x 4294967295)) ∧ Below w.heap.size w w' := by
  have H := Own.start w
  go_enter Tryz.func60, Tryz.ntmps60
  exact walk2
theorem and32 (x : Nat) (hx : x < 18446744073709551616) : Go.bits .and .u64 (x : Int) 4294967295 = ((x % 4294967296 : Nat) : Int) := by
  rw [show (4294967295 : Int) = ((4294967295 : Nat) : Int) from rfl, u64_and_nat x 4294967295 hx (by decide), show (4294967295 : Nat) = 2 ^ 32 - 1 by decide, Nat.and_two_pow_sub_one_eq_mod]
theorem r1Extend32_any (x : Nat) (w : World) (hx : x < 18446744073709551616) : Calls Tryz.prog 60 #[.int .u64 x, .int .i64 32] w fun e w' => e = .returned (.int .u64 (sext32 x : Nat)) ∧ Below w.heap.size w w' := by
  have cB := fun w => r1Bit_any x 31 w hx (by decide)
  have hb : x.testBit 31 = decide (2147483648 ≤ x % 4294967296) := by
    rw [Nat.testBit_eq_decide_div_mod_eq, decide_eq_decide]; omega
  rw [hb] at cB
  unfold sext32
  by_cases h : 2147483648 ≤ x % 4294967296
  · rw [decide_eq_true h] at cB
    have k := r1Ext_t x w hx cB
    rw [and32 x hx, show (18446744069414584320 : Int) = ((18446744069414584320 : Nat) : Int) from rfl, u64_or_nat _ _ (by omega) (by decide)] at k
    have e : x % 4294967296 ||| 18446744069414584320 = x % 4294967296 + 18446744069414584320 := by
      have := Nat.two_pow_add_eq_or_of_lt (i := 32) (show x % 4294967296 < 2 ^ 32 by omega) 4294967295
      rw [Nat.or_comm, show (18446744069414584320 : Nat) = 2 ^ 32 * 4294967295 by decide, ← this, Nat.add_comm]
    rw [e] at k
    rw [decide_eq_false (by omega)]; exact k
  · rw [decide_eq_false h] at cB
    have k := r1Ext_f x w hx cB
    rw [and32 x hx] at k
    rw [decide_eq_true (by omega)]; exact k
open Go.RowKit
def fdC (m : ByteArray) (a h : Int) (x : Bool) : Array Value := #[.string m, .int .i64 a, .int .i64 h, .bool x]
theorem ext_fd (m : ByteArray) (a h : Int) (x : Bool) : (fdC m a h x).extract 0 (0 + (fdC m a h x).size) = fdC m a h x := by rw [Nat.zero_add]; exact Array.extract_size
theorem get_fd1 (m : ByteArray) (a h : Int) (x : Bool) : (fdC m a h x)[1]? = some (.int .i64 a) := rfl
theorem get_fd3 (m : ByteArray) (a h : Int) (x : Bool) : (fdC m a h x)[3]? = some (.bool x) := rfl
theorem set_fd (m : ByteArray) (a h : Int) (x : Bool) (m' : ByteArray) (a' h' : Int) (x' : Bool) : setRow (fdC m a h x) 0 (fdC m' a' h' x').toList = fdC m' a' h' x' := set_all _ _ rfl
theorem tFd_s : (Tryz.prog.info? 196).map (·.size) = some 4 := by kernel_rfl
theorem tFd_z : (Tryz.prog.info? 196).bind (·.zero) = some (.agg (fdC ⟨#[]⟩ 0 0 false)) := by unfold fdC; kernel_rfl
theorem rFd : IsRow Tryz.prog 196 4 (fdC ⟨#[]⟩ 0 0 false) := ⟨⟨_, Tryz.underlying196, rfl⟩, tFd_s, tFd_z⟩
open Go.RowKit
theorem set_bitsR (a b c d : Value) : setRow #[a, b] 0 (#[c, d] : Array Value).toList = #[c, d] := rfl
open Go.RowKit Go.Proofs.YtgmhmpflmgfcdaaGreatDoorW.PrintWords Go.Proofs.YtgmhmpflmgfcdaaGreatDoor.PDivQuotients
structure OneF (n d : Nat) (e : Int) : Prop where
  num : n ≠ 0
  odd : n % 2 = 1
  den : d % 2 = 1
  gcd : Nat.gcd n d = 1
  len : lenN n ≤ 60000
  lend : lenN d ≤ 20000
  lo : -200000 ≤ e
  hi : e ≤ 200000
open Go.RowKit
def partsQ : Array (Nat × Nat) := #[(0, 1), (1, 6), (7, 1), (8, 6)]
theorem places_partsQ (w : World) : ∃ fs, Tryz.prog.underlying 100 = some (.struct fs) ∧ (fs.mapM fun f => do pure (f.offset, ← sizeOf f.type) : Sem (Array (Nat × Nat))).run Tryz.prog w = .ok partsQ w := by
  refine ⟨_, Tryz.underlying100, ?_⟩
  unfold partsQ
  go_simp
theorem partsQ_0 (c s : Nat) (x : Int) (f c' : Nat) (rest : List (Nat × Value)) : Instr.fill (partsQ[·]?) (parts c s x f) ((0, .int .u8 c') :: rest) = Instr.fill (partsQ[·]?) (parts c' s x f) rest := fill_step _ _ 0 0 1 _ _ rfl rfl (show 0 + 1 ≤ 14 by decide)
theorem partsQ_c (c : Nat) (w : World) : (Instr.build 100 #[(0, .int .u8 c)]).run Tryz.prog w = .ok (PV c 0 0 0) w := by
  obtain ⟨fs, hu, hp⟩ := places_partsQ w
  exact run_build rP hu hp _ _ (by show Instr.fill _ _ [_] = _; rw [partsQ_0]; rfl)
theorem wp_bldQ {P : Program} {op : Oper} {a : Act} {Q : Exit → Act → World → Prop} {ops : Array Oper} {rest : List Oper} {w : World} {t : TypeId} {i : Nat} {x : Operand} (hw : Region.wanted op (yielded ops a.tmps) = true) (ho : op.op = .build t #[(i, x)]) {u1 : Value} (h1 : a.eval x = u1) {v : Value}
    (hv : ∀ w, (Instr.build t #[(i, u1)]).run P w = .ok v w) (h : wpList P ops Q rest (a.put op.dst v) w) : wpList P ops Q (op :: rest) a w :=
  wp_bld hw ho (by simp [h1]) hv h
theorem set_pwQ (a b : Nat) (x : Int) (d c s : Nat) (y : Int) (f : Nat) : setRow (parts a b x d) 0 (parts c s y f).toList = parts c s y f := set_all _ _ rfl
theorem set_limbsQ (a b : Nat) : setRow (limbs a) 0 (limbs b).toList = limbs b := set_all _ _ rfl
theorem set_leadQ (t i s : Nat) (ht : t < 2 ^ (64 * i + s)) (hs : s < 64) (hi : i < 6) : setRow (limbs t) i (#[.int .u64 (Go.bits .or .u64 (limb t i) (IntKind.u64.wrap (2 ^ s)))] : Array Value).toList = limbs (t + 2 ^ (64 * i + s)) := limbs_top t i s ht hs hi
theorem kindUnpack_0 (f b e t p : Nat) (neg : Bool) (w : World) (hT : Tab w) (cT : CK_ 92 #[.int .u8 f, BV b] (.bool true)) (cP : CK_ 79 #[.int .u8 f] (.int .i64 (p : Nat))) (cF : CT_ 187 #[.int .u8 f, BV b] (.tuple #[.bool neg, .int .i64 (e : Nat), W t])) (cC : CT_ 124 #[.int .u8 f, BV b] (.int .u8 0))  :
    Calls Tryz.prog 120 #[.int .u8 f, BV b] w fun e' w' => e' = .returned (.tuple #[PV 0 0 0 0, .int .i64 0]) ∧ Below w.heap.size w w' := by
  have H := Own.start w
  have HT := Lib.hid hT
  clear hT
  go_enter Tryz.func120, Tryz.ntmps120
  exact walk1
theorem kindUnpack_3 (f b e t p : Nat) (neg : Bool) (w : World) (hT : Tab w) (cT : CK_ 92 #[.int .u8 f, BV b] (.bool true)) (cP : CK_ 79 #[.int .u8 f] (.int .i64 (p : Nat))) (cF : CT_ 187 #[.int .u8 f, BV b] (.tuple #[.bool neg, .int .i64 (e : Nat), W t])) (cC : CT_ 124 #[.int .u8 f, BV b] (.int .u8 3))  :
    Calls Tryz.prog 120 #[.int .u8 f, BV b] w fun e' w' => e' = .returned (.tuple #[PV 3 0 0 0, .int .i64 0]) ∧ Below w.heap.size w w' := by
  have H := Own.start w
  have HT := Lib.hid hT
  clear hT
  go_enter Tryz.func120, Tryz.ntmps120
  exact walk1
theorem kindUnpack_4 (f b e t p : Nat) (neg : Bool) (w : World) (hT : Tab w) (cT : CK_ 92 #[.int .u8 f, BV b] (.bool true)) (cP : CK_ 79 #[.int .u8 f] (.int .i64 (p : Nat))) (cF : CT_ 187 #[.int .u8 f, BV b] (.tuple #[.bool neg, .int .i64 (e : Nat), W t])) (cC : CT_ 124 #[.int .u8 f, BV b] (.int .u8 4))  :
    Calls Tryz.prog 120 #[.int .u8 f, BV b] w fun e' w' => e' = .returned (.tuple #[PV 4 0 0 0, .int .i64 0]) ∧ Below w.heap.size w w' := by
  have H := Own.start w
  have HT := Lib.hid hT
  clear hT
  go_enter Tryz.func120, Tryz.ntmps120
  exact walk1
theorem kindUnpack_7 (f b e t p : Nat) (neg : Bool) (w : World) (hT : Tab w) (cT : CK_ 92 #[.int .u8 f, BV b] (.bool true)) (cP : CK_ 79 #[.int .u8 f] (.int .i64 (p : Nat))) (cF : CT_ 187 #[.int .u8 f, BV b] (.tuple #[.bool neg, .int .i64 (e : Nat), W t])) (cC : CT_ 124 #[.int .u8 f, BV b] (.int .u8 7))  :
    Calls Tryz.prog 120 #[.int .u8 f, BV b] w fun e' w' => e' = .returned (.tuple #[PV 7 0 0 0, .int .i64 0]) ∧ Below w.heap.size w w' := by
  have H := Own.start w
  have HT := Lib.hid hT
  clear hT
  go_enter Tryz.func120, Tryz.ntmps120
  exact walk1
theorem kindUnpack_8 (f b e t p : Nat) (neg : Bool) (w : World) (hT : Tab w) (cT : CK_ 92 #[.int .u8 f, BV b] (.bool true)) (cP : CK_ 79 #[.int .u8 f] (.int .i64 (p : Nat))) (cF : CT_ 187 #[.int .u8 f, BV b] (.tuple #[.bool neg, .int .i64 (e : Nat), W t])) (cC : CT_ 124 #[.int .u8 f, BV b] (.int .u8 8))  :
    Calls Tryz.prog 120 #[.int .u8 f, BV b] w fun e' w' => e' = .returned (.tuple #[PV 8 0 0 t, .int .i64 0]) ∧ Below w.heap.size w w' := by
  have H := Own.start w
  have HT := Lib.hid hT
  clear hT
  go_enter Tryz.func120, Tryz.ntmps120
  exact walk1
theorem kindUnpack_9 (f b e t p : Nat) (neg : Bool) (w : World) (hT : Tab w) (cT : CK_ 92 #[.int .u8 f, BV b] (.bool true)) (cP : CK_ 79 #[.int .u8 f] (.int .i64 (p : Nat))) (cF : CT_ 187 #[.int .u8 f, BV b] (.tuple #[.bool neg, .int .i64 (e : Nat), W t])) (cC : CT_ 124 #[.int .u8 f, BV b] (.int .u8 9))  :
    Calls Tryz.prog 120 #[.int .u8 f, BV b] w fun e' w' => e' = .returned (.tuple #[PV 9 0 0 t, .int .i64 0]) ∧ Below w.heap.size w w' := by
  have H := Own.start w
  have HT := Lib.hid hT
  clear hT
  go_enter Tryz.func120, Tryz.ntmps120
  exact walk1
theorem kindUnpack_2 (f b e t p : Nat) (em : Int) (neg : Bool) (w : World) (hT : Tab w) (he : e ≤ 32767) (hp : p ≤ 113) (hm1 : -16382 ≤ em) (hm2 : em ≤ 0) (cM : CK_ 141 #[.int .u8 f] (.int .i64 em)) (cT : CK_ 92 #[.int .u8 f, BV b] (.bool true)) (cP : CK_ 79 #[.int .u8 f] (.int .i64 (p : Nat))) (cF : CT_ 187 #[.int .u8 f, BV b] (.tuple #[.bool neg, .int .i64 (e : Nat), W t])) (cC : CT_ 124 #[.int .u8 f, BV b] (.int .u8 2))  :
    Calls Tryz.prog 120 #[.int .u8 f, BV b] w fun e' w' => e' = .returned (.tuple #[PV 2 t ((e : Int) + em - (p : Int) + 1) 0, .int .i64 0]) ∧ Below w.heap.size w w' := by
  have H := Own.start w
  have HT := Lib.hid hT
  clear hT
  go_enter Tryz.func120, Tryz.ntmps120
  exact walk1
theorem kindUnpack_5 (f b e t p : Nat) (em : Int) (neg : Bool) (w : World) (hT : Tab w) (he : e ≤ 32767) (hp : p ≤ 113) (hm1 : -16382 ≤ em) (hm2 : em ≤ 0) (cM : CK_ 141 #[.int .u8 f] (.int .i64 em)) (cT : CK_ 92 #[.int .u8 f, BV b] (.bool true)) (cP : CK_ 79 #[.int .u8 f] (.int .i64 (p : Nat))) (cF : CT_ 187 #[.int .u8 f, BV b] (.tuple #[.bool neg, .int .i64 (e : Nat), W t])) (cC : CT_ 124 #[.int .u8 f, BV b] (.int .u8 5))  :
    Calls Tryz.prog 120 #[.int .u8 f, BV b] w fun e' w' => e' = .returned (.tuple #[PV 5 t ((e : Int) + em - (p : Int) + 1) 0, .int .i64 0]) ∧ Below w.heap.size w w' := by
  have H := Own.start w
  have HT := Lib.hid hT
  clear hT
  go_enter Tryz.func120, Tryz.ntmps120
  exact walk1
theorem kindUnpack_1_0 (f b e t p : Nat) (em : Int) (neg : Bool) (w : World) (hT : Tab w) (s : Nat) (he : e ≤ 32767) (he1 : 1 ≤ e) (hs64 : s < 64) (htq : t < 2 ^ (64 * 0 + s)) (hqi : ((p : Int) - 1) / 64 = 0) (hqs : ((p : Int) - 1) % 64 = (s : Int)) (hp1 : 11 ≤ p) (hp : p ≤ 113) (hm1 : -16382 ≤ em) (hm2 : em ≤ 0) (cM : CK_ 141 #[.int .u8 f] (.int .i64 em)) (cT : CK_ 92 #[.int .u8 f, BV b] (.bool true)) (cP : CK_ 79 #[.int .u8 f] (.int .i64 (p : Nat))) (cF : CT_ 187 #[.int .u8 f, BV b] (.tuple #[.bool neg, .int .i64 (e : Nat), W t])) (cC : CT_ 124 #[.int .u8 f, BV b] (.int .u8 1))  :
    Calls Tryz.prog 120 #[.int .u8 f, BV b] w fun e' w' => e' = .returned (.tuple #[PV 1 (t + 2 ^ (64 * 0 + s)) ((e : Int) - 1 + em - (p : Int) + 1) 0, .int .i64 0]) ∧ Below w.heap.size w w' := by
  have H := Own.start w
  have HT := Lib.hid hT
  clear hT
  have he1' : (1 : Int) ≤ (e : Int) := by omega
  have he2' : (e : Int) ≤ 32767 := by omega
  have hp2' : (p : Int) ≤ 113 := by omega
  have hp3' : (11 : Int) ≤ (p : Int) := by omega
  have HS := Lib.hid hs64
  have HTQ := Lib.hid htq
  have s64 : (s : Int) < 64 := by omega
  clear htq hs64
  go_enter Tryz.func120, Tryz.ntmps120
  exact walk1
theorem kindUnpack_6_0 (f b e t p : Nat) (em : Int) (neg : Bool) (w : World) (hT : Tab w) (s : Nat) (he : e ≤ 32767) (he1 : 1 ≤ e) (hs64 : s < 64) (htq : t < 2 ^ (64 * 0 + s)) (hqi : ((p : Int) - 1) / 64 = 0) (hqs : ((p : Int) - 1) % 64 = (s : Int)) (hp1 : 11 ≤ p) (hp : p ≤ 113) (hm1 : -16382 ≤ em) (hm2 : em ≤ 0) (cM : CK_ 141 #[.int .u8 f] (.int .i64 em)) (cT : CK_ 92 #[.int .u8 f, BV b] (.bool true)) (cP : CK_ 79 #[.int .u8 f] (.int .i64 (p : Nat))) (cF : CT_ 187 #[.int .u8 f, BV b] (.tuple #[.bool neg, .int .i64 (e : Nat), W t])) (cC : CT_ 124 #[.int .u8 f, BV b] (.int .u8 6))  :
    Calls Tryz.prog 120 #[.int .u8 f, BV b] w fun e' w' => e' = .returned (.tuple #[PV 6 (t + 2 ^ (64 * 0 + s)) ((e : Int) - 1 + em - (p : Int) + 1) 0, .int .i64 0]) ∧ Below w.heap.size w w' := by
  have H := Own.start w
  have HT := Lib.hid hT
  clear hT
  have he1' : (1 : Int) ≤ (e : Int) := by omega
  have he2' : (e : Int) ≤ 32767 := by omega
  have hp2' : (p : Int) ≤ 113 := by omega
  have hp3' : (11 : Int) ≤ (p : Int) := by omega
  have HS := Lib.hid hs64
  have HTQ := Lib.hid htq
  have s64 : (s : Int) < 64 := by omega
  clear htq hs64
  go_enter Tryz.func120, Tryz.ntmps120
  exact walk1
theorem kindUnpack_1_1 (f b e t p : Nat) (em : Int) (neg : Bool) (w : World) (hT : Tab w) (s : Nat) (he : e ≤ 32767) (he1 : 1 ≤ e) (hs64 : s < 64) (htq : t < 2 ^ (64 * 1 + s)) (hqi : ((p : Int) - 1) / 64 = 1) (hqs : ((p : Int) - 1) % 64 = (s : Int)) (hp1 : 11 ≤ p) (hp : p ≤ 113) (hm1 : -16382 ≤ em) (hm2 : em ≤ 0) (cM : CK_ 141 #[.int .u8 f] (.int .i64 em)) (cT : CK_ 92 #[.int .u8 f, BV b] (.bool true)) (cP : CK_ 79 #[.int .u8 f] (.int .i64 (p : Nat))) (cF : CT_ 187 #[.int .u8 f, BV b] (.tuple #[.bool neg, .int .i64 (e : Nat), W t])) (cC : CT_ 124 #[.int .u8 f, BV b] (.int .u8 1))  :
    Calls Tryz.prog 120 #[.int .u8 f, BV b] w fun e' w' => e' = .returned (.tuple #[PV 1 (t + 2 ^ (64 * 1 + s)) ((e : Int) - 1 + em - (p : Int) + 1) 0, .int .i64 0]) ∧ Below w.heap.size w w' := by
  have H := Own.start w
  have HT := Lib.hid hT
  clear hT
  have he1' : (1 : Int) ≤ (e : Int) := by omega
  have he2' : (e : Int) ≤ 32767 := by omega
  have hp2' : (p : Int) ≤ 113 := by omega
  have hp3' : (11 : Int) ≤ (p : Int) := by omega
  have HS := Lib.hid hs64
  have HTQ := Lib.hid htq
  have s64 : (s : Int) < 64 := by omega
  clear htq hs64
  go_enter Tryz.func120, Tryz.ntmps120
  exact walk2
theorem kindUnpack_6_1 (f b e t p : Nat) (em : Int) (neg : Bool) (w : World) (hT : Tab w) (s : Nat) (he : e ≤ 32767) (he1 : 1 ≤ e) (hs64 : s < 64) (htq : t < 2 ^ (64 * 1 + s)) (hqi : ((p : Int) - 1) / 64 = 1) (hqs : ((p : Int) - 1) % 64 = (s : Int)) (hp1 : 11 ≤ p) (hp : p ≤ 113) (hm1 : -16382 ≤ em) (hm2 : em ≤ 0) (cM : CK_ 141 #[.int .u8 f] (.int .i64 em)) (cT : CK_ 92 #[.int .u8 f, BV b] (.bool true)) (cP : CK_ 79 #[.int .u8 f] (.int .i64 (p : Nat))) (cF : CT_ 187 #[.int .u8 f, BV b] (.tuple #[.bool neg, .int .i64 (e : Nat), W t])) (cC : CT_ 124 #[.int .u8 f, BV b] (.int .u8 6))  :
    Calls Tryz.prog 120 #[.int .u8 f, BV b] w fun e' w' => e' = .returned (.tuple #[PV 6 (t + 2 ^ (64 * 1 + s)) ((e : Int) - 1 + em - (p : Int) + 1) 0, .int .i64 0]) ∧ Below w.heap.size w w' := by
  have H := Own.start w
  have HT := Lib.hid hT
  clear hT
  have he1' : (1 : Int) ≤ (e : Int) := by omega
  have he2' : (e : Int) ≤ 32767 := by omega
  have hp2' : (p : Int) ≤ 113 := by omega
  have hp3' : (11 : Int) ≤ (p : Int) := by omega
  have HS := Lib.hid hs64
  have HTQ := Lib.hid htq
  have s64 : (s : Int) < 64 := by omega
  clear htq hs64
  go_enter Tryz.func120, Tryz.ntmps120
  exact walk2
open Go.RowKit
theorem ret_parts {c c' s s' f f' : Nat} {x x' : Int} {e : Ending} {P : Prop} (h1 : c = c') (h2 : s = s') (h3 : x = x') (h4 : f = f') (k : e = .returned (.tuple #[PV c s x f, .int .i64 0]) ∧ P) : e = .returned (.tuple #[PV c' s' x' f', .int .i64 0]) ∧ P := by
  subst h1 h2 h3 h4; exact k
theorem leadBit (f : Nat) (h : f < 4) : (((pF f : Int) - 1) / 64 = 0 ∧ ∃ s : Nat, s < 64 ∧ ((pF f : Int) - 1) % 64 = s ∧ pF f - 1 = 64 * 0 + s) ∨ (((pF f : Int) - 1) / 64 = 1 ∧ ∃ s : Nat, s < 64 ∧ ((pF f : Int) - 1) % 64 = s ∧ pF f - 1 = 64 * 1 + s) := by
  have : f = 0 ∨ f = 1 ∨ f = 2 ∨ f = 3 := by omega
  rcases this with rfl | rfl | rfl | rfl
  · left; exact ⟨by decide, 23, by decide, by decide, rfl⟩
  · left; exact ⟨by decide, 52, by decide, by decide, rfl⟩
  · left; exact ⟨by decide, 10, by decide, by decide, rfl⟩
  · right; exact ⟨by decide, 48, by decide, by decide, rfl⟩
theorem kindUnpack_yes (f b : Nat) (w : World) (h : fitsB f b = true) (hT : Tab w) :
    Calls Tryz.prog 120 #[.int .u8 f, BV b] w fun e w' => e = .returned (.tuple #[PV (clsN f b) (sigN f b) (xpN f b) (frN f b), .int .i64 0]) ∧ Below w.heap.size w w' := by
  obtain ⟨hf, hb0⟩ := (fits_iff f b).1 h
  obtain ⟨h1, h2, h3, h4, h5, h6, h7, h8⟩ := formK f hf
  have hb : b < 2 ^ (64 * 2) := Nat.lt_of_lt_of_le hb0 (Nat.pow_le_pow_right (by decide) (by have := (formB f hf).2.2.2.1; omega))
  have cT := fun w => shapeFits_any f b w hb
  rw [h] at cT
  have cP := fun w => shapePrecision_any f w (by omega)
  have cM := fun w => shapeEmin_any f w (by omega)
  have cF := fun w hT => kindFields_any f b w hf hb hT
  have cC := fun w hT => kindclass_any f b w hf hb hT
  have hx := expN_lt f b hf
  have ht := Nat.mod_lt b (two_pos (pF f - 1))
  rcases cls_cases f b with ⟨e1, e2, e3⟩ | ⟨e1, e2, e3⟩ | ⟨e1, e2, e3⟩ | ⟨e1, e2, e3⟩ | ⟨e1, e2, e3⟩
  · cases hn : negN f b
    · rw [hn] at e3
      simp only [e3, cond] at cC
      refine (kindUnpack_7 f b _ _ _ _ w hT cT cP cF cC).mono fun e w' k => ret_parts ?_ ?_ ?_ ?_ k
      · rw [e3]; rfl
      · unfold sigN; rw [e3]; rfl
      · unfold xpN; rw [e3]; rfl
      · unfold frN; rw [e3]; rfl
    · rw [hn] at e3
      simp only [e3, cond] at cC
      refine (kindUnpack_0 f b _ _ _ _ w hT cT cP cF cC).mono fun e w' k => ret_parts ?_ ?_ ?_ ?_ k
      · rw [e3]; rfl
      · unfold sigN; rw [e3]; rfl
      · unfold xpN; rw [e3]; rfl
      · unfold frN; rw [e3]; rfl
  · cases hn : (b % 2 ^ (pF f - 1)).testBit (pF f - 2)
    · rw [hn] at e3
      simp only [e3, cond] at cC
      refine (kindUnpack_8 f b _ _ _ _ w hT cT cP cF cC).mono fun e w' k => ret_parts ?_ ?_ ?_ ?_ k
      · rw [e3]; rfl
      · unfold sigN; rw [e3]; rfl
      · unfold xpN; rw [e3]; rfl
      · unfold frN; rw [e3]; rfl
    · rw [hn] at e3
      simp only [e3, cond] at cC
      refine (kindUnpack_9 f b _ _ _ _ w hT cT cP cF cC).mono fun e w' k => ret_parts ?_ ?_ ?_ ?_ k
      · rw [e3]; rfl
      · unfold sigN; rw [e3]; rfl
      · unfold xpN; rw [e3]; rfl
      · unfold frN; rw [e3]; rfl
  · cases hn : negN f b
    · rw [hn] at e3
      simp only [e3, cond] at cC
      refine (kindUnpack_4 f b _ _ _ _ w hT cT cP cF cC).mono fun e w' k => ret_parts ?_ ?_ ?_ ?_ k
      · rw [e3]; rfl
      · unfold sigN; rw [e3]; rfl
      · unfold xpN; rw [e3]; rfl
      · unfold frN; rw [e3]; rfl
    · rw [hn] at e3
      simp only [e3, cond] at cC
      refine (kindUnpack_3 f b _ _ _ _ w hT cT cP cF cC).mono fun e w' k => ret_parts ?_ ?_ ?_ ?_ k
      · rw [e3]; rfl
      · unfold sigN; rw [e3]; rfl
      · unfold xpN; rw [e3]; rfl
      · unfold frN; rw [e3]; rfl
  · cases hn : negN f b
    · rw [hn] at e3
      simp only [e3, cond] at cC
      refine (kindUnpack_5 f b _ _ _ _ _ w hT (by omega) h8 (by omega) (by omega) cM cT cP cF cC).mono fun e w' k => ret_parts ?_ ?_ ?_ ?_ k
      · rw [e3]; rfl
      · unfold sigN; rw [e3]; rfl
      · unfold xpN; rw [e3]; rfl
      · unfold frN; rw [e3]; rfl
    · rw [hn] at e3
      simp only [e3, cond] at cC
      refine (kindUnpack_2 f b _ _ _ _ _ w hT (by omega) h8 (by omega) (by omega) cM cT cP cF cC).mono fun e w' k => ret_parts ?_ ?_ ?_ ?_ k
      · rw [e3]; rfl
      · unfold sigN; rw [e3]; rfl
      · unfold xpN; rw [e3]; rfl
      · unfold frN; rw [e3]; rfl
  · cases hn : negN f b
    · rw [hn] at e3
      simp only [e3, cond] at cC
      rcases leadBit f hf with ⟨q1, s, q2, q3, q4⟩ | ⟨q1, s, q2, q3, q4⟩
      · refine (kindUnpack_6_0 f b _ _ _ _ _ w hT s (by omega) (by omega) q2 (by rw [← q4]; exact ht) q1 q3 h7 h8 (by omega) (by omega) cM cT cP cF cC).mono fun e w' k => ret_parts ?_ ?_ ?_ ?_ k
        · rw [e3]; rfl
        · unfold sigN; rw [e3, ← q4]; rfl
        · unfold xpN; rw [e3]; rfl
        · unfold frN; rw [e3]; rfl
      · refine (kindUnpack_6_1 f b _ _ _ _ _ w hT s (by omega) (by omega) q2 (by rw [← q4]; exact ht) q1 q3 h7 h8 (by omega) (by omega) cM cT cP cF cC).mono fun e w' k => ret_parts ?_ ?_ ?_ ?_ k
        · rw [e3]; rfl
        · unfold sigN; rw [e3, ← q4]; rfl
        · unfold xpN; rw [e3]; rfl
        · unfold frN; rw [e3]; rfl
    · rw [hn] at e3
      simp only [e3, cond] at cC
      rcases leadBit f hf with ⟨q1, s, q2, q3, q4⟩ | ⟨q1, s, q2, q3, q4⟩
      · refine (kindUnpack_1_0 f b _ _ _ _ _ w hT s (by omega) (by omega) q2 (by rw [← q4]; exact ht) q1 q3 h7 h8 (by omega) (by omega) cM cT cP cF cC).mono fun e w' k => ret_parts ?_ ?_ ?_ ?_ k
        · rw [e3]; rfl
        · unfold sigN; rw [e3, ← q4]; rfl
        · unfold xpN; rw [e3]; rfl
        · unfold frN; rw [e3]; rfl
      · refine (kindUnpack_1_1 f b _ _ _ _ _ w hT s (by omega) (by omega) q2 (by rw [← q4]; exact ht) q1 q3 h7 h8 (by omega) (by omega) cM cT cP cF cC).mono fun e w' k => ret_parts ?_ ?_ ?_ ?_ k
        · rw [e3]; rfl
        · unfold sigN; rw [e3, ← q4]; rfl
        · unfold xpN; rw [e3]; rfl
        · unfold frN; rw [e3]; rfl
theorem kindUnpack_not (f b : Nat) (w : World) (hb : b < 2 ^ (64 * 2)) (h : fitsB f b = false) :
    Calls Tryz.prog 120 #[.int .u8 f, BV b] w fun e w' => e = .returned (.tuple #[PV 0 0 0 0, .int .i64 2]) ∧ Below w.heap.size w w' := by
  have cT := fun w => shapeFits_any f b w hb
  rw [h] at cT
  exact kindUnpack_no f b w cT
open Go.RowKit
theorem set_limbs (a b : Nat) : setRow (limbs a) 0 (limbs b).toList = limbs b := set_all _ _ rfl
open Go.RowKit
theorem set_bits (a b c d : Value) : setRow #[a, b] 0 (#[c, d] : Array Value).toList = #[c, d] := set_all _ _ rfl
end Go.Proofs.YtgmhmpflmgfcdaaGreatDoor
