/- Part 1 of what is proved: Via_. -/
import Derived.Test.YtecdpjhifmlahaaDoorProg
import Derived.WalkKit
import Derived.WalkSpells
import Derived.Handy
namespace Go.Proofs.YtecdpjhifmlahaaDoor
universe u_
theorem q1_ {α : Type u_} (l : List α) (i : Nat) (a : α) : l.toArray.setIfInBounds i a = (l.set i a).toArray := List.setIfInBounds_toArray l i a
theorem q2_ {α : Type u_} {x : α} {xs : List α} {a : α} : (x :: xs).set 0 a = a :: xs := rfl
theorem q3_ {α : Type u_} {x : α} {xs : List α} {i : Nat} {a : α} : (x :: xs).set (i + 1) a = x :: xs.set i a := rfl
theorem q4_ {α : Type u_} {xs : List α} {i : Nat} (h : i < xs.toArray.size) : xs.toArray[i] = xs[i]'(by simpa using h) := rfl
theorem q5_ {α : Type u_} {a : α} {bs : List α} (h : 0 < (a :: bs).length) : (a :: bs)[0]'h = a := rfl
theorem q6_ {α : Type u_} {a : α} {bs : List α} {i : Nat} (h : i + 1 < (a :: bs).length) : (a :: bs)[i + 1]'h = bs[i]'(Nat.lt_of_succ_lt_succ h) := rfl
theorem v1_ {P : Prop} (h : P := by simp [results, Tryd.results16, go_sem, d0, d1, d2, d3, d4, d5, limbs]) : P := h
theorem v2_ {P : Prop} (h : P := by repeat (first | with_reducible exact List.mem_cons_self | apply List.mem_cons_of_mem)) : P := h
theorem v3_ {P : Prop} (h : P := by first | with_reducible exact ext_2 _ _) : P := h
theorem v4_ {P : Prop} (h : P := by first | with_reducible exact ext_limbs _ | with_reducible exact ext_parts_s _ _ _ _ | with_reducible exact ext_rough_s _ _ _ _ | with_reducible exact ext_parts_f _ _ _ _) : P := h
theorem v5_ {P : Prop} (h : P := by first | with_reducible exact get_20 _ _ | with_reducible exact get_21 _ _ | with_reducible exact limbs_o0 _ | with_reducible exact limbs_o1 _ | with_reducible exact limbs_o2 _ | with_reducible exact limbs_o3 _ | with_reducible exact limbs_o4 _ | with_reducible exact limbs_o5 _) : P := h
theorem v6_ {P : Prop} (h : P := by repeat (first | with_reducible exact Upd.head _ | apply Upd.tail)) : P := h
theorem v7_ {P : Prop} (h : P := by first | exact ble_le rfl | (change _ + 1 ≤ 12; omega) | (change _ + 1 ≤ 6; omega)) : P := h
theorem v8_ {P : Prop} (h : P := by first | with_reducible exact G | with_reducible exact get_20 _ _ | with_reducible exact get_21 _ _ | with_reducible exact limbs_o0 _ | with_reducible exact limbs_o1 _ | with_reducible exact limbs_o2 _ | with_reducible exact limbs_o3 _ | with_reducible exact limbs_o4 _ | with_reducible exact limbs_o5 _) : P := h
theorem v9_ {P : Prop} (h : P := by first | with_reducible exact set_zero6 _ rfl | with_reducible exact set_all _ _ rfl | with_reducible exact set_parts_s _ _ _ _ _ | with_reducible exact set_rough_s _ _ _ _ _ | with_reducible exact set_parts_f _ _ _ _ _) : P := h
theorem v10_ {P : Prop} (h : P := by first | with_reducible exact set_20 _ _ _ | with_reducible exact set_21 _ _ _ | with_reducible exact set_10 _ _) : P := h
theorem v11_ {P : Prop} (h : P := by first | exact ble_le rfl | (change _ + 1 ≤ 12; omega) | (change _ + 1 ≤ 6; omega) | (rw [fillTo_size]; change _ + 1 ≤ 6; omega)) : P := h
theorem v12_ {P : Prop} (h : P := by first | with_reducible exact G1 | with_reducible exact G2 | with_reducible exact get_20 _ _ | with_reducible exact get_21 _ _ | with_reducible exact limbs_o0 _ | with_reducible exact limbs_o1 _ | with_reducible exact limbs_o2 _ | with_reducible exact limbs_o3 _ | with_reducible exact limbs_o4 _ | with_reducible exact limbs_o5 _) : P := h
theorem v13_ {P : Prop} (h : P := by repeat (first | with_reducible exact List.Sublist.refl _ | with_reducible apply List.Sublist.cons_cons | with_reducible apply List.Sublist.cons)) : P := h
theorem v14_ {P : Prop} (h : P := by intro w; go_simp; (try with_reducible rfl)) : P := h
theorem v15_ {P : Prop} (h : P := by first | exact ble_le rfl | (change _ + 1 ≤ 12; omega) | (change _ + 1 ≤ 6; omega) | (rw [fillTo_size]; change _ + 1 ≤ 6; omega) | (rw [rowB_size]; change _ + 1 ≤ _; omega)) : P := h
theorem v16_ {P : Prop} (h : P := by first | with_reducible exact get_rough7 _ _ _ _ | with_reducible exact get_parts7 _ _ _ _ | with_reducible exact get_10 _) : P := h
theorem v17_ {P : Prop} (h : P := by have := hb1.size; simp at this; omega) : P := h
theorem v18_ {P : Prop} (h : P := by have := b3.lt; have := hb3.size; omega) : P := h
theorem v19_ {P : Prop} (h : P := by have := b3.lt; have := hb4.size; omega) : P := h
theorem v20_ {P : Prop} (h : P := by simp [results, Tryd.results13, go_sem, parts, limb_zero, c0, c1, c2, c3, c4, c5, c6, c7, c8, c9, c10, c11, c12, c13]) : P := h
theorem v21_ {P : Prop} (h : P := by have := NE.out; show w.heap.size ≤ w4.heap.size; omega) : P := h
theorem v22_ {P : Prop} (h : P := by with_reducible exact ext_parts_s _ _ _ _) : P := h
theorem v23_ {P : Prop} (h : P := by with_reducible exact ext_rough_s _ _ _ _) : P := h
theorem v24_ {P : Prop} (h : P := by with_reducible exact ext_parts_f _ _ _ _) : P := h
theorem v25_ {P : Prop} (h : P := by with_reducible exact ext_parts _ _ _ _) : P := h
theorem v26_ {P : Prop} (h : P := by with_reducible exact get_parts0 _ _ _ _) : P := h
theorem v27_ {P : Prop} (h : P := by with_reducible exact get_rough7 _ _ _ _) : P := h
theorem v28_ {P : Prop} (h : P := by with_reducible exact get_parts7 _ _ _ _) : P := h
theorem v29_ {P : Prop} (h : P := by with_reducible exact set_zero6 _ rfl) : P := h
theorem v30_ {P : Prop} (h : P := by with_reducible exact set_all _ _ rfl) : P := h
theorem v31_ {P : Prop} (h : P := by with_reducible exact set_parts_s _ _ _ _ _) : P := h
theorem v32_ {P : Prop} (h : P := by with_reducible exact set_rough_s _ _ _ _ _) : P := h
theorem v33_ {P : Prop} (h : P := by with_reducible exact set_parts_f _ _ _ _ _) : P := h
theorem v34_ {P : Prop} (h : P := by with_reducible exact set_parts_x _ _ _ _ _) : P := h
theorem v35_ {P : Prop} (h : P := by intro w; go_simp; try with_reducible rfl) : P := h
end Go.Proofs.YtecdpjhifmlahaaDoor
