/- Part 8 of the proof. -/
import Derived.Outline
import Derived.Deep.RegionWith
import Derived.Deep.RegionHeld3
import Derived.Deep.QuietTactic
import Derived.BigQuiet
import Derived.StillTailTactics
import Derived.Test.YtgmhmpflmgfcdaaGreatDoorHq4
import Derived.Test.YtgmhmpflmgfcdaaGreatDoorHq5
import Derived.Test.YtgmhmpflmgfcdaaGreatDoorHq6
import Derived.Test.YtgmhmpflmgfcdaaGreatDoorHq7
set_option linter.unusedSimpArgs false
set_option linter.unusedVariables false
set_option linter.unnecessarySimpa false
set_option maxRecDepth 100000
set_option maxHeartbeats 3200000
namespace Go.Proofs.YtgmhmpflmgfcdaaGreatDoor
open Go.RowKit
section
variable {P : Program} {w0 w : World} {L L' : List Bk} {op : Oper} {a : Act} {Q : Exit → Act → World → Prop} {ops : Array Oper} {rest : List Oper} {K : Act → World → Prop} {md : Region.Mode} {fuel : Nat} {listed : Array Bool} {S : World → Prop}
 {t : TypeId} {n g o : Nat} {z cs cs' vs : Array Value} {v : Value} {r : Array Value} {x y : Operand} {T : TypeId} {op2 op3 : Oper}
theorem Own.xa (H : Own w0 w L) (h : ∀ g w', Own w0 w' ((g, t, z) :: L) → wpList P ops Q rest (a.put op.dst (.pointer (some ⟨g, 0, none⟩))) w') (hw : Region.wanted op (yielded ops a.tmps) = true := by exact rfl) (ho : op.op = .alloc t := by exact rfl) (R : IsRow P t n z := by first | with_reducible exact rW | with_reducible exact rB | with_reducible exact rP | with_reducible exact rR | with_reducible exact rQ | with_reducible exact rV | with_reducible exact rEx | with_reducible exact rFd | with_reducible exact rD | with_reducible exact rE) : wpList P ops Q (op :: rest) a w := H.mk0 hw R ho h
theorem Own.xb (H : Own w0 w L) (h : ∀ g w', Own w0 w' ((g, T, cs) :: L) → wpList P ops Q rest (a.put op.dst (.pointer (some ⟨g, 0, none⟩))) w') (hw : Region.wanted op (yielded ops a.tmps) = true := by exact rfl) (ho : op.op = .box T x := by exact rfl) (hx : (a.eval x).cells = cs := by first | exact cells_int _ _ | exact cells_bool _ | exact cells_str _ | exact cells_ptr _ | exact cells_agg _) : wpList P ops Q (op :: rest) a w := H.box hw ho hx h
theorem Own.xl (H : Own w0 w L) (h : wpList P ops Q rest (a.put op.dst (.agg r)) w) (hw : Region.wanted op (yielded ops a.tmps) = true := by exact rfl) (ho : op.op = .load t x := by exact rfl) (hx : a.eval x = .pointer (some ⟨g, o, none⟩) := by exact rfl) (R : IsRow P t n z := by first | with_reducible exact rW | with_reducible exact rB | with_reducible exact rP | with_reducible exact rR | with_reducible exact rQ | with_reducible exact rV | with_reducible exact rEx | with_reducible exact rFd | with_reducible exact rD | with_reducible exact rE) (hi : (g, T, cs) ∈ L := by repeat (first | with_reducible exact List.mem_cons_self | apply List.mem_cons_of_mem)) (hv : cs.extract o (o + r.size) = r ∧ r.size = n := by first | exact ⟨by with_reducible exact ext_limbs _, by rfl⟩ | exact ⟨by with_reducible exact ext_2 _ _, by rfl⟩ | exact ⟨by with_reducible exact ext_parts _ _ _ _, by rfl⟩ | exact ⟨by with_reducible exact ext_rough _ _ _ _, by rfl⟩ | exact ⟨by with_reducible exact ext_ex _ _ _ _, by rfl⟩ | exact ⟨by with_reducible exact ext_fd _ _ _ _, by rfl⟩ | exact ⟨by with_reducible exact ext_parts_s _ _ _ _, by rfl⟩ | exact ⟨by with_reducible exact ext_rough_s _ _ _ _, by rfl⟩ | exact ⟨by with_reducible exact ext_parts_f _ _ _ _, by rfl⟩ | exact ⟨by with_reducible exact ext_t0 _ _ _ _ _ _ _ _ _ _ _ _, by rfl⟩ | exact ⟨by with_reducible exact ext_t1 _ _ _ _ _ _ _ _ _ _ _ _, by rfl⟩ | exact ⟨by with_reducible exact ext_t2 _ _ _ _ _ _ _ _ _ _ _ _, by rfl⟩ | exact ⟨by with_reducible exact ext_12 _, by rfl⟩ | exact ⟨by with_reducible exact ext_tri _ _ _ _ _ _ _ _ _ _ _ _, by rfl⟩ | exact ⟨by with_reducible exact ext_v8 _ _ _ _ _ _ _ _, by rfl⟩) : wpList P ops Q (op :: rest) a w := H.ld hw R ho hx hi hv.1 hv.2 h
theorem Own.xm (H : Own w0 w L) (h : wpList P ops Q rest (a.put op.dst v) w) (hw : Region.wanted op (yielded ops a.tmps) = true := by exact rfl) (ho : op.op = .load t x := by exact rfl) (hx : a.eval x = .pointer (some ⟨g, o, none⟩) := by exact rfl) (R : IsOne P t := by first | with_reducible exact oU | with_reducible exact oI | with_reducible exact oT | with_reducible exact oC | with_reducible exact oNat | with_reducible exact oY | with_reducible exact oF | with_reducible exact oS | with_reducible exact oK | with_reducible exact oX) (hi : (g, T, cs) ∈ L := by repeat (first | with_reducible exact List.mem_cons_self | apply List.mem_cons_of_mem)) (hv : cs[o]? = some v := by first | with_reducible exact get_10 _ | with_reducible exact get_20 _ _ | with_reducible exact get_21 _ _ | with_reducible exact limbs_o0 _ | with_reducible exact limbs_o1 _ | with_reducible exact limbs_o2 _ | with_reducible exact limbs_o3 _ | with_reducible exact limbs_o4 _ | with_reducible exact limbs_o5 _ | with_reducible exact get_rough7 _ _ _ _ | with_reducible exact get_parts7 _ _ _ _ | with_reducible exact get_rough0 _ _ _ _ | with_reducible exact get_rough8 _ _ _ _ | with_reducible exact get_parts0 _ _ _ _ | with_reducible exact get_ex0 _ _ _ _ | with_reducible exact get_ex1 _ _ _ _ | with_reducible exact get_ex2 _ _ _ _ | with_reducible exact get_ex3 _ _ _ _ | with_reducible exact get_fd1 _ _ _ _ | with_reducible exact get_fd3 _ _ _ _) : wpList P ops Q (op :: rest) a w := H.ld1 hw R ho hx hi hv h
theorem Own.xs (H : Own w0 w L) (h : ∀ w', Own w0 w' L' → wpList P ops Q rest (a.put op.dst undef) w') (hw : Region.wanted op (yielded ops a.tmps) = true := by exact rfl) (ho : op.op = .store t x y := by exact rfl) (hx : a.eval x = .pointer (some ⟨g, o, none⟩) := by exact rfl) (R : IsRow P t n z := by first | with_reducible exact rW | with_reducible exact rB | with_reducible exact rP | with_reducible exact rR | with_reducible exact rQ | with_reducible exact rV | with_reducible exact rEx | with_reducible exact rFd | with_reducible exact rD | with_reducible exact rE) (hy : (a.eval y).cells = vs := by exact cells_agg _) (hm : (g, T, cs) ∈ L := by repeat (first | with_reducible exact List.mem_cons_self | apply List.mem_cons_of_mem)) (hv : setRow cs o vs.toList = cs' := by first | with_reducible exact set_limbs _ _ | with_reducible exact set_limbsR _ _ | with_reducible exact set_limbsQ _ _ | with_reducible exact set_bits _ _ _ _ | with_reducible exact set_bitsR _ _ _ _ | with_reducible exact set_tri _ _ _ _ _ _ _ _ _ _ _ _ _ _ _ _ _ _ _ _ _ _ _ _ | with_reducible exact set_pw _ _ _ _ _ _ _ _ | with_reducible exact set_pwQ _ _ _ _ _ _ _ _ | with_reducible exact set_pwR _ _ _ _ _ _ _ _ | with_reducible exact set_ex _ _ _ _ _ _ _ _ | with_reducible exact set_fd _ _ _ _ _ _ _ _ | with_reducible exact set_parts_s _ _ _ _ _ | with_reducible exact set_rough_s _ _ _ _ _ | with_reducible exact set_parts_f _ _ _ _ _ | with_reducible exact set_v8 _ _ _ _ _ _ _ _ _ _ _ _ _ _ _ _ | with_reducible exact set_t0 _ _ _ _ _ _ _ _ _ _ _ _ _ _ _ _ | with_reducible exact set_t1 _ _ _ _ _ _ _ _ _ _ _ _ _ _ _ _ | with_reducible exact set_t2 _ _ _ _ _ _ _ _ _ _ _ _ _ _ _ _ | with_reducible exact set_rw _ _ _ _ _ _ _ _ | with_reducible exact set_rw2 _ _ _ _ _ _ _ _ | with_reducible exact set_zero6 _ rfl | with_reducible exact set_all _ _ rfl) (hs : vs.size = n := by rfl) (h1 : vs.all (·.oneCell') = true := by exact one_of rfl) (hn : o + vs.size ≤ cs.size := by first | exact ble_le rfl | (change _ + 1 ≤ 12; omega) | (change _ + 1 ≤ 6; omega) | (rw [fillTo_size]; change _ + 1 ≤ 6; omega) | (rw [rowB_size]; change _ + 1 ≤ _; omega)) (hi : Upd g T cs cs' L L' := by repeat (first | with_reducible exact Upd.head _ | apply Upd.tail)) : wpList P ops Q (op :: rest) a w := H.st hw R ho hx hy hi hv hs h1 hn h
theorem Own.xt (H : Own w0 w L) (h : ∀ w', Own w0 w' L' → wpList P ops Q rest (a.put op.dst undef) w') (hw : Region.wanted op (yielded ops a.tmps) = true := by exact rfl) (ho : op.op = .store t x y := by exact rfl) (hx : a.eval x = .pointer (some ⟨g, o, none⟩) := by exact rfl) (R : IsOne P t := by first | with_reducible exact oU | with_reducible exact oI | with_reducible exact oT | with_reducible exact oC | with_reducible exact oNat | with_reducible exact oY | with_reducible exact oF | with_reducible exact oS | with_reducible exact oK | with_reducible exact oX) (hy : (a.eval y).cells = vs := by first | exact cells_int _ _ | exact cells_bool _ | exact cells_str _ | exact cells_ptr _) (hm : (g, T, cs) ∈ L := by repeat (first | with_reducible exact List.mem_cons_self | apply List.mem_cons_of_mem)) (hv : setRow cs o vs.toList = cs' := by first | with_reducible exact set_10 _ _ | with_reducible exact set_20 _ _ _ | with_reducible exact set_21 _ _ _ | with_reducible exact set_parts_x _ _ _ _ _ | with_reducible exact set_rough_n _ _ _ _ _) (hs : vs.size = 1 := by rfl) (h1 : vs.all (·.oneCell') = true := by exact one_of rfl) (hn : o + vs.size ≤ cs.size := by first | exact ble_le rfl | (change _ + 1 ≤ 12; omega) | (change _ + 1 ≤ 6; omega) | (rw [fillTo_size]; change _ + 1 ≤ 6; omega) | (rw [rowB_size]; change _ + 1 ≤ _; omega)) (hi : Upd g T cs cs' L L' := by repeat (first | with_reducible exact Upd.head _ | apply Upd.tail)) : wpList P ops Q (op :: rest) a w := H.st1 hw R ho hx hy hi hv hs h1 hn h
theorem Own.ya (H : Own w0 w L) (h : ∀ g w', Own w0 w' ((g, t, z) :: L) → K (a.put op.dst (.pointer (some ⟨g, 0, none⟩))) w') (ho : op.op = .alloc t := by exact rfl) (R : IsRow P t n z := by first | with_reducible exact rW | with_reducible exact rB | with_reducible exact rP | with_reducible exact rR | with_reducible exact rQ | with_reducible exact rV | with_reducible exact rEx | with_reducible exact rFd | with_reducible exact rD | with_reducible exact rE) : op.wp P a w K Q := H.oal R ho h
theorem Own.yl (H : Own w0 w L) (h : K (a.put op.dst (.agg r)) w) (ho : op.op = .load t x := by exact rfl) (hx : a.eval x = .pointer (some ⟨g, o, none⟩) := by exact rfl) (R : IsRow P t n z := by first | with_reducible exact rW | with_reducible exact rB | with_reducible exact rP | with_reducible exact rR | with_reducible exact rQ | with_reducible exact rV | with_reducible exact rEx | with_reducible exact rFd | with_reducible exact rD | with_reducible exact rE) (hi : (g, T, cs) ∈ L := by repeat (first | with_reducible exact List.mem_cons_self | apply List.mem_cons_of_mem)) (hv : cs.extract o (o + r.size) = r ∧ r.size = n := by first | exact ⟨by with_reducible exact ext_limbs _, by rfl⟩ | exact ⟨by with_reducible exact ext_2 _ _, by rfl⟩ | exact ⟨by with_reducible exact ext_parts _ _ _ _, by rfl⟩ | exact ⟨by with_reducible exact ext_rough _ _ _ _, by rfl⟩ | exact ⟨by with_reducible exact ext_ex _ _ _ _, by rfl⟩ | exact ⟨by with_reducible exact ext_fd _ _ _ _, by rfl⟩ | exact ⟨by with_reducible exact ext_parts_s _ _ _ _, by rfl⟩ | exact ⟨by with_reducible exact ext_rough_s _ _ _ _, by rfl⟩ | exact ⟨by with_reducible exact ext_parts_f _ _ _ _, by rfl⟩ | exact ⟨by with_reducible exact ext_t0 _ _ _ _ _ _ _ _ _ _ _ _, by rfl⟩ | exact ⟨by with_reducible exact ext_t1 _ _ _ _ _ _ _ _ _ _ _ _, by rfl⟩ | exact ⟨by with_reducible exact ext_t2 _ _ _ _ _ _ _ _ _ _ _ _, by rfl⟩ | exact ⟨by with_reducible exact ext_12 _, by rfl⟩ | exact ⟨by with_reducible exact ext_tri _ _ _ _ _ _ _ _ _ _ _ _, by rfl⟩ | exact ⟨by with_reducible exact ext_v8 _ _ _ _ _ _ _ _, by rfl⟩) : op.wp P a w K Q := H.old R ho hx hi hv.1 hv.2 h
theorem Own.ym (H : Own w0 w L) (h : K (a.put op.dst v) w) (ho : op.op = .load t x := by exact rfl) (hx : a.eval x = .pointer (some ⟨g, o, none⟩) := by exact rfl) (R : IsOne P t := by first | with_reducible exact oU | with_reducible exact oI | with_reducible exact oT | with_reducible exact oC | with_reducible exact oNat | with_reducible exact oY | with_reducible exact oF | with_reducible exact oS | with_reducible exact oK | with_reducible exact oX) (hi : (g, T, cs) ∈ L := by repeat (first | with_reducible exact List.mem_cons_self | apply List.mem_cons_of_mem)) (hv : cs[o]? = some v := by first | with_reducible exact get_10 _ | with_reducible exact get_20 _ _ | with_reducible exact get_21 _ _ | with_reducible exact limbs_o0 _ | with_reducible exact limbs_o1 _ | with_reducible exact limbs_o2 _ | with_reducible exact limbs_o3 _ | with_reducible exact limbs_o4 _ | with_reducible exact limbs_o5 _ | with_reducible exact get_rough7 _ _ _ _ | with_reducible exact get_parts7 _ _ _ _ | with_reducible exact get_rough0 _ _ _ _ | with_reducible exact get_rough8 _ _ _ _ | with_reducible exact get_parts0 _ _ _ _ | with_reducible exact get_ex0 _ _ _ _ | with_reducible exact get_ex1 _ _ _ _ | with_reducible exact get_ex2 _ _ _ _ | with_reducible exact get_ex3 _ _ _ _ | with_reducible exact get_fd1 _ _ _ _ | with_reducible exact get_fd3 _ _ _ _) : op.wp P a w K Q := H.old1 R ho hx hi hv h
theorem Own.ys (H : Own w0 w L) (h : ∀ w', Own w0 w' L' → K (a.put op.dst undef) w') (ho : op.op = .store t x y := by exact rfl) (hx : a.eval x = .pointer (some ⟨g, o, none⟩) := by exact rfl) (R : IsRow P t n z := by first | with_reducible exact rW | with_reducible exact rB | with_reducible exact rP | with_reducible exact rR | with_reducible exact rQ | with_reducible exact rV | with_reducible exact rEx | with_reducible exact rFd | with_reducible exact rD | with_reducible exact rE) (hy : (a.eval y).cells = vs := by exact cells_agg _) (hm : (g, T, cs) ∈ L := by repeat (first | with_reducible exact List.mem_cons_self | apply List.mem_cons_of_mem)) (hv : setRow cs o vs.toList = cs' := by first | with_reducible exact set_limbs _ _ | with_reducible exact set_limbsR _ _ | with_reducible exact set_limbsQ _ _ | with_reducible exact set_bits _ _ _ _ | with_reducible exact set_bitsR _ _ _ _ | with_reducible exact set_tri _ _ _ _ _ _ _ _ _ _ _ _ _ _ _ _ _ _ _ _ _ _ _ _ | with_reducible exact set_pw _ _ _ _ _ _ _ _ | with_reducible exact set_pwQ _ _ _ _ _ _ _ _ | with_reducible exact set_pwR _ _ _ _ _ _ _ _ | with_reducible exact set_ex _ _ _ _ _ _ _ _ | with_reducible exact set_fd _ _ _ _ _ _ _ _ | with_reducible exact set_parts_s _ _ _ _ _ | with_reducible exact set_rough_s _ _ _ _ _ | with_reducible exact set_parts_f _ _ _ _ _ | with_reducible exact set_v8 _ _ _ _ _ _ _ _ _ _ _ _ _ _ _ _ | with_reducible exact set_t0 _ _ _ _ _ _ _ _ _ _ _ _ _ _ _ _ | with_reducible exact set_t1 _ _ _ _ _ _ _ _ _ _ _ _ _ _ _ _ | with_reducible exact set_t2 _ _ _ _ _ _ _ _ _ _ _ _ _ _ _ _ | with_reducible exact set_rw _ _ _ _ _ _ _ _ | with_reducible exact set_rw2 _ _ _ _ _ _ _ _ | with_reducible exact set_zero6 _ rfl | with_reducible exact set_all _ _ rfl) (hs : vs.size = n := by rfl) (h1 : vs.all (·.oneCell') = true := by exact one_of rfl) (hn : o + vs.size ≤ cs.size := by first | exact ble_le rfl | (change _ + 1 ≤ 12; omega) | (change _ + 1 ≤ 6; omega) | (rw [fillTo_size]; change _ + 1 ≤ 6; omega) | (rw [rowB_size]; change _ + 1 ≤ _; omega)) (hi : Upd g T cs cs' L L' := by repeat (first | with_reducible exact Upd.head _ | apply Upd.tail)) : op.wp P a w K Q := H.ost R ho hx hy hi hv hs h1 hn h
theorem Own.yt (H : Own w0 w L) (h : ∀ w', Own w0 w' L' → K (a.put op.dst undef) w') (ho : op.op = .store t x y := by exact rfl) (hx : a.eval x = .pointer (some ⟨g, o, none⟩) := by exact rfl) (R : IsOne P t := by first | with_reducible exact oU | with_reducible exact oI | with_reducible exact oT | with_reducible exact oC | with_reducible exact oNat | with_reducible exact oY | with_reducible exact oF | with_reducible exact oS | with_reducible exact oK | with_reducible exact oX) (hy : (a.eval y).cells = vs := by first | exact cells_int _ _ | exact cells_bool _ | exact cells_str _ | exact cells_ptr _) (hm : (g, T, cs) ∈ L := by repeat (first | with_reducible exact List.mem_cons_self | apply List.mem_cons_of_mem)) (hv : setRow cs o vs.toList = cs' := by first | with_reducible exact set_10 _ _ | with_reducible exact set_20 _ _ _ | with_reducible exact set_21 _ _ _ | with_reducible exact set_parts_x _ _ _ _ _ | with_reducible exact set_rough_n _ _ _ _ _) (hs : vs.size = 1 := by rfl) (h1 : vs.all (·.oneCell') = true := by exact one_of rfl) (hn : o + vs.size ≤ cs.size := by first | exact ble_le rfl | (change _ + 1 ≤ 12; omega) | (change _ + 1 ≤ 6; omega) | (rw [fillTo_size]; change _ + 1 ≤ 6; omega) | (rw [rowB_size]; change _ + 1 ≤ _; omega)) (hi : Upd g T cs cs' L L' := by repeat (first | with_reducible exact Upd.head _ | apply Upd.tail)) : op.wp P a w K Q := H.ost1 R ho hx hy hi hv hs h1 hn h
theorem Own.zr (H : Own w0 w L) (i : Nat) (h : wpAnyH P md ops Q (fun w' => Own w0 w' L') fuel (listed.setIfInBounds i true) (a.put op.dst v) w) (hL : List.Sublist L' L := by repeat (first | with_reducible exact List.Sublist.refl _ | with_reducible apply List.Sublist.cons_cons | with_reducible apply List.Sublist.cons)) (hi' : ops[i]? = some op := by exact rfl) (hs' : Region.noSelect ops = true := by kernel_rfl) (hf : Region.free md ops listed i = true := by kernel_rfl) (hr : (Region.ready md ops listed).contains i = true := by kernel_rfl) (hQ : ∀ v c a w, Q (.panic c) (a.put op.dst v) w → Q (.panic c) a w := by first | exact fun _ _ _ _ h => h | exact fun _ _ _ _ h => by cases h.1) (hw : Region.wanted op (yielded ops a.tmps) = true := by exact rfl) (hv : ∀ w, (execOp a.eval op).run P w = .ok (.value v) w := by intro w; go_simp; (try with_reducible rfl)) : wpAnyH P md ops Q (fun w' => Own w0 w' L') (fuel + 1) listed a w := H.takeRun hL i hi' hs' hf hr hQ hw hv h
theorem Own.zl (H : Own w0 w L) (i : Nat) (h : wpAnyH P md ops Q (fun w' => Own w0 w' L') fuel (listed.setIfInBounds i true) (a.put op.dst (.agg r)) w) (hL : List.Sublist L' L := by repeat (first | with_reducible exact List.Sublist.refl _ | with_reducible apply List.Sublist.cons_cons | with_reducible apply List.Sublist.cons)) (hi' : ops[i]? = some op := by exact rfl) (hs' : Region.noSelect ops = true := by kernel_rfl) (hf : Region.free md ops listed i = true := by kernel_rfl) (hr : (Region.ready md ops listed).contains i = true := by kernel_rfl) (hQ : ∀ v c a w, Q (.panic c) (a.put op.dst v) w → Q (.panic c) a w := by first | exact fun _ _ _ _ h => h | exact fun _ _ _ _ h => by cases h.1) (hw : Region.wanted op (yielded ops a.tmps) = true := by exact rfl) (ho : op.op = .load t x := by exact rfl) (hx : a.eval x = .pointer (some ⟨g, o, none⟩) := by exact rfl) (R : IsRow P t n z := by first | with_reducible exact rW | with_reducible exact rB | with_reducible exact rP | with_reducible exact rR | with_reducible exact rQ | with_reducible exact rV | with_reducible exact rEx | with_reducible exact rFd | with_reducible exact rD | with_reducible exact rE) (hi : (g, T, cs) ∈ L' := by repeat (first | with_reducible exact List.mem_cons_self | apply List.mem_cons_of_mem)) (hv : cs.extract o (o + r.size) = r ∧ r.size = n := by first | exact ⟨by with_reducible exact ext_limbs _, by rfl⟩ | exact ⟨by with_reducible exact ext_2 _ _, by rfl⟩ | exact ⟨by with_reducible exact ext_parts _ _ _ _, by rfl⟩ | exact ⟨by with_reducible exact ext_rough _ _ _ _, by rfl⟩ | exact ⟨by with_reducible exact ext_ex _ _ _ _, by rfl⟩ | exact ⟨by with_reducible exact ext_fd _ _ _ _, by rfl⟩ | exact ⟨by with_reducible exact ext_parts_s _ _ _ _, by rfl⟩ | exact ⟨by with_reducible exact ext_rough_s _ _ _ _, by rfl⟩ | exact ⟨by with_reducible exact ext_parts_f _ _ _ _, by rfl⟩ | exact ⟨by with_reducible exact ext_t0 _ _ _ _ _ _ _ _ _ _ _ _, by rfl⟩ | exact ⟨by with_reducible exact ext_t1 _ _ _ _ _ _ _ _ _ _ _ _, by rfl⟩ | exact ⟨by with_reducible exact ext_t2 _ _ _ _ _ _ _ _ _ _ _ _, by rfl⟩ | exact ⟨by with_reducible exact ext_12 _, by rfl⟩ | exact ⟨by with_reducible exact ext_tri _ _ _ _ _ _ _ _ _ _ _ _, by rfl⟩ | exact ⟨by with_reducible exact ext_v8 _ _ _ _ _ _ _ _, by rfl⟩) : wpAnyH P md ops Q (fun w' => Own w0 w' L') (fuel + 1) listed a w := H.tk hL i hi' hs' hf hr hQ hw R ho hx hi hv.1 hv.2 h
theorem Own.zm (H : Own w0 w L) (i : Nat) (h : wpAnyH P md ops Q (fun w' => Own w0 w' L') fuel (listed.setIfInBounds i true) (a.put op.dst v) w) (hL : List.Sublist L' L := by repeat (first | with_reducible exact List.Sublist.refl _ | with_reducible apply List.Sublist.cons_cons | with_reducible apply List.Sublist.cons)) (hi' : ops[i]? = some op := by exact rfl) (hs' : Region.noSelect ops = true := by kernel_rfl) (hf : Region.free md ops listed i = true := by kernel_rfl) (hr : (Region.ready md ops listed).contains i = true := by kernel_rfl) (hQ : ∀ v c a w, Q (.panic c) (a.put op.dst v) w → Q (.panic c) a w := by first | exact fun _ _ _ _ h => h | exact fun _ _ _ _ h => by cases h.1) (hw : Region.wanted op (yielded ops a.tmps) = true := by exact rfl) (ho : op.op = .load t x := by exact rfl) (hx : a.eval x = .pointer (some ⟨g, o, none⟩) := by exact rfl) (R : IsOne P t := by first | with_reducible exact oU | with_reducible exact oI | with_reducible exact oT | with_reducible exact oC | with_reducible exact oNat | with_reducible exact oY | with_reducible exact oF | with_reducible exact oS | with_reducible exact oK | with_reducible exact oX) (hi : (g, T, cs) ∈ L' := by repeat (first | with_reducible exact List.mem_cons_self | apply List.mem_cons_of_mem)) (hv : cs[o]? = some v := by first | with_reducible exact get_10 _ | with_reducible exact get_20 _ _ | with_reducible exact get_21 _ _ | with_reducible exact limbs_o0 _ | with_reducible exact limbs_o1 _ | with_reducible exact limbs_o2 _ | with_reducible exact limbs_o3 _ | with_reducible exact limbs_o4 _ | with_reducible exact limbs_o5 _ | with_reducible exact get_rough7 _ _ _ _ | with_reducible exact get_parts7 _ _ _ _ | with_reducible exact get_rough0 _ _ _ _ | with_reducible exact get_rough8 _ _ _ _ | with_reducible exact get_parts0 _ _ _ _ | with_reducible exact get_ex0 _ _ _ _ | with_reducible exact get_ex1 _ _ _ _ | with_reducible exact get_ex2 _ _ _ _ | with_reducible exact get_ex3 _ _ _ _ | with_reducible exact get_fd1 _ _ _ _ | with_reducible exact get_fd3 _ _ _ _) : wpAnyH P md ops Q (fun w' => Own w0 w' L') (fuel + 1) listed a w := H.tk1 hL i hi' hs' hf hr hQ hw R ho hx hi hv h
theorem Own.nx {X : Prop} (H : Own w0 w L) (h : X) (hL : List.Sublist L' L := by repeat (first | with_reducible exact List.Sublist.refl _ | with_reducible apply List.Sublist.cons_cons | with_reducible apply List.Sublist.cons)) : Own w0 w L' ∧ X := ⟨H.sub hL, h⟩
theorem held1 (i : Nat) (h : op.wp P a w (fun a' w' => S w' ∧ wpAnyH P md ops Q S fuel (listed.setIfInBounds i true) a' w') Q) (hr : Region.ready md ops listed = [i] := by kernel_rfl) (ho : ops[i]? = some op := by exact rfl) (hw : Region.wanted op (yielded ops a.tmps) = true := by exact rfl) : wpAnyH P md ops Q S (fuel + 1) listed a w := held_one hr ho hw h
theorem held2 (i k : Nat) (h : op.wp P a w (fun a' w' => S w' ∧ wpAnyH P md ops Q S fuel (listed.setIfInBounds i true) a' w') Q) (h2 : op2.wp P a w (fun a' w' => S w' ∧ wpAnyH P md ops Q S fuel (listed.setIfInBounds k true) a' w') Q) (hr : Region.ready md ops listed = [i, k] := by kernel_rfl) (ho : ops[i]? = some op := by exact rfl) (hw : Region.wanted op (yielded ops a.tmps) = true := by exact rfl) (ho2 : ops[k]? = some op2 := by exact rfl) (hw2 : Region.wanted op2 (yielded ops a.tmps) = true := by exact rfl) : wpAnyH P md ops Q S (fuel + 1) listed a w := held_two hr ho hw ho2 hw2 h h2
theorem held3 (i k l : Nat) (h : op.wp P a w (fun a' w' => S w' ∧ wpAnyH P md ops Q S fuel (listed.setIfInBounds i true) a' w') Q) (h2 : op2.wp P a w (fun a' w' => S w' ∧ wpAnyH P md ops Q S fuel (listed.setIfInBounds k true) a' w') Q) (h3 : op3.wp P a w (fun a' w' => S w' ∧ wpAnyH P md ops Q S fuel (listed.setIfInBounds l true) a' w') Q) (hr : Region.ready md ops listed = [i, k, l] := by kernel_rfl) (ho : ops[i]? = some op := by exact rfl) (hw : Region.wanted op (yielded ops a.tmps) = true := by exact rfl) (ho2 : ops[k]? = some op2 := by exact rfl) (hw2 : Region.wanted op2 (yielded ops a.tmps) = true := by exact rfl) (ho3 : ops[l]? = some op3 := by exact rfl) (hw3 : Region.wanted op3 (yielded ops a.tmps) = true := by exact rfl) : wpAnyH P md ops Q S (fuel + 1) listed a w := held_three hr ho hw ho2 hw2 ho3 hw3 h h2 h3
end
theorem rW : IsRow Tryz.prog 60 6 (limbs 0) := ⟨⟨_, Tryz.underlying60, rfl⟩, tW_s, tW_z⟩
theorem rB : IsRow Tryz.prog 27 2 #[.int .u64 0, .int .u64 0] := ⟨⟨_, Tryz.underlying27, rfl⟩, tB_s, tB_z⟩
theorem rP : IsRow Tryz.prog 100 14 (parts 0 0 0 0) := ⟨⟨_, Tryz.underlying100, rfl⟩, tP_s, tP_z⟩
theorem rR : IsRow Tryz.prog 83 9 (rough false 0 0 false) := ⟨⟨_, Tryz.underlying83, rfl⟩, tR_s, tR_z⟩
theorem oU : IsOne Tryz.prog 25 := ⟨⟨_, Tryz.underlying25, rfl⟩, tu_s⟩
theorem oI : IsOne Tryz.prog 3 := ⟨⟨_, Tryz.underlying3, rfl⟩, ti_s⟩
theorem oT : IsOne Tryz.prog 4 := ⟨⟨_, Tryz.underlying4, rfl⟩, tb_s⟩
theorem oC : IsOne Tryz.prog 65 := ⟨⟨_, Tryz.underlying65, rfl⟩, tc_s⟩
theorem fields_mk (P K t e : Nat) (neg : Bool) (ht : t < 2 ^ P) (he : e < 2 ^ K) :
  (e * 2 ^ P + t + cond neg (2 ^ (P + K)) 0) % 2 ^ P = t ∧ (e * 2 ^ P + t + cond neg (2 ^ (P + K)) 0) / 2 ^ P % 2 ^ K = e ∧
  (e * 2 ^ P + t + cond neg (2 ^ (P + K)) 0).testBit (P + K) = neg ∧ e * 2 ^ P + t + cond neg (2 ^ (P + K)) 0 < 2 ^ (P + K + 1) := by
 have hp := two_pos P
 have hk := two_pos K
 have e1 : e * 2 ^ P + t + cond neg (2 ^ (P + K)) 0 = 2 ^ P * (e + cond neg 1 0 * 2 ^ K) + t := by
  rw [Nat.mul_add, Nat.mul_comm e, Nat.pow_add]; cases neg <;> simp <;> omega
 have hdiv : (2 ^ P * (e + cond neg 1 0 * 2 ^ K) + t) / 2 ^ P = e + cond neg 1 0 * 2 ^ K := by
  rw [Nat.mul_add_div hp, Nat.div_eq_of_lt ht, Nat.add_zero]
 have hlt : 2 ^ P * (e + cond neg 1 0 * 2 ^ K) + t < 2 ^ P * 2 ^ (K + 1) := by
  have : e + cond neg 1 0 * 2 ^ K + 1 ≤ 2 ^ (K + 1) := by rw [Nat.pow_succ]; cases neg <;> simp <;> omega
  have := Nat.mul_le_mul_left (2 ^ P) this
  rw [Nat.mul_add _ _ 1] at this; omega
 rw [e1]
 refine ⟨?_, ?_, ?_, ?_⟩
 ·rw [Nat.mul_add_mod]; exact Nat.mod_eq_of_lt ht
 ·rw [hdiv, Nat.add_mul_mod_self_right]; exact Nat.mod_eq_of_lt he
 ·rw [Nat.testBit_eq_decide_div_mod_eq, Nat.pow_add, ← Nat.div_div_eq_div_mul, hdiv, Nat.add_mul_div_right _ _ hk, Nat.div_eq_of_lt he]
  cases neg <;> rfl
 ·rw [Nat.add_assoc, Nat.pow_add]; exact hlt
theorem fields_of (P K b : Nat) (h : b < 2 ^ (P + K + 1)) : b / 2 ^ P % 2 ^ K * 2 ^ P + b % 2 ^ P + cond (b.testBit (P + K)) (2 ^ (P + K)) 0 = b := by
 have h1 := Nat.div_add_mod b (2 ^ P)
 have h2 := Nat.div_add_mod (b / 2 ^ P) (2 ^ K)
 have hq : b / 2 ^ P / 2 ^ K < 2 := by
  rw [Nat.div_div_eq_div_mul, ← Nat.pow_add, Nat.div_lt_iff_lt_mul (two_pos _)]
  rw [Nat.pow_succ] at h; omega
 rw [Nat.testBit_eq_decide_div_mod_eq, Nat.pow_add 2 P K, ← Nat.div_div_eq_div_mul]
 generalize b / 2 ^ P / 2 ^ K = q at *
 generalize b / 2 ^ P % 2 ^ K = e at *
 have : q = 0 ∨ q = 1 := by omega
 rcases this with rfl | rfl
 ·rw [Nat.mul_zero] at h2
  simp only [Nat.zero_mod, decide_false, cond, Nat.zero_ne_one]
  rw [← h2, Nat.mul_comm, Nat.zero_add] at h1; omega
 ·rw [Nat.mul_one] at h2
  rw [← h2, Nat.mul_add, Nat.mul_comm (2 ^ P) e] at h1
  simp; omega
theorem formK (f : Nat) (h : f < 4) : wF f = pF f - 1 + (wF f - pF f) + 1 ∧ wF f - 1 = pF f - 1 + (wF f - pF f) ∧ 2 ^ (wF f - pF f) = 2 * eF f + 2 ∧ 15 ≤ eF f ∧ eF f ≤ 16383 ∧ eminI f = 1 - (eF f : Int) ∧ 11 ≤ pF f ∧ pF f ≤ 113 := by
 have : f = 0 ∨ f = 1 ∨ f = 2 ∨ f = 3 := by omega
 rcases this with rfl | rfl | rfl | rfl <;> decide
theorem fits_iff (f b : Nat) : fitsB f b = true ↔ f < 4 ∧ b < 2 ^ wF f := by unfold fitsB; simp
def mkN (f : Nat) (neg : Bool) (e t : Nat) : Nat := e * 2 ^ (pF f - 1) + t + signN f neg
theorem mkN_fields (f : Nat) (hf : f < 4) (neg : Bool) (e t : Nat) (ht : t < 2 ^ (pF f - 1)) (he : e < 2 * eF f + 2) :
  mkN f neg e t % 2 ^ (pF f - 1) = t ∧ expN f (mkN f neg e t) = e ∧ (mkN f neg e t).testBit (wF f - 1) = neg ∧ fitsB f (mkN f neg e t) = true := by
 obtain ⟨h1, h2, h3, -⟩ := formK f hf
 have := fields_mk (pF f - 1) (wF f - pF f) t e neg ht (by rw [h3]; exact he)
 rw [← h2] at this
 unfold expN
 refine ⟨this.1, this.2.1, this.2.2.1, (fits_iff _ _).2 ⟨hf, ?_⟩⟩
 have h4 := this.2.2.2
 rw [h2, ← h1] at h4
 unfold mkN signN
 rw [h2]; exact h4
theorem mkN_of (f b : Nat) (h : fitsB f b = true) : mkN f (b.testBit (wF f - 1)) (expN f b) (b % 2 ^ (pF f - 1)) = b := by
 obtain ⟨hf, hb⟩ := (fits_iff f b).1 h
 obtain ⟨h1, h2, -⟩ := formK f hf
 have := fields_of (pF f - 1) (wF f - pF f) b (by rw [← h1]; exact hb)
 unfold mkN expN signN
 rw [h2]; exact this
theorem expN_lt (f b : Nat) (hf : f < 4) : expN f b < 2 * eF f + 2 := by
 obtain ⟨-, -, h3, -⟩ := formK f hf
 rw [← h3]; exact Nat.mod_lt _ (two_pos _)
def sigN (f b : Nat) : Nat := if clsN f b = 1 ∨ clsN f b = 6 then b % 2 ^ (pF f - 1) + 2 ^ (pF f - 1) else if clsN f b = 2 ∨ clsN f b = 5 then b % 2 ^ (pF f - 1) else 0
def xpN (f b : Nat) : Int := if clsN f b = 1 ∨ clsN f b = 6 then (expN f b : Int) - 1 + eminI f - (pF f : Nat) + 1 else if clsN f b = 2 ∨ clsN f b = 5 then (expN f b : Int) + eminI f - (pF f : Nat) + 1 else 0
def frN (f b : Nat) : Nat := if 8 ≤ clsN f b then b % 2 ^ (pF f - 1) else 0
def negN (f b : Nat) : Bool := b.testBit (wF f - 1)
theorem cls_cases (f b : Nat) :
  (expN f b = 2 * eF f + 1 ∧ b % 2 ^ (pF f - 1) = 0 ∧ clsN f b = cond (negN f b) 0 7) ∨
  (expN f b = 2 * eF f + 1 ∧ b % 2 ^ (pF f - 1) ≠ 0 ∧ clsN f b = cond ((b % 2 ^ (pF f - 1)).testBit (pF f - 2)) 9 8) ∨
  (expN f b = 0 ∧ b % 2 ^ (pF f - 1) = 0 ∧ clsN f b = cond (negN f b) 3 4) ∨
  (expN f b = 0 ∧ b % 2 ^ (pF f - 1) ≠ 0 ∧ clsN f b = cond (negN f b) 2 5) ∨
  (expN f b ≠ 0 ∧ expN f b ≠ 2 * eF f + 1 ∧ clsN f b = cond (negN f b) 1 6) := by
 unfold clsN negN
 by_cases h1 : expN f b = 2 * eF f + 1
 ·by_cases h2 : b % 2 ^ (pF f - 1) = 0
  ·left; rw [if_pos h1, if_pos h2]; exact ⟨h1, h2, rfl⟩
  ·right; left; rw [if_pos h1, if_neg h2]; exact ⟨h1, h2, rfl⟩
 ·by_cases h3 : expN f b = 0
  ·by_cases h2 : b % 2 ^ (pF f - 1) = 0
   ·right; right; left; rw [if_neg h1, if_pos h3, if_pos h2]; exact ⟨h3, h2, rfl⟩
   ·right; right; right; left; rw [if_neg h1, if_pos h3, if_neg h2]; exact ⟨h3, h2, rfl⟩
  ·right; right; right; right; rw [if_neg h1, if_neg h3]; exact ⟨h3, h1, rfl⟩
theorem cls_le (f b : Nat) : clsN f b ≤ 9 := by
 rcases cls_cases f b with ⟨_, _, h⟩ | ⟨_, _, h⟩ | ⟨_, _, h⟩ | ⟨_, _, h⟩ | ⟨_, _, h⟩ <;> rw [h]
 ·cases negN f b <;> decide
 ·cases (b % 2 ^ (pF f - 1)).testBit (pF f - 2) <;> decide
 ·cases negN f b <;> decide
 ·cases negN f b <;> decide
 ·cases negN f b <;> decide
structure Can (f c : Nat) (q : Int) : Prop where
 pos : c ≠ 0
 lt : c < 2 ^ pF f
 ge : eminI f - pF f + 1 ≤ q
 le : q ≤ (eF f : Int) - pF f + 1
 norm : 2 ^ (pF f - 1) ≤ c ∨ q = eminI f - pF f + 1
def Fin0 (f b : Nat) : Prop := clsN f b = 1 ∨ clsN f b = 6 ∨ clsN f b = 2 ∨ clsN f b = 5
theorem pow_pred (f : Nat) (hf : f < 4) : 2 ^ pF f = 2 ^ (pF f - 1) + 2 ^ (pF f - 1) := by
 obtain ⟨-, -, -, -, -, -, h, -⟩ := formK f hf
 rw [show pF f = (pF f - 1) + 1 by omega, Nat.pow_succ]; simp; omega
theorem can_of (f b : Nat) (h : fitsB f b = true) (hc : Fin0 f b) : Can f (sigN f b) (xpN f b) ∧ encN f (negN f b) (sigN f b) (xpN f b) = b := by
 obtain ⟨hf, hb⟩ := (fits_iff f b).1 h
 obtain ⟨h1, h2, h3, h4, h5, h6, h7, h8⟩ := formK f hf
 have hp := pow_pred f hf
 have ht := Nat.mod_lt b (two_pos (pF f - 1))
 have hm := mkN_of f b h
 have hx := expN_lt f b hf
 unfold Fin0 at hc
 rcases cls_cases f b with ⟨e1, e2, e3⟩ | ⟨e1, e2, e3⟩ | ⟨e1, e2, e3⟩ | ⟨e1, e2, e3⟩ | ⟨e1, e2, e3⟩
 ·exfalso; rw [e3] at hc; revert hc; cases negN f b <;> decide
 ·exfalso; rw [e3] at hc; revert hc; cases (b % 2 ^ (pF f - 1)).testBit (pF f - 2) <;> decide
 ·exfalso; rw [e3] at hc; revert hc; cases negN f b <;> decide
 ·have c1 : ¬ (clsN f b = 1 ∨ clsN f b = 6) := by rw [e3]; cases negN f b <;> decide
  have c2 : clsN f b = 2 ∨ clsN f b = 5 := by rw [e3]; cases negN f b <;> decide
  unfold sigN xpN
  rw [if_neg c1, if_pos c2, if_neg c1, if_pos c2, e1]
  refine ⟨⟨e2, by omega, by omega, by omega, Or.inr (by omega)⟩, ?_⟩
  unfold mkN at hm
  unfold encN negN
  rw [e1, Nat.zero_mul, Nat.zero_add] at hm
  rw [show (((0 : Nat) : Int) + eminI f - (pF f : Nat) + 1 - eminI f + (pF f : Nat) - 1).toNat = 0 by omega, Nat.zero_mul, Nat.zero_add]
  exact hm
 ·have c1 : clsN f b = 1 ∨ clsN f b = 6 := by rw [e3]; cases negN f b <;> decide
  unfold sigN xpN
  rw [if_pos c1, if_pos c1]
  refine ⟨⟨by have := two_pos (pF f - 1); omega, by omega, by omega, by omega, Or.inl (by omega)⟩, ?_⟩
  unfold mkN at hm
  unfold encN negN
  rw [show ((expN f b : Int) - 1 + eminI f - (pF f : Nat) + 1 - eminI f + (pF f : Nat) - 1).toNat = expN f b - 1 by omega]
  have e4 : expN f b * 2 ^ (pF f - 1) = (expN f b - 1) * 2 ^ (pF f - 1) + 2 ^ (pF f - 1) := by
   obtain ⟨k, hk⟩ : ∃ k, expN f b = k + 1 := ⟨expN f b - 1, by omega⟩
   rw [hk, Nat.add_sub_cancel, Nat.add_mul]; omega
  omega
theorem pack_can (f m c : Nat) (q : Int) (neg : Bool) (hf : f < 4) (h : Can f c q) : packB f m neg c q false = (encN f neg c q, 0) := by
 obtain ⟨h1, h2, h3, h4, h5, h6, h7, h8⟩ := formK f hf
 have hlt := h.lt
 have hge := h.ge
 have hle := h.le
 have hpos := h.pos
 have l1 := (lenN_le c (pF f)).2 hlt
 have l2 := lenN_pos c hpos
 have hat : atN f (lenN c - 1 + q) = q := by
  unfold atN
  rcases h.norm with hn | hn
  ·have : lenN c = pF f := lenN_unique c (pF f) hn hlt (by omega)
   omega
  ·rcases Nat.lt_or_ge c (2 ^ (pF f - 1)) with hc | hc
   ·have := (lenN_le c (pF f - 1)).2 hc
    omega
   ·have : lenN c = pF f := lenN_unique c (pF f) hc hlt (by omega)
    omega
 have hg : gridN m neg c q false q = (c, true) := by
  unfold gridN
  rw [if_pos (by omega), show (q - q).toNat = 0 by omega, Nat.pow_zero, Nat.mul_one]; rfl
 unfold packB
 rw [hat, hg, if_neg (by omega), if_neg (by simp only []; omega)]
 rfl
theorem pack_exact (f m c s : Nat) (q e : Int) (neg : Bool) (hf : f < 4) (h : Can f c q) (hs : (e ≤ q ∧ s = c * 2 ^ (q - e).toNat) ∨ (q ≤ e ∧ c = s * 2 ^ (e - q).toNat)) :
  packB f m neg s e false = (encN f neg c q, 0) := by
 rw [← pack_can f m c q neg hf h]
 rcases hs with ⟨hle, rfl⟩ | ⟨hle, hs⟩
 ·symm
  exact pack_finer ⟨hle, by rw [Nat.mul_div_cancel _ (two_pos _)], by rw [Nat.mul_mod_left]; rfl⟩ f m neg h.pos (fun h => by cases h)
 ·have hpos := h.pos
  refine pack_finer ⟨hle, by rw [hs, Nat.mul_div_cancel _ (two_pos _)], by rw [hs, Nat.mul_mod_left]; rfl⟩ f m neg ?_ (fun h => by cases h)
  intro h0; rw [h0, Nat.zero_mul] at hs; exact hpos hs
theorem limb0 (b : Nat) : limb b 0 = ((b % 18446744073709551616 : Nat) : Int) := by unfold limb limbN; rw [Nat.mul_zero, Nat.pow_zero, Nat.div_one]
theorem limb1 (b : Nat) : limb b 1 = ((b / 18446744073709551616 % 18446744073709551616 : Nat) : Int) := rfl
theorem pair_bits {a b : Int} {n : Nat} (h1 : a = limb n 1) (h0 : b = limb n 0) : Ending.returned (.agg #[.int .u64 a, .int .u64 b]) = .returned (BV n) := by rw [h1, h0]
theorem wrap_shl (x n : Nat) : IntKind.u64.wrap ((x : Int) * 2 ^ n) = ((x * 2 ^ n % 18446744073709551616 : Nat) : Int) := by
 rw [IntKind.wrap_u64, show (2 : Int) ^ n = ((2 ^ n : Nat) : Int) by simp]; omega
theorem at_hi (x d : Nat) : Ending.returned (.agg #[.int .u64 (IntKind.u64.wrap ((x : Int) * 2 ^ d)), .int .u64 0]) = .returned (BV (x * 2 ^ (d + 64))) := by
 have e : x * 2 ^ (d + 64) = x * 2 ^ d * 18446744073709551616 := by rw [Nat.pow_add, Nat.mul_assoc]
 refine pair_bits ?_ ?_
 ·rw [limb1, e, wrap_shl, Nat.mul_div_cancel _ (by decide)]
 ·rw [limb0, e, Nat.mul_mod_left]; rfl
theorem at_zero (x : Nat) (hx : x < 18446744073709551616) : Ending.returned (.agg #[.int .u64 0, .int .u64 (IntKind.u64.wrap (x : Int))]) = .returned (BV (x * 2 ^ 0)) := by
 rw [Nat.pow_zero, Nat.mul_one]
 exact pair_bits (by rw [limb1, Nat.div_eq_of_lt hx]; rfl) (by rw [limb0, Nat.mod_eq_of_lt hx, IntKind.wrap_u64]; omega)
theorem at_lo (x n d : Nat) (hx : x < 18446744073709551616) (hd : n + d = 64) : Ending.returned (.agg #[.int .u64 ((x : Int) / 2 ^ d), .int .u64 (IntKind.u64.wrap ((x : Int) * 2 ^ n))]) = .returned (BV (x * 2 ^ n)) := by
 have e : 18446744073709551616 = 2 ^ n * 2 ^ d := by rw [← Nat.pow_add, hd]
 refine pair_bits ?_ ?_
 ·rw [limb1]
  have h1 : x * 2 ^ n / 18446744073709551616 = x / 2 ^ d := by rw [e, Nat.mul_comm (2 ^ n), Nat.mul_div_mul_right _ _ (Nat.two_pow_pos n)]
  have h2 : x / 2 ^ d < 18446744073709551616 := Nat.lt_of_le_of_lt (Nat.div_le_self _ _) hx
  rw [h1, Nat.mod_eq_of_lt h2, show (2 : Int) ^ d = ((2 ^ d : Nat) : Int) by simp]; rfl
 ·rw [limb0, wrap_shl]
theorem shapeAt_hi (x d : Nat) (n : Nat) (w : World) (hn : n = d + 64) (hd : d < 64) :
  CR_ 157 #[.int .u64 x, .int .i64 n] w (BV (x * 2 ^ n)) := by
 have H := Own.start w
 subst hn
 have h1 : (64 : Int) ≤ (d : Int) + 64 := by omega
 have du : IntKind.u64.wrap (d : Int) = (d : Int) := by rw [IntKind.wrap_u64]; omega
 have dt : min (d : Int).toNat 64 = d := by omega
 rw [show ((d + 64 : Nat) : Int) = (d : Int) + 64 by omega]
 go_enter Tryz.func157, Tryz.ntmps157
 go_wp2_with (first
  | ((with_reducible refine g0_ rfl ?_); refine H.xb ?_; (intro g w H; simp only [Act.put, q1_, q2_, q3_]))
  | ((with_reducible refine g1_ rfl ?_); refine H.xa ?_; (intro g w H; simp only [Act.put, q1_, q2_, q3_]))
  | ((with_reducible refine g2_ rfl ?_); (first | refine H.xl ?_ | refine H.xm ?_); simp only [Act.put, q1_, q2_, q3_])
  | ((with_reducible refine g3_ rfl ?_); (first | refine H.xs ?_ | refine H.xt ?_); (intro w H; simp only [Act.put]))
  )
 refine bodyPost_ret (results_c rfl rfl (H.res rB v2_ v3_ (by rfl))) rfl ⟨?_, H.below⟩
 exact at_hi x d
theorem shapeAt_zero (x n : Nat) (w : World) (hn : n = 0) (hx : x < 18446744073709551616) :
  CR_ 157 #[.int .u64 x, .int .i64 n] w (BV (x * 2 ^ n)) := by
 have H := Own.start w
 subst hn
 have HX := Lib.hid hx
 clear hx
 go_enter Tryz.func157, Tryz.ntmps157
 go_wp2_with (first
  | ((with_reducible refine g0_ rfl ?_); refine H.xb ?_; (intro g w H; simp only [Act.put, q1_, q2_, q3_]))
  | ((with_reducible refine g1_ rfl ?_); refine H.xa ?_; (intro g w H; simp only [Act.put, q1_, q2_, q3_]))
  | ((with_reducible refine g2_ rfl ?_); (first | refine H.xl ?_ | refine H.xm ?_); simp only [Act.put, q1_, q2_, q3_])
  | ((with_reducible refine g3_ rfl ?_); (first | refine H.xs ?_ | refine H.xt ?_); (intro w H; simp only [Act.put]))
  )
 refine bodyPost_ret (results_c rfl rfl (H.res rB v2_ v3_ (by rfl))) rfl ⟨?_, H.below⟩
 exact at_zero x HX.out
theorem shapeAt_lo (x n d : Nat) (w : World) (hn : 0 < n) (h64 : n < 64) (hd : n + d = 64) (hx : x < 18446744073709551616) :
  CR_ 157 #[.int .u64 x, .int .i64 n] w (BV (x * 2 ^ n)) := by
 have H := Own.start w
 have h0 : (0 : Int) < (n : Int) := by omega
 have h1 : ¬ (64 : Int) ≤ (n : Int) := by omega
 have h2 : (n : Int) < 64 := by omega
 have du : IntKind.u64.wrap (n : Int) = (n : Int) := by rw [IntKind.wrap_u64]; omega
 have dt : min (n : Int).toNat 64 = n := by omega
 have dv : IntKind.i64.wrap (64 - (n : Int)) = (d : Int) := by rw [show (64 : Int) - n = d by omega]; exact IntWalk.i64_in _ (by omega)
 have dw : (64 : Int) - (n : Int) = (d : Int) := by omega
 have eu : IntKind.u64.wrap (d : Int) = (d : Int) := by rw [IntKind.wrap_u64]; omega
 have et : min (d : Int).toNat 64 = d := by omega
 have HX := Lib.hid hx
 have HD := Lib.hid hd
 clear hx hd hn h64
 go_enter Tryz.func157, Tryz.ntmps157
 go_wp2_with (first
  | ((with_reducible refine g0_ rfl ?_); refine H.xb ?_; (intro g w H; simp only [Act.put, q1_, q2_, q3_]))
  | ((with_reducible refine g1_ rfl ?_); refine H.xa ?_; (intro g w H; simp only [Act.put, q1_, q2_, q3_]))
  | ((with_reducible refine g2_ rfl ?_); (first | refine H.xl ?_ | refine H.xm ?_); simp only [Act.put, q1_, q2_, q3_])
  | ((with_reducible refine g3_ rfl ?_); (first | refine H.xs ?_ | refine H.xt ?_); (intro w H; simp only [Act.put]))
  )
 refine bodyPost_ret (results_c rfl rfl (H.res rB v2_ v3_ (by rfl))) rfl ⟨?_, H.below⟩
 exact at_lo x n d HX.out HD.out
theorem shapeAt_any (x n : Nat) (w : World) (hn : n < 128) (hx : x < 18446744073709551616) :
  CR_ 157 #[.int .u64 x, .int .i64 n] w (BV (x * 2 ^ n)) := by
 rcases Nat.lt_or_ge n 64 with h | h
 ·rcases Nat.eq_zero_or_pos n with h0 | h0
  ·exact shapeAt_zero x n w h0 hx
  ·exact shapeAt_lo x n (64 - n) w h0 h (by omega) hx
 ·exact shapeAt_hi x (n - 64) n w (by omega) (by omega)
theorem pair_zero : Ending.returned (.agg #[.int .u64 0, .int .u64 0]) = .returned (BV 0) := rfl
theorem form_small (f : Nat) (hf : f < 4) : (2 * eF f + 1) * 2 ^ (pF f - 1) < 2 ^ (wF f - 1) ∧ (4 * eF f + 3) * 2 ^ (pF f - 2) < 2 ^ (wF f - 1) ∧ 0 < (2 * eF f + 1) * 2 ^ (pF f - 1) ∧ wF f - 1 < 128 := by
 have : f = 0 ∨ f = 1 ∨ f = 2 ∨ f = 3 := by omega
 rcases this with rfl | rfl | rfl | rfl <;> decide
theorem shapeAt_one (n : Nat) (w : World) (hn : n < 128) :
  CR_ 157 #[.int .u64 1, .int .i64 n] w (BV (1 * 2 ^ n)) := shapeAt_any 1 n w hn (by decide)
theorem shapeWith_big (f b : Nat) (neg : Bool) (w : World) (hf : f < 256) (h4 : ¬ f < 4) :
  CR_ 158 #[.int .u8 f, BV b, .bool neg] w (BV 0) := by
 have H := Own.start w
 go_enter Tryz.func158, Tryz.ntmps158
 exact walk4
theorem pair_or (a b : Nat) : Ending.returned (.agg #[.int .u64 (Go.bits .or .u64 (limb a 1) (limb b 1)), .int .u64 (Go.bits .or .u64 (limb a 0) (limb b 0))]) = .returned (BV (a ||| b)) := by
 rw [limb_or, limb_or]
theorem shapeWith_neg (f b : Nat) (w : World) (hf : f < 256) (h4 : f < 4) :
  CR_ 158 #[.int .u8 f, BV b, .bool true] w (BV (b ||| signN f true)) := by
 have H := Own.start w
 have cW := fun w => shapeWidth_any f w hf
 have hn := (form_small f h4).2.2.2
 unfold signN
 obtain ⟨n, hn1⟩ : ∃ n, wF f - 1 = n := ⟨_, rfl⟩
 have hw : 1 ≤ wF f := by have := (formK f h4).1; omega
 rw [hn1] at hn ⊢
 have vn : IntKind.i64.wrap ((wF f : Int) - 1) = (n : Int) := by rw [show (wF f : Int) - 1 = (n : Int) by omega]; exact IntWalk.i64_in _ (by omega)
 have vm : (wF f : Int) - 1 = (n : Int) := by omega
 generalize wF f = k at *
 clear hn1
 rw [show (cond true (2 ^ n) 0 : Nat) = 1 * 2 ^ n by simp]
 go_enter Tryz.func158, Tryz.ntmps158
 exact walk4
theorem shapeWith_pos (f b : Nat) (w : World) (hf : f < 256) (h4 : f < 4) :
  CR_ 158 #[.int .u8 f, BV b, .bool false] w (BV (b ||| signN f false)) := by
 have H := Own.start w
 rw [show signN f false = 0 from rfl, Nat.or_zero]
 go_enter Tryz.func158, Tryz.ntmps158
 exact walk4
theorem shapeWith_any (f b : Nat) (neg : Bool) (w : World) (hf : f < 256) :
  CR_ 158 #[.int .u8 f, BV b, .bool neg] w (BV (cond (decide (f < 4)) (b ||| signN f neg) 0)) := by
 by_cases h4 : f < 4
 ·rw [decide_eq_true h4]
  cases neg
  ·exact shapeWith_pos f b w hf h4
  ·exact shapeWith_neg f b w hf h4
 ·rw [decide_eq_false h4]
  exact shapeWith_big f b neg w hf h4
theorem roundUp_any (m : Nat) (neg odd : Bool) (half : Int) (exact : Bool) (w : World) (hm : m < 256) (hh : half = -1 ∨ half = 0 ∨ half = 1) :
  Calls Tryz.prog 123 #[.int .u8 m, .bool neg, .bool odd, .int .i64 half, .bool exact] w fun e w' => e = .returned (.bool (upB m neg odd half exact)) ∧ w = w' := by
 cases exact
 ·have : m = 0 ∨ m = 1 ∨ m = 2 ∨ m = 3 ∨ m = 4 ∨ 5 ≤ m := by omega
  rcases this with rfl | rfl | rfl | rfl | rfl | h
  ·rcases hh with rfl | rfl | rfl <;>
   ·go_enter Tryz.func123, Tryz.ntmps123
    go_wp2
    go_ret
    exact ⟨ret_bool (by simp [upB]), rfl⟩
  ·go_enter Tryz.func123, Tryz.ntmps123
   go_wp2
   go_ret
   exact ⟨ret_bool (by simp [upB]), rfl⟩
  ·cases neg <;>
   ·go_enter Tryz.func123, Tryz.ntmps123
    go_wp2
    go_ret
    exact ⟨ret_bool (by simp [upB]), rfl⟩
  ·cases neg <;>
   ·go_enter Tryz.func123, Tryz.ntmps123
    go_wp2
    go_ret
    exact ⟨ret_bool (by simp [upB]), rfl⟩
  ·rcases hh with rfl | rfl | rfl <;>
   ·go_enter Tryz.func123, Tryz.ntmps123
    go_wp2
    go_ret
    exact ⟨ret_bool (by simp [upB]), rfl⟩
  ·rw [upB_big _ _ _ _ _ h]
   have h5 : (5 : Int) ≤ (m : Int) := by omega
   have e0 : ((m : Int) == 0) = false := by simp; omega
   have e2 : ((m : Int) == 2) = false := by simp; omega
   have e3 : ((m : Int) == 3) = false := by simp; omega
   have e4 : ((m : Int) == 4) = false := by simp; omega
   go_enter Tryz.func123, Tryz.ntmps123
   go_wp2
   go_ret
   exact ⟨rfl, rfl⟩
 ·go_enter Tryz.func123, Tryz.ntmps123
  go_wp2
  go_ret
  exact ⟨ret_bool (by simp [upB]), rfl⟩
theorem or_sign (f x : Nat) (neg : Bool) (h : x < 2 ^ (wF f - 1)) : x ||| signN f neg = x + signN f neg := by
 cases neg
 ·exact (Nat.or_zero x).trans (Nat.add_zero x).symm
 ·show x ||| 2 ^ (wF f - 1) = x + 2 ^ (wF f - 1)
  rw [Nat.or_comm, Nat.add_comm]
  have := Nat.two_pow_add_eq_or_of_lt h 1
  rw [Nat.mul_one] at this; exact this.symm
theorem wrap_nat (x : Int) (n : Nat) (h : x = n) (hn : n < 18446744073709551616) : IntKind.u64.wrap x = (n : Int) := by rw [h, IntKind.wrap_u64]; omega
theorem shapeField_any (f k : Nat) (w : World) (h4 : f < 4) (hk : k < 32768) :
  CR_ 159 #[.int .u8 f, .int .i64 k] w (BV (k * 2 ^ (pF f - 1))) := by
 have H := Own.start w
 have cP := fun w => shapePrecision_any f w (by omega)
 obtain ⟨-, -, -, -, -, -, h1, h2⟩ := formK f h4
 obtain ⟨n, hn⟩ : ∃ n, pF f - 1 = n := ⟨_, rfl⟩
 rw [hn]
 have vn : IntKind.i64.wrap ((pF f : Int) - 1) = (n : Int) := by rw [show (pF f : Int) - 1 = (n : Int) by omega]; exact IntWalk.i64_in _ (by omega)
 have vm : (pF f : Int) - 1 = (n : Int) := by omega
 have ve : IntKind.u64.wrap (k : Int) = (k : Int) := wrap_nat _ k rfl (by omega)
 generalize pF f = p at *
 clear hn
 go_enter Tryz.func159, Tryz.ntmps159
 exact walk4
theorem shapeNaN_no (f : Nat) (w : World) (hf : f < 256) (h4 : ¬ f < 4) :
  CR_ 76 #[.int .u8 f] w (BV (nanN f)) := by
 have H := Own.start w
 rw [show nanN f = 0 by unfold nanN; rw [decide_eq_false h4]; rfl]
 go_enter Tryz.func76, Tryz.ntmps76
 exact walk4
theorem shapeNaN_yes (f : Nat) (w : World) (hf : f < 256) (h4 : f < 4) :
  CR_ 76 #[.int .u8 f] w (BV (nanN f)) := by
 have H := Own.start w
 rw [show nanN f = (4 * eF f + 3) * 2 ^ (pF f - 2) by unfold nanN; rw [decide_eq_true h4]; rfl]
 have cP := fun w => shapePrecision_any f w hf
 have cE := fun w => shapeEmax_any f w hf
 obtain ⟨-, -, -, e1, e2, -, h1, h2⟩ := formK f h4
 obtain ⟨n, hn⟩ : ∃ n, pF f - 2 = n := ⟨_, rfl⟩
 rw [hn]
 have vn : IntKind.i64.wrap ((pF f : Int) - 2) = (n : Int) := by rw [show (pF f : Int) - 2 = (n : Int) by omega]; exact IntWalk.i64_in _ (by omega)
 have vm : (pF f : Int) - 2 = (n : Int) := by omega
 have ve : IntKind.u64.wrap (4 * (eF f : Int) + 3) = ((4 * eF f + 3 : Nat) : Int) := wrap_nat _ _ (by omega) (by omega)
 have e3 : (eF f : Int) ≤ 16383 := by omega
 generalize pF f = p at *
 generalize eF f = m at *
 have cA := fun w => shapeAt_any (4 * m + 3) n w (by omega) (by omega)
 rw [show ((4 * m + 3 : Nat) : Int) = 4 * (m : Int) + 3 by omega] at cA
 clear hn ve
 go_enter Tryz.func76, Tryz.ntmps76
 exact walk4
theorem shapeNaN_any (f : Nat) (w : World) (hf : f < 256) :
  CR_ 76 #[.int .u8 f] w (BV (nanN f)) := by
 by_cases h4 : f < 4
 ·exact shapeNaN_yes f w hf h4
 ·exact shapeNaN_no f w hf h4
theorem shapeInf_no (f : Nat) (neg : Bool) (w : World) (hf : f < 256) (h4 : ¬ f < 4) :
  CR_ 77 #[.int .u8 f, .bool neg] w (BV (infN f neg)) := by
 have H := Own.start w
 rw [show infN f neg = 0 by unfold infN; rw [decide_eq_false h4]; rfl]
 go_enter Tryz.func77, Tryz.ntmps77
 exact walk4
theorem shapeInf_yes (f : Nat) (neg : Bool) (w : World) (hf : f < 256) (h4 : f < 4) :
  CR_ 77 #[.int .u8 f, .bool neg] w (BV (infN f neg)) := by
 have H := Own.start w
 have cE := fun w => shapeEmax_any f w hf
 obtain ⟨-, -, -, e1, e2, -, h1, h2⟩ := formK f h4
 have sm := (form_small f h4).1
 have cF := fun w => shapeField_any f (2 * eF f + 1) w h4 (by omega)
 have cW := fun w => shapeWith_any f ((2 * eF f + 1) * 2 ^ (pF f - 1)) neg w hf
 rw [or_sign f _ neg (sm), decide_eq_true h4] at cW
 rw [show infN f neg = (2 * eF f + 1) * 2 ^ (pF f - 1) + signN f neg by unfold infN; rw [decide_eq_true h4]; rfl]
 rw [show ((2 * eF f + 1 : Nat) : Int) = 2 * (eF f : Int) + 1 by omega] at cF
 have e3 : (eF f : Int) ≤ 16383 := by omega
 generalize signN f neg = sg at *
 generalize 2 ^ (pF f - 1) = pw at *
 generalize eF f = m at *
 go_enter Tryz.func77, Tryz.ntmps77
 exact walk4
theorem shapeInf_any (f : Nat) (neg : Bool) (w : World) (hf : f < 256) :
  CR_ 77 #[.int .u8 f, .bool neg] w (BV (infN f neg)) := by
 by_cases h4 : f < 4
 ·exact shapeInf_yes f neg w hf h4
 ·exact shapeInf_no f neg w hf h4
theorem shapeZero_any (f : Nat) (neg : Bool) (w : World) (hf : f < 256) :
  CR_ 78 #[.int .u8 f, .bool neg] w (BV (zeroN f neg)) := by
 have H := Own.start w
 have cW : ∀ w, CR_ 158 #[.int .u8 f, .agg #[.int .u64 0, .int .u64 0], .bool neg] w (BV (zeroN f neg)) := by
  intro w
  have := shapeWith_any f 0 neg w hf
  rw [Nat.zero_or] at this
  exact this
 go_enter Tryz.func78, Tryz.ntmps78
 exact walk3
def belowN4 (c : Nat) : Bool := decide (c < 4)
theorem lenN_mul (c k : Nat) (h : c ≠ 0) : lenN (c * 2 ^ k) = lenN c + k := by
 have h1 := lenN_ge c h
 have h2 := lenN_lt c
 have h3 := lenN_pos c h
 apply lenN_unique
 ·rw [show lenN c + k - 1 = (lenN c - 1) + k by omega, Nat.pow_add]; exact Nat.mul_le_mul_right _ h1
 ·rw [Nat.pow_add]; exact (Nat.mul_lt_mul_right (two_pos k)).2 h2
 ·omega
theorem below_neg (f b : Nat) (h : ¬ 8 ≤ clsN f b) : belowN4 (clsN f b) = negN f b := by
 unfold belowN4
 rcases cls_cases f b with ⟨_, _, e3⟩ | ⟨_, _, e3⟩ | ⟨_, _, e3⟩ | ⟨_, _, e3⟩ | ⟨_, _, e3⟩
 ·rw [e3]; cases negN f b <;> rfl
 ·exfalso; rw [e3] at h; revert h; cases (b % 2 ^ (pF f - 1)).testBit (pF f - 2) <;> decide
 ·rw [e3]; cases negN f b <;> rfl
 ·rw [e3]; cases negN f b <;> rfl
 ·rw [e3]; cases negN f b <;> rfl
theorem fin_of (f b : Nat) (h8 : ¬ 8 ≤ clsN f b) (h07 : ¬ (clsN f b = 0 ∨ clsN f b = 7)) (h34 : ¬ (clsN f b = 3 ∨ clsN f b = 4)) : Fin0 f b := by
 have := cls_le f b
 unfold Fin0
 omega
theorem sig_zero (f b : Nat) (h : fitsB f b = true) (h8 : ¬ 8 ≤ clsN f b) (h07 : ¬ (clsN f b = 0 ∨ clsN f b = 7)) : sigN f b = 0 ↔ (clsN f b = 3 ∨ clsN f b = 4) := by
 constructor
 ·intro h0
  rcases Nat.lt_or_ge 0 1 with _ | _
  ·by_cases h34 : clsN f b = 3 ∨ clsN f b = 4
   ·exact h34
   ·exact absurd h0 (can_of f b h (fin_of f b h8 h07 h34)).1.pos
  ·omega
 ·rintro (h | h) <;> (unfold sigN; rw [h]; rfl)
theorem infN_mk (f : Nat) (neg : Bool) (hf : f < 4) : infN f neg = mkN f neg (2 * eF f + 1) 0 := by unfold infN mkN; rw [decide_eq_true hf]; rfl
theorem zeroN_mk (f : Nat) (neg : Bool) (hf : f < 4) : zeroN f neg = mkN f neg 0 0 := by unfold zeroN mkN; rw [decide_eq_true hf, Nat.zero_mul]; simp
theorem zero_parts (f : Nat) (neg : Bool) (hf : f < 4) : fitsB f (zeroN f neg) = true ∧ clsN f (zeroN f neg) = cond neg 3 4 := by
 rw [zeroN_mk f neg hf]
 obtain ⟨m1, m2, m3, m4⟩ := mkN_fields f hf neg 0 0 (two_pos _) (by omega)
 refine ⟨m4, ?_⟩
 rcases cls_cases f (mkN f neg 0 0) with ⟨e1, e2, e3⟩ | ⟨e1, e2, e3⟩ | ⟨e1, e2, e3⟩ | ⟨e1, e2, e3⟩ | ⟨e1, e2, e3⟩
 ·omega
 ·omega
 ·rw [e3]; unfold negN; rw [m3]
 ·exact absurd m1 e2
 ·exact absurd m2 e1
theorem zero_of (f b : Nat) (h : fitsB f b = true) (hc : clsN f b = 3 ∨ clsN f b = 4) : zeroN f (negN f b) = b := by
 obtain ⟨hf, hb⟩ := (fits_iff f b).1 h
 rw [zeroN_mk f _ hf]
 have hm := mkN_of f b h
 rcases cls_cases f b with ⟨e1, e2, e3⟩ | ⟨e1, e2, e3⟩ | ⟨e1, e2, e3⟩ | ⟨e1, e2, e3⟩ | ⟨e1, e2, e3⟩
 ·exfalso; rw [e3] at hc; revert hc; cases negN f b <;> decide
 ·exfalso; rw [e3] at hc; revert hc; cases (b % 2 ^ (pF f - 1)).testBit (pF f - 2) <;> decide
 ·rw [e1, e2] at hm; exact hm
 ·exfalso; rw [e3] at hc; revert hc; cases negN f b <;> decide
 ·exfalso; rw [e3] at hc; revert hc; cases negN f b <;> decide
def nanB (c : Nat) : Bool := decide (8 ≤ c)
def infB (c : Nat) : Bool := decide (c = 0) || decide (c = 7)
def zerB (c : Nat) : Bool := decide (c = 3) || decide (c = 4)
def canonR (f c d : Nat) : Nat × Nat := (nanN f, cond (decide (c = 8) || decide (d = 8)) 16 0)
def mulR (f m a b : Nat) : Nat × Nat :=
 if (nanB (clsN f a) || nanB (clsN f b)) = true then canonR f (clsN f a) (clsN f b)
 else if (infB (clsN f a) && zerB (clsN f b) || infB (clsN f b) && zerB (clsN f a)) = true then (nanN f, 16)
 else if (infB (clsN f a) || infB (clsN f b)) = true then (infN f (belowN4 (clsN f a) != belowN4 (clsN f b)), 0)
 else if (zerB (clsN f a) || zerB (clsN f b)) = true then (zeroN f (belowN4 (clsN f a) != belowN4 (clsN f b)), 0)
 else packB f m (belowN4 (clsN f a) != belowN4 (clsN f b)) (sigN f a * sigN f b) (xpN f a + xpN f b) false
def flipN (f a : Nat) : Nat := cond (fitsB f a) (mkN f (!negN f a) (expN f a) (a % 2 ^ (pF f - 1))) 0
theorem enc_neg (f c : Nat) (q : Int) (neg : Bool) : encN f neg c q = encN f false c q + signN f neg := by unfold encN; cases neg <;> simp [signN]
theorem mk_neg (f : Nat) (neg : Bool) (e t : Nat) : mkN f neg e t = mkN f false e t + signN f neg := by unfold mkN; cases neg <;> simp [signN]
theorem of_sign (f a : Nat) (h : fitsB f a = true) (neg : Bool) : mkN f neg (expN f a) (a % 2 ^ (pF f - 1)) = cond (decide (neg = negN f a)) a (flipN f a) := by
 by_cases hn : neg = negN f a
 ·rw [decide_eq_true hn, hn]; exact mkN_of f a h
 ·rw [decide_eq_false hn]
  have : neg = !negN f a := by cases neg <;> cases hh : negN f a <;> simp_all
  unfold flipN; rw [h, this]; rfl
theorem fin_sign (f a : Nat) (h : fitsB f a = true) (hc : Fin0 f a) (neg : Bool) : encN f neg (sigN f a) (xpN f a) = mkN f neg (expN f a) (a % 2 ^ (pF f - 1)) := by
 have h1 := (can_of f a h hc).2
 have h2 := mkN_of f a h
 rw [enc_neg, mk_neg]
 rw [enc_neg] at h1
 unfold negN at h1
 rw [mk_neg] at h2
 omega
theorem cls_sort (f b : Nat) : 8 ≤ clsN f b ∨ (clsN f b = 0 ∨ clsN f b = 7) ∨ (clsN f b = 3 ∨ clsN f b = 4) ∨ Fin0 f b := by
 have := cls_le f b
 unfold Fin0; omega
theorem one_mk (f : Nat) (neg : Bool) (hf : f < 4) : oneN f neg = mkN f neg (eF f) 0 := by unfold oneN mkN; rw [decide_eq_true hf]; rfl
theorem one_parts (f : Nat) (neg : Bool) (hf : f < 4) : fitsB f (oneN f neg) = true ∧ clsN f (oneN f neg) = cond neg 1 6 ∧ sigN f (oneN f neg) = 2 ^ (pF f - 1) ∧ xpN f (oneN f neg) = 1 - (pF f : Int) := by
 rw [one_mk f neg hf]
 obtain ⟨h1, h2, h3, h4, h5, h6, h7, h8⟩ := formK f hf
 obtain ⟨m1, m2, m3, m4⟩ := mkN_fields f hf neg (eF f) 0 (two_pos _) (by omega)
 rcases cls_cases f (mkN f neg (eF f) 0) with ⟨e1, e2, e3⟩ | ⟨e1, e2, e3⟩ | ⟨e1, e2, e3⟩ | ⟨e1, e2, e3⟩ | ⟨e1, e2, e3⟩
 ·omega
 ·omega
 ·omega
 ·omega
 ·have hn : negN f (mkN f neg (eF f) 0) = neg := m3
  rw [hn] at e3
  have c1 : clsN f (mkN f neg (eF f) 0) = 1 ∨ clsN f (mkN f neg (eF f) 0) = 6 := by rw [e3]; cases neg <;> decide
  refine ⟨m4, e3, ?_, ?_⟩
  ·unfold sigN; rw [if_pos c1, m1, Nat.zero_add]
  ·unfold xpN; rw [if_pos c1, m2]; omega
theorem bne_false (b : Bool) : (b != false) = b := by cases b <;> rfl
theorem mul_one (f m a : Nat) (neg : Bool) (hf : f < 4) (h : fitsB f a = true) (h8 : ¬ 8 ≤ clsN f a) : mulR f m a (oneN f neg) = (cond neg (flipN f a) a, 0) := by
 obtain ⟨o1, o2, o3, o4⟩ := one_parts f neg hf
 have ho : belowN4 (clsN f (oneN f neg)) = neg := by rw [o2]; cases neg <;> rfl
 have hon : nanB (clsN f (oneN f neg)) = false ∧ infB (clsN f (oneN f neg)) = false ∧ zerB (clsN f (oneN f neg)) = false := by rw [o2]; cases neg <;> exact ⟨rfl, rfl, rfl⟩
 have hbn := below_neg f a h8
 have hbody : ∀ s : Bool, mkN f s (expN f a) (a % 2 ^ (pF f - 1)) = cond (decide (s = negN f a)) a (flipN f a) := of_sign f a h
 have hpick : mkN f (negN f a != neg) (expN f a) (a % 2 ^ (pF f - 1)) = cond neg (flipN f a) a := by
  rw [hbody]; cases neg <;> cases negN f a <;> rfl
 unfold mulR
 rw [hon.1, hon.2.1, hon.2.2, ho, hbn]
 rcases cls_sort f a with c | c | c | c
 ·exact absurd c h8
 ·have e1 : nanB (clsN f a) = false := by rcases c with c | c <;> rw [c] <;> rfl
  have e2 : infB (clsN f a) = true := by rcases c with c | c <;> rw [c] <;> rfl
  have e3 : zerB (clsN f a) = false := by rcases c with c | c <;> rw [c] <;> rfl
  rw [e1, e2, e3]
  simp only [Bool.or_self, Bool.false_eq_true, if_false, Bool.and_false, Bool.or_false, if_true]
  rw [infN_mk f _ hf]
  have hx : expN f a = 2 * eF f + 1 ∧ a % 2 ^ (pF f - 1) = 0 := by
   rcases cls_cases f a with ⟨e1, e2, e3⟩ | ⟨e1, e2, e3⟩ | ⟨e1, e2, e3⟩ | ⟨e1, e2, e3⟩ | ⟨e1, e2, e3⟩
   ·exact ⟨e1, e2⟩
   ·exfalso; rw [e3] at c; revert c; cases (a % 2 ^ (pF f - 1)).testBit (pF f - 2) <;> decide
   ·exfalso; rw [e3] at c; revert c; cases negN f a <;> decide
   ·exfalso; rw [e3] at c; revert c; cases negN f a <;> decide
   ·exfalso; rw [e3] at c; revert c; cases negN f a <;> decide
  rw [← hpick, hx.1, hx.2]
 ·have e1 : nanB (clsN f a) = false := by rcases c with c | c <;> rw [c] <;> rfl
  have e2 : infB (clsN f a) = false := by rcases c with c | c <;> rw [c] <;> rfl
  have e3 : zerB (clsN f a) = true := by rcases c with c | c <;> rw [c] <;> rfl
  rw [e1, e2, e3]
  simp only [Bool.or_self, Bool.false_eq_true, if_false, Bool.and_true, Bool.or_false, Bool.and_self, if_true]
  rw [zeroN_mk f _ hf]
  have hx : expN f a = 0 ∧ a % 2 ^ (pF f - 1) = 0 := by
   rcases cls_cases f a with ⟨e1, e2, e3⟩ | ⟨e1, e2, e3⟩ | ⟨e1, e2, e3⟩ | ⟨e1, e2, e3⟩ | ⟨e1, e2, e3⟩
   ·exfalso; rw [e3] at c; revert c; cases negN f a <;> decide
   ·exfalso; rw [e3] at c; revert c; cases (a % 2 ^ (pF f - 1)).testBit (pF f - 2) <;> decide
   ·exact ⟨e1, e2⟩
   ·exfalso; rw [e3] at c; revert c; cases negN f a <;> decide
   ·exfalso; rw [e3] at c; revert c; cases negN f a <;> decide
  rw [← hpick, hx.1, hx.2]
 ·have e1 : nanB (clsN f a) = false := by rcases c with c | c | c | c <;> rw [c] <;> rfl
  have e2 : infB (clsN f a) = false := by rcases c with c | c | c | c <;> rw [c] <;> rfl
  have e3 : zerB (clsN f a) = false := by rcases c with c | c | c | c <;> rw [c] <;> rfl
  rw [e1, e2, e3]
  simp only [Bool.or_self, Bool.false_eq_true, if_false, Bool.and_self]
  obtain ⟨hc, -⟩ := can_of f a h c
  rw [o3, o4]
  have h7 := (formK f hf).2.2.2.2.2.2.1
  rw [pack_exact f m (sigN f a) _ (xpN f a) _ _ hf hc (Or.inl ⟨by omega, by rw [show (xpN f a - (xpN f a + (1 - (pF f : Int)))).toNat = pF f - 1 by omega]⟩)]
  rw [fin_sign f a h c, hpick]
theorem int_eq_false (c k : Nat) (h : c ≠ k) : (((c : Nat) : Int) == ((k : Nat) : Int)) = false := by rw [beq_eq_false_iff_ne]; omega
theorem int_eq_dec (c k : Nat) : (((c : Nat) : Int) == ((k : Nat) : Int)) = decide (c = k) := by rw [Bool.eq_iff_iff, beq_iff_eq, decide_eq_true_iff]; omega
theorem int_eq_true (c k : Nat) (h : c = k) : (((c : Nat) : Int) == ((k : Nat) : Int)) = true := by rw [h, beq_self_eq_true]
theorem fma_nan (c s f : Nat) (x : Int) (w : World) :
  CR_ 114 #[PV c s x f] w (.bool (nanB c)) := by
 have H := Own.start w
 go_enter Tryz.func114, Tryz.ntmps114
 exact walk1
theorem fma_below (c s f : Nat) (x : Int) (w : World) :
  CR_ 111 #[PV c s x f] w (.bool (belowN4 c)) := by
 have H := Own.start w
 go_enter Tryz.func111, Tryz.ntmps111
 exact walk1
theorem fma_inf_t (c s f : Nat) (x : Int) (w : World) (hc : c = 0) :
  CR_ 113 #[PV c s x f] w (.bool (infB c)) := by
 have H := Own.start w
 have e1 : ((c : Int) == 0) = true := int_eq_true c 0 hc
 have HR := Lib.hid (show true = infB c by rw [hc]; rfl)
 clear hc
 go_enter Tryz.func113, Tryz.ntmps113
 exact walk1
theorem fma_inf_f (c s f : Nat) (x : Int) (w : World) (hc : c ≠ 0) :
  CR_ 113 #[PV c s x f] w (.bool (infB c)) := by
 have H := Own.start w
 have e1 : ((c : Int) == 0) = false := int_eq_false c 0 hc
 have HR := Lib.hid (show ∀ b : Bool, b = decide (c = 7) → b = infB c by intro b hb; unfold infB; rw [decide_eq_false hc]; exact hb)
 clear hc
 go_enter Tryz.func113, Tryz.ntmps113
 exact walk1
theorem fma_inf (c s f : Nat) (x : Int) (w : World) :
  CR_ 113 #[PV c s x f] w (.bool (infB c)) := by
 by_cases hc : c = 0
 ·exact fma_inf_t c s f x w hc
 ·exact fma_inf_f c s f x w hc
theorem fma_nought_t (c s f : Nat) (x : Int) (w : World) (hc : c = 3) :
  CR_ 112 #[PV c s x f] w (.bool (zerB c)) := by
 have H := Own.start w
 have e1 : ((c : Int) == 3) = true := int_eq_true c 3 hc
 have HR := Lib.hid (show true = zerB c by rw [hc]; rfl)
 clear hc
 go_enter Tryz.func112, Tryz.ntmps112
 exact walk1
theorem fma_nought_f (c s f : Nat) (x : Int) (w : World) (hc : c ≠ 3) :
  CR_ 112 #[PV c s x f] w (.bool (zerB c)) := by
 have H := Own.start w
 have e1 : ((c : Int) == 3) = false := int_eq_false c 3 hc
 have HR := Lib.hid (show ∀ b : Bool, b = decide (c = 4) → b = zerB c by intro b hb; unfold zerB; rw [decide_eq_false hc]; exact hb)
 clear hc
 go_enter Tryz.func112, Tryz.ntmps112
 exact walk1
theorem fma_nought (c s f : Nat) (x : Int) (w : World) :
  CR_ 112 #[PV c s x f] w (.bool (zerB c)) := by
 by_cases hc : c = 3
 ·exact fma_nought_t c s f x w hc
 ·exact fma_nought_f c s f x w hc
theorem set_limbsR (a b : Nat) : setRow (limbs a) 0 (limbs b).toList = limbs b := set_all _ _ rfl
theorem run_index_r (a k : Nat) (hk : k < 6) (w : World) : (Instr.index 60 (.agg (limbs a)) (.int .i64 (k : Int))).run Tryz.prog w = .ok (.int .u64 (limb a k)) w := run_index_wide w a k hk
theorem set_w0 (b : Nat) : setRow (limbs 0) 0 (#[.int .u64 (limb b 0)] : Array Value).toList = limbs (limbN b 0) := by
 have h := limbs_put 0 (limbN b 0) 0 (by decide) (by decide) (limbN_lt b 0)
 rw [Nat.zero_add, Nat.mul_zero, Nat.pow_zero, Nat.mul_one] at h
 exact h
theorem set_w1 (b : Nat) : setRow (limbs (limbN b 0)) 1 (#[.int .u64 (limb b 1)] : Array Value).toList = limbs (b % 2 ^ (64 * 2)) := by
 have h := limbs_put (limbN b 0) (limbN b 1) 1 (by decide) (by rw [Nat.mul_one, ← B64]; exact limbN_lt b 0) (limbN_lt b 1)
 rw [mod_low b 1, mod_low b 0, Nat.mul_zero, Nat.pow_zero, Nat.mod_one, Nat.zero_add, Nat.mul_one]
 exact h
theorem ofBits_ret (b : Nat) (hb : b < 2 ^ (64 * 2)) : W (b % 2 ^ (64 * 2)) = W b := by rw [Nat.mod_eq_of_lt hb]
theorem shr_test (x i : Nat) (hx : x < 18446744073709551616) (hi : i < 64) : (Go.bits .and .u64 (((x / 2 ^ i : Nat) : Int)) 1 == 1) = x.testBit i := by
 have hd : x / 2 ^ i < 18446744073709551616 := Nat.lt_of_le_of_lt (Nat.div_le_self _ _) hx
 have := u64_and_nat (x / 2 ^ i) 1 hd (by decide)
 rw [show ((1 : Nat) : Int) = 1 from rfl] at this
 rw [this, Nat.and_one_is_mod, Nat.testBit_eq_decide_div_mod_eq, Bool.eq_iff_iff, beq_iff_eq, decide_eq_true_iff]
 omega
theorem r1Bit_any (x i : Nat) (w : World) (hx : x < 18446744073709551616) (hi : i < 64) :
  CR_ 139 #[.int .u64 x, .int .i64 i] w (.bool (x.testBit i)) := by
 have H := Own.start w
 have e1 : (0 : Int) ≤ (i : Int) := by omega
 have e2 : (i : Int) < 64 := by omega
 have e3 : IntKind.u64.wrap (i : Int) = (i : Int) := by rw [IntKind.wrap_u64]; omega
 have e4 : min (i : Int).toNat 64 = i := by omega
 have HR := Lib.hid (shr_test x i hx hi)
 clear hx hi
 go_enter Tryz.func139, Tryz.ntmps139
 exact walk1
theorem r2Count_lo (x : Int) (w : World) (hx : x < 0) :
  CR_ 216 #[.int .i64 x] w (.int .i64 0) := by
 have H := Own.start w
 go_enter Tryz.func216, Tryz.ntmps216
 exact walk1
theorem r2Count_hi (x : Int) (w : World) (hx : 384 < x) :
  CR_ 216 #[.int .i64 x] w (.int .i64 384) := by
 have H := Own.start w
 go_enter Tryz.func216, Tryz.ntmps216
 exact walk1
theorem r2Count_in (x : Int) (w : World) (hx : 0 ≤ x) (hy : x ≤ 384) :
  CR_ 216 #[.int .i64 x] w (.int .i64 x) := by
 have H := Own.start w
 go_enter Tryz.func216, Tryz.ntmps216
 exact walk1
theorem r2Count_any (x : Int) (w : World) : CR_ 216 #[.int .i64 x] w (.int .i64 (clip x : Nat)) := by
 rcases Int.lt_or_le x 0 with h | h
 ·rw [show ((clip x : Nat) : Int) = 0 by unfold clip; omega]; exact r2Count_lo x w h
 ·rcases Int.lt_or_le 384 x with h2 | h2
  ·rw [show ((clip x : Nat) : Int) = 384 by unfold clip; omega]; exact r2Count_hi x w h2
  ·rw [show ((clip x : Nat) : Int) = x by unfold clip; omega]; exact r2Count_in x w h h2
theorem r2OfBits_any (b : Nat) (w : World) (hb : b < 2 ^ (64 * 2)) :
  CR_ 126 #[BV b] w (W b) := by
 have H := Own.start w
 have HR := Lib.hid (ofBits_ret b hb)
 clear hb
 go_enter Tryz.func126, Tryz.ntmps126
 exact walk1
theorem r2Bit_any (a i : Nat) (w : World) (hi : i < 384) :
  CR_ 192 #[W a, .int .i64 i] w (.bool (a.testBit i)) := by
 have H := Own.start w
 obtain ⟨q, hq⟩ : ∃ q : Nat, i / 64 = q := ⟨_, rfl⟩
 obtain ⟨r, hr⟩ : ∃ r : Nat, i % 64 = r := ⟨_, rfl⟩
 have h6 : q < 6 := by omega
 have h64 : r < 64 := by omega
 have e1 : (0 : Int) ≤ (i : Int) := by omega
 have e2 : (i : Int) < 384 := by omega
 have t1 : IntKind.i64.wrap ((i : Int).tdiv 64) = (q : Int) := by rw [Int.tdiv_eq_ediv_of_nonneg (by omega), show (i : Int) / 64 = (q : Int) by omega]; exact IntWalk.i64_in _ (by omega)
 have t2 : (i : Int).tmod 64 = (r : Int) := by rw [Int.tmod_eq_emod_of_nonneg (by omega)]; omega
 have t3 : (i : Int) / 64 = (q : Int) := by omega
 have t4 : (i : Int) % 64 = (r : Int) := by omega
 have cB := fun w => r1Bit_any (limbN a q) r w (limbN_lt a q) h64
 have hl : ((limbN a q : Nat) : Int) = limb a q := rfl
 rw [hl] at cB
 have HR := Lib.hid (show (limbN a q).testBit r = a.testBit i by rw [← hq, ← hr]; exact limb_bit a i)
 have ix := run_index_r a q h6
 have G : (limbs a)[q]? = some (.int .u64 (limb a q)) := limbs_get a q h6
 clear hq hr hi hl
 go_enter Tryz.func192, Tryz.ntmps192
 exact walk4
theorem set_fill_and (a b k : Nat) : setRow (fillTo (limbs a) (fun i => .int .u64 (limb (a &&& b) i)) k) k (#[.int .u64 (Go.bits .and .u64 (limb a k) (limb b k))] : Array Value).toList = fillTo (limbs a) (fun i => .int .u64 (limb (a &&& b) i)) (k + 1) := by
 rw [limb_and]; rfl
theorem r2Mask_any (x : Int) (w0 : World) :
  CR_ 194 #[.int .i64 x] w0 (W (2 ^ clip x - 1)) := by
 have H := Own.start w0
 have cC := fun w => r2Count_any x w
 obtain ⟨n, hn⟩ : ∃ n, clip x = n := ⟨_, rfl⟩
 have hn4 : n ≤ 384 := by unfold clip at hn; omega
 rw [hn] at cC ⊢
 clear hn
 go_enter Tryz.func194, Tryz.ntmps194
 go_wp2_with (first
  | ((with_reducible show wpList _ _ _ (⟨some 3, .alloc 60, _, _, _, _⟩ :: _) _ _); refine H.xa ?_; (intro gb w H; simp only [Act.put, q1_, q2_, q3_]))
  | ((with_reducible refine g12_ rfl rfl ?_); refine H.xa ?_; (intro gr w H; simp only [Act.put, q1_, q2_, q3_]))
  | ((with_reducible refine g0_ rfl ?_); refine H.xb ?_; (intro g w H; simp only [Act.put, q1_, q2_, q3_]))
  | ((with_reducible refine g1_ rfl ?_); refine H.xa ?_; (intro g w H; simp only [Act.put, q1_, q2_, q3_]))
  | ((with_reducible refine g2_ rfl ?_); (first | refine H.xl ?_ | refine H.xm ?_); simp only [Act.put, q1_, q2_, q3_])
  | ((with_reducible refine g3_ rfl ?_); (first | refine H.xs ?_ | refine H.xt ?_); (intro w H; simp only [Act.put]))
  | (go_at_call 216; (with_reducible refine H.kc (cC _) ?_; clear H; intro w H))
  )
 go_loopw [4] (fun i wr => ∃ (k : Nat), k ≤ n ∧ i = .int .i64 k ∧ Own w0 wr [(gb, 60, limbs (2 ^ k - 1)), (gr, 60, limbs 0)]) (fun i _ => n - (intOf i).toNat)
 case atStart => exact ⟨0, by omega, rfl, H⟩
 case round =>
  clear H
  obtain ⟨k, hk, rfl, H⟩ := hrel
  by_cases hlt : k < n
  ·have hd : decide ((k : Int) < (n : Int)) = true := by simp; omega
   have h1 := Lib.hid (mask_step k).1
   have h2 := Lib.hid (mask_step k).2
   obtain ⟨qi, hqi⟩ : ∃ qi : Nat, (k : Int) / 64 = qi := ⟨k / 64, by omega⟩
   obtain ⟨sh, hsh⟩ : ∃ sh : Nat, (k : Int) % 64 = sh := ⟨k % 64, by omega⟩
   have HM := Lib.hid (show k = 64 * qi + sh by omega)
   have hs64 : sh < 64 := by omega
   have hq6 : qi < 6 := by omega
   have hq6i : (qi : Int) < 6 := by omega
   have t1 : IntKind.i64.wrap ((k : Int).tdiv 64) = (qi : Int) := by rw [Int.tdiv_eq_ediv_of_nonneg (by omega), hqi]; exact IntWalk.i64_in _ (by omega)
   have t2 : (k : Int).tmod 64 = (sh : Int) := by rw [Int.tmod_eq_emod_of_nonneg (by omega), hsh]
   have t3 : IntKind.u64.wrap (sh : Int) = (sh : Int) := by rw [IntKind.wrap_u64]; omega
   have t4 : min sh 64 = sh := by omega
   obtain ⟨V, hV⟩ : ∃ V, 2 ^ k - 1 = V := ⟨_, rfl⟩
   rw [hV] at H h1 h2
   have G : (limbs V)[qi]? = some (.int .u64 (limb V qi)) := limbs_get V qi hq6
   clear hV cC
   go_wp2_with (first
  | ((with_reducible show wpList _ _ _ (⟨some 3, .alloc 60, _, _, _, _⟩ :: _) _ _); refine H.xa ?_; (intro gb w H; simp only [Act.put, q1_, q2_, q3_]))
  | ((with_reducible refine g12_ rfl rfl ?_); refine H.xa ?_; (intro gr w H; simp only [Act.put, q1_, q2_, q3_]))
  | ((with_reducible refine g7_ rfl ?_); refine H.xm ?_ (hv := by first | with_reducible exact G); simp only [Act.put, q1_, q2_, q3_])
  | ((with_reducible refine g8_ rfl ?_); refine H.xt ?_ (hv := set_bit_at _ k _ _ h2.out HM.out hs64 hq6); (intro w H; simp only [Act.put]))
  | ((with_reducible refine g0_ rfl ?_); refine H.xb ?_; (intro g w H; simp only [Act.put, q1_, q2_, q3_]))
  | ((with_reducible refine g1_ rfl ?_); refine H.xa ?_; (intro g w H; simp only [Act.put, q1_, q2_, q3_]))
  | ((with_reducible refine g2_ rfl ?_); (first | refine H.xl ?_ | refine H.xm ?_); simp only [Act.put, q1_, q2_, q3_])
  | ((with_reducible refine g3_ rfl ?_); (first | refine H.xs ?_ | refine H.xt ?_); (intro w H; simp only [Act.put]))
  | (go_at_call 216; (with_reducible refine H.kc (cC _) ?_; clear H; intro w H))
  )
   all_goals
    go_roundw
    case rel => exact ⟨k + 1, by omega, by go_num, by rw [h1.out]; exact H⟩
    case measure => simp [intOf] <;> omega
  ·obtain rfl : k = n := by omega
   have hd : decide ((k : Int) < (k : Int)) = false := by simp
   clear hlt hk cC
   go_wp2_with (first
  | ((with_reducible show wpList _ _ _ (⟨some 3, .alloc 60, _, _, _, _⟩ :: _) _ _); refine H.xa ?_; (intro gb w H; simp only [Act.put, q1_, q2_, q3_]))
  | ((with_reducible refine g12_ rfl rfl ?_); refine H.xa ?_; (intro gr w H; simp only [Act.put, q1_, q2_, q3_]))
  | ((with_reducible refine g0_ rfl ?_); refine H.xb ?_; (intro g w H; simp only [Act.put, q1_, q2_, q3_]))
  | ((with_reducible refine g1_ rfl ?_); refine H.xa ?_; (intro g w H; simp only [Act.put, q1_, q2_, q3_]))
  | ((with_reducible refine g2_ rfl ?_); (first | refine H.xl ?_ | refine H.xm ?_); simp only [Act.put, q1_, q2_, q3_])
  | ((with_reducible refine g3_ rfl ?_); (first | refine H.xs ?_ | refine H.xt ?_); (intro w H; simp only [Act.put]))
  | (go_at_call 216; (with_reducible refine H.kc (cC _) ?_; clear H; intro w H))
  )
   refine bodyPost_ret (results_c rfl rfl (H.res rW v2_ v4_ (by rfl))) rfl ⟨?_, H.below⟩
   rfl
theorem r2And_any (a b : Nat) (w0 : World) :
  CR_ 193 #[W a, W b] w0 (W (a &&& b)) := by
 have H := Own.start w0
 go_enter Tryz.func193, Tryz.ntmps193
 go_wp2_with (first
  | ((with_reducible refine g6_ rfl rfl ?_); refine H.xb ?_; (intro ga w H; simp only [Act.put, q1_, q2_, q3_]))
  | ((with_reducible refine g10_ rfl rfl ?_); refine H.xb ?_; (intro gb w H; simp only [Act.put, q1_, q2_, q3_]))
  | ((with_reducible refine g4_ rfl rfl ?_); refine H.xa ?_; (intro gr w H; simp only [Act.put, q1_, q2_, q3_]))
  | ((with_reducible refine g0_ rfl ?_); refine H.xb ?_; (intro g w H; simp only [Act.put, q1_, q2_, q3_]))
  | ((with_reducible refine g1_ rfl ?_); refine H.xa ?_; (intro g w H; simp only [Act.put, q1_, q2_, q3_]))
  | ((with_reducible refine g2_ rfl ?_); (first | refine H.xl ?_ | refine H.xm ?_); simp only [Act.put, q1_, q2_, q3_])
  | ((with_reducible refine g3_ rfl ?_); (first | refine H.xs ?_ | refine H.xt ?_); (intro w H; simp only [Act.put]))
  )
 go_loopw [5] (fun i wr => ∃ (k : Nat), k ≤ 6 ∧ i = .int .i64 k ∧ Own w0 wr [(gr, 60, limbs 0), (gb, 60, limbs b), (ga, 60, fillTo (limbs a) (fun i => .int .u64 (limb (a &&& b) i)) k)]) (fun i _ => 6 - (intOf i).toNat)
 case atStart => exact ⟨0, by omega, rfl, H⟩
 case round =>
  clear H
  obtain ⟨k, hk, rfl, H⟩ := hrel
  by_cases hlt : k < 6
  ·have hd : decide ((k : Int) < 6) = true := by simp; omega
   have G1 : (fillTo (limbs a) (fun i => .int .u64 (limb (a &&& b) i)) k)[k]? = some (.int .u64 (limb a k)) := (fillTo_hi _ _ _ _ (Nat.le_refl _)).trans (limbs_get a k hlt)
   have G2 : (limbs b)[k]? = some (.int .u64 (limb b k)) := limbs_get b k hlt
   have hlti : (k : Int) < 6 := by omega
   go_wp2_with (first
  | ((with_reducible refine g6_ rfl rfl ?_); refine H.xb ?_; (intro ga w H; simp only [Act.put, q1_, q2_, q3_]))
  | ((with_reducible refine g10_ rfl rfl ?_); refine H.xb ?_; (intro gb w H; simp only [Act.put, q1_, q2_, q3_]))
  | ((with_reducible refine g4_ rfl rfl ?_); refine H.xa ?_; (intro gr w H; simp only [Act.put, q1_, q2_, q3_]))
  | ((with_reducible refine g7_ rfl ?_); refine H.xm ?_ (hv := by first | with_reducible exact G1 | with_reducible exact G2); simp only [Act.put, q1_, q2_, q3_])
  | ((with_reducible refine g8_ rfl ?_); refine H.xt ?_ (hv := set_fill_and _ _ _); (intro w H; simp only [Act.put]))
  | ((with_reducible refine g0_ rfl ?_); refine H.xb ?_; (intro g w H; simp only [Act.put, q1_, q2_, q3_]))
  | ((with_reducible refine g1_ rfl ?_); refine H.xa ?_; (intro g w H; simp only [Act.put, q1_, q2_, q3_]))
  | ((with_reducible refine g2_ rfl ?_); (first | refine H.xl ?_ | refine H.xm ?_); simp only [Act.put, q1_, q2_, q3_])
  | ((with_reducible refine g3_ rfl ?_); (first | refine H.xs ?_ | refine H.xt ?_); (intro w H; simp only [Act.put]))
  | ((with_reducible show Code.wp _ (.region 4 _ true) _ _ _); refine H.heldSub rfl (List.Sublist.cons_cons _ (List.Sublist.cons_cons _ (List.Sublist.cons _ (List.Sublist.refl _)))) ?_; intro H; refine H.zr 0 ?_; (try simp only [Act.put, q1_, q2_, q3_]); (try simp only [q4_, q5_, q6_]); refine H.zr 1 ?_; (try simp only [Act.put, q1_, q2_, q3_]); (try simp only [q4_, q5_, q6_]); refine H.zr 2 ?_; (try simp only [Act.put, q1_, q2_, q3_]); (try simp only [q4_, q5_, q6_]); refine H.zr 4 ?_; (try simp only [Act.put, q1_, q2_, q3_]); (try simp only [q4_, q5_, q6_]); refine H.zr 5 ?_; (try simp only [Act.put, q1_, q2_, q3_]); (try simp only [q4_, q5_, q6_]); (first | refine H.zm 6 ?_ (hv := by first | with_reducible exact G1 | with_reducible exact G2) | refine H.zl 6 ?_ | refine H.zm 6 ?_); (try simp only [Act.put, q1_, q2_, q3_]); (try simp only [q4_, q5_, q6_]); refine held1 3 ?_; (first | refine H.ym ?_ (hv := by first | with_reducible exact G1 | with_reducible exact G2) | refine H.yl ?_ | refine H.ym ?_); refine H.nx ?_; (try simp only [Act.put, q1_, q2_, q3_]); (try simp only [q4_, q5_, q6_]); refine H.zr 7 ?_; (try simp only [Act.put, q1_, q2_, q3_]); (try simp only [q4_, q5_, q6_]); refine H.zr 8 ?_; (try simp only [Act.put, q1_, q2_, q3_]); (try simp only [q4_, q5_, q6_]); refine held1 9 ?_; (first | refine H.yt ?_ (hv := set_fill_and _ _ _) | refine H.ys ?_ | refine H.yt ?_); intro w H; refine H.nx ?_; (try simp only [Act.put]); refine wpAnyH_done (by kernel_rfl) ?_ _)
  )
   all_goals
    go_roundw
    case rel => exact ⟨k + 1, by omega, by go_num, H⟩
    case measure => simp [intOf] <;> omega
  ·obtain rfl : k = 6 := by omega
   rw [fillTo_all (limbs a) _ (a &&& b) (limbs_size a) (fun _ _ => rfl)] at H
   clear hlt hk
   go_wp2_with (first
  | ((with_reducible refine g6_ rfl rfl ?_); refine H.xb ?_; (intro ga w H; simp only [Act.put, q1_, q2_, q3_]))
  | ((with_reducible refine g10_ rfl rfl ?_); refine H.xb ?_; (intro gb w H; simp only [Act.put, q1_, q2_, q3_]))
  | ((with_reducible refine g4_ rfl rfl ?_); refine H.xa ?_; (intro gr w H; simp only [Act.put, q1_, q2_, q3_]))
  | ((with_reducible refine g0_ rfl ?_); refine H.xb ?_; (intro g w H; simp only [Act.put, q1_, q2_, q3_]))
  | ((with_reducible refine g1_ rfl ?_); refine H.xa ?_; (intro g w H; simp only [Act.put, q1_, q2_, q3_]))
  | ((with_reducible refine g2_ rfl ?_); (first | refine H.xl ?_ | refine H.xm ?_); simp only [Act.put, q1_, q2_, q3_])
  | ((with_reducible refine g3_ rfl ?_); (first | refine H.xs ?_ | refine H.xt ?_); (intro w H; simp only [Act.put]))
  )
   refine bodyPost_ret (results_c rfl rfl (H.res rW v2_ v4_ (by rfl))) rfl ⟨?_, H.below⟩
   rfl
theorem r2Right_any (a : Nat) (x : Int) (w0 : World) (ha : a < top6) :
  CR_ 195 #[W a, .int .i64 x] w0 (.tuple #[W (a / 2 ^ clip x), .bool (lostR a (clip x))]) := by
 have H := Own.start w0
 have cC := fun w => r2Count_any x w
 obtain ⟨n, hn⟩ : ∃ n, clip x = n := ⟨_, rfl⟩
 have hn4 : n ≤ 384 := by unfold clip at hn; omega
 rw [hn] at cC ⊢
 clear hn
 have HA := Lib.hid ha
 clear ha
 go_enter Tryz.func195, Tryz.ntmps195
 go_wp2_with (first
  | ((with_reducible refine g6_ rfl rfl ?_); refine H.xb ?_; (intro ga w H; simp only [Act.put, q1_, q2_, q3_]))
  | ((with_reducible refine g4_ rfl rfl ?_); refine H.xa ?_; (intro gr w H; simp only [Act.put, q1_, q2_, q3_]))
  | ((with_reducible refine g9_ rfl rfl ?_); refine H.xa ?_; (intro gb w H; simp only [Act.put, q1_, q2_, q3_]))
  | ((with_reducible refine g0_ rfl ?_); refine H.xb ?_; (intro g w H; simp only [Act.put, q1_, q2_, q3_]))
  | ((with_reducible refine g1_ rfl ?_); refine H.xa ?_; (intro g w H; simp only [Act.put, q1_, q2_, q3_]))
  | ((with_reducible refine g2_ rfl ?_); (first | refine H.xl ?_ | refine H.xm ?_); simp only [Act.put, q1_, q2_, q3_])
  | ((with_reducible refine g3_ rfl ?_); (first | refine H.xs ?_ | refine H.xt ?_); (intro w H; simp only [Act.put]))
  | (go_at_call 216; (with_reducible refine H.kc (cC _) ?_; clear H; intro w H))
  | (go_at_call 192; (with_reducible refine H.kc (cB _) ?_; clear H; intro w H))
  )
 go_loopw [7, 8] (fun l i wr => ∃ (k : Nat), k ≤ 384 ∧ i = .int .i64 k ∧ l = .bool (lostRi a n k) ∧ Own w0 wr [(gb, 60, limbs (a % 2 ^ k / 2 ^ n)), (gr, 60, limbs 0), (ga, 60, limbs a)]) (fun _ i _ => 384 - (intOf i).toNat)
 case atStart => exact ⟨0, by omega, rfl, by rw [lostRi_zero], by rw [Nat.pow_zero, Nat.mod_one, Nat.zero_div]; exact H⟩
 case round =>
  clear H
  obtain ⟨k, hk, rfl, rfl, H⟩ := hrel
  by_cases hlt : k < 384
  ·have hd : decide ((k : Int) < 384) = true := by simp; omega
   have hlti : (k : Int) < 384 := by omega
   have cB := fun w => r2Bit_any a k w hlt
   cases hb : a.testBit k
   ·rw [hb] at cB
    have h1 := Lib.hid (lostRi_f a n k hb)
    have h2 := Lib.hid (bit_f a k hb)
    clear hb cC
    go_wp2_with (first
  | ((with_reducible refine g6_ rfl rfl ?_); refine H.xb ?_; (intro ga w H; simp only [Act.put, q1_, q2_, q3_]))
  | ((with_reducible refine g4_ rfl rfl ?_); refine H.xa ?_; (intro gr w H; simp only [Act.put, q1_, q2_, q3_]))
  | ((with_reducible refine g9_ rfl rfl ?_); refine H.xa ?_; (intro gb w H; simp only [Act.put, q1_, q2_, q3_]))
  | ((with_reducible refine g0_ rfl ?_); refine H.xb ?_; (intro g w H; simp only [Act.put, q1_, q2_, q3_]))
  | ((with_reducible refine g1_ rfl ?_); refine H.xa ?_; (intro g w H; simp only [Act.put, q1_, q2_, q3_]))
  | ((with_reducible refine g2_ rfl ?_); (first | refine H.xl ?_ | refine H.xm ?_); simp only [Act.put, q1_, q2_, q3_])
  | ((with_reducible refine g3_ rfl ?_); (first | refine H.xs ?_ | refine H.xt ?_); (intro w H; simp only [Act.put]))
  | (go_at_call 216; (with_reducible refine H.kc (cC _) ?_; clear H; intro w H))
  | (go_at_call 192; (with_reducible refine H.kc (cB _) ?_; clear H; intro w H))
  )
    all_goals
     go_roundw
     case rel => exact ⟨k + 1, by omega, by go_num, by rw [h1.out], by rw [h2.out]; exact H⟩
     case measure => simp [intOf] <;> omega
   ·rw [hb] at cB
    by_cases hnk : n ≤ k
    ·have h1 := Lib.hid (lostRi_ge a n k hnk)
     have h2 := Lib.hid (right_t a n k hb hnk).1
     have h3 := Lib.hid (right_t a n k hb hnk).2
     obtain ⟨j, hj⟩ : ∃ j, k - n = j := ⟨_, rfl⟩
     have e0 : (k : Int) - (n : Int) = (j : Int) := by omega
     have e1 : IntKind.i64.wrap ((k : Int) - (n : Int)) = (j : Int) := by rw [e0]; exact IntWalk.i64_in _ (by omega)
     have hge : (n : Int) ≤ (k : Int) := by omega
     have hdg : decide ((n : Int) ≤ (k : Int)) = true := by simp; omega
     obtain ⟨qi, hqi⟩ : ∃ qi : Nat, (j : Int) / 64 = qi := ⟨j / 64, by omega⟩
     obtain ⟨sh, hsh⟩ : ∃ sh : Nat, (j : Int) % 64 = sh := ⟨j % 64, by omega⟩
     have HM := Lib.hid (show j = 64 * qi + sh by omega)
     have hs64 : sh < 64 := by omega
     have hq6 : qi < 6 := by omega
     have hq6i : (qi : Int) < 6 := by omega
     have t1 : IntKind.i64.wrap ((j : Int).tdiv 64) = (qi : Int) := by rw [Int.tdiv_eq_ediv_of_nonneg (by omega), hqi]; exact IntWalk.i64_in _ (by omega)
     have t2 : (j : Int).tmod 64 = (sh : Int) := by rw [Int.tmod_eq_emod_of_nonneg (by omega), hsh]
     have t3 : IntKind.u64.wrap (sh : Int) = (sh : Int) := by rw [IntKind.wrap_u64]; omega
     have t4 : min sh 64 = sh := by omega
     rw [hj] at h2 h3
     obtain ⟨V, hV⟩ : ∃ V, a % 2 ^ k / 2 ^ n = V := ⟨_, rfl⟩
     rw [hV] at H h2 h3
     have G : (limbs V)[qi]? = some (.int .u64 (limb V qi)) := limbs_get V qi hq6
     clear hV cC hb hj hnk
     go_wp2_with (first
  | ((with_reducible refine g6_ rfl rfl ?_); refine H.xb ?_; (intro ga w H; simp only [Act.put, q1_, q2_, q3_]))
  | ((with_reducible refine g4_ rfl rfl ?_); refine H.xa ?_; (intro gr w H; simp only [Act.put, q1_, q2_, q3_]))
  | ((with_reducible refine g9_ rfl rfl ?_); refine H.xa ?_; (intro gb w H; simp only [Act.put, q1_, q2_, q3_]))
  | ((with_reducible refine g7_ rfl ?_); refine H.xm ?_ (hv := by first | with_reducible exact G); simp only [Act.put, q1_, q2_, q3_])
  | ((with_reducible refine g8_ rfl ?_); refine H.xt ?_ (hv := set_bit_at _ _ _ _ h3.out HM.out hs64 hq6); (intro w H; simp only [Act.put]))
  | ((with_reducible refine g0_ rfl ?_); refine H.xb ?_; (intro g w H; simp only [Act.put, q1_, q2_, q3_]))
  | ((with_reducible refine g1_ rfl ?_); refine H.xa ?_; (intro g w H; simp only [Act.put, q1_, q2_, q3_]))
  | ((with_reducible refine g2_ rfl ?_); (first | refine H.xl ?_ | refine H.xm ?_); simp only [Act.put, q1_, q2_, q3_])
  | ((with_reducible refine g3_ rfl ?_); (first | refine H.xs ?_ | refine H.xt ?_); (intro w H; simp only [Act.put]))
  | (go_at_call 216; (with_reducible refine H.kc (cC _) ?_; clear H; intro w H))
  | (go_at_call 192; (with_reducible refine H.kc (cB _) ?_; clear H; intro w H))
  )
     all_goals
      go_roundw
      case rel => exact ⟨k + 1, by omega, by go_num, by rw [h1.out], by rw [h2.out]; exact H⟩
      case measure => simp [intOf] <;> omega
    ·have h1 := Lib.hid (lostRi_t a n k hb (by omega))
     have h2 := Lib.hid (show a % 2 ^ (k + 1) / 2 ^ n = a % 2 ^ k / 2 ^ n by rw [right_lo a n (k + 1) (by omega), right_lo a n k (by omega)])
     have hge : (k : Int) < (n : Int) := by omega
     have hdg : decide ((n : Int) ≤ (k : Int)) = false := by simp; omega
     clear cC hb hnk
     go_wp2_with (first
  | ((with_reducible refine g6_ rfl rfl ?_); refine H.xb ?_; (intro ga w H; simp only [Act.put, q1_, q2_, q3_]))
  | ((with_reducible refine g4_ rfl rfl ?_); refine H.xa ?_; (intro gr w H; simp only [Act.put, q1_, q2_, q3_]))
  | ((with_reducible refine g9_ rfl rfl ?_); refine H.xa ?_; (intro gb w H; simp only [Act.put, q1_, q2_, q3_]))
  | ((with_reducible refine g0_ rfl ?_); refine H.xb ?_; (intro g w H; simp only [Act.put, q1_, q2_, q3_]))
  | ((with_reducible refine g1_ rfl ?_); refine H.xa ?_; (intro g w H; simp only [Act.put, q1_, q2_, q3_]))
  | ((with_reducible refine g2_ rfl ?_); (first | refine H.xl ?_ | refine H.xm ?_); simp only [Act.put, q1_, q2_, q3_])
  | ((with_reducible refine g3_ rfl ?_); (first | refine H.xs ?_ | refine H.xt ?_); (intro w H; simp only [Act.put]))
  | (go_at_call 216; (with_reducible refine H.kc (cC _) ?_; clear H; intro w H))
  | (go_at_call 192; (with_reducible refine H.kc (cB _) ?_; clear H; intro w H))
  )
     all_goals
      go_roundw
      case rel => exact ⟨k + 1, by omega, by go_num, by rw [h1.out], by rw [h2.out]; exact H⟩
      case measure => simp [intOf] <;> omega
  ·have hk384 : k = 384 := by omega
   rw [mod_384 a k hk384 HA.out] at H
   have h1 := Lib.hid (show lostRi a n k = lostR a n by rw [lostRi_all a n k (by omega)]; exact low_any a n HA.out hn4)
   generalize lostRi a n k = l at *
   subst hk384
   clear cC hlt hk
   go_wp2_with (first
  | ((with_reducible refine g6_ rfl rfl ?_); refine H.xb ?_; (intro ga w H; simp only [Act.put, q1_, q2_, q3_]))
  | ((with_reducible refine g4_ rfl rfl ?_); refine H.xa ?_; (intro gr w H; simp only [Act.put, q1_, q2_, q3_]))
  | ((with_reducible refine g9_ rfl rfl ?_); refine H.xa ?_; (intro gb w H; simp only [Act.put, q1_, q2_, q3_]))
  | ((with_reducible refine g0_ rfl ?_); refine H.xb ?_; (intro g w H; simp only [Act.put, q1_, q2_, q3_]))
  | ((with_reducible refine g1_ rfl ?_); refine H.xa ?_; (intro g w H; simp only [Act.put, q1_, q2_, q3_]))
  | ((with_reducible refine g2_ rfl ?_); (first | refine H.xl ?_ | refine H.xm ?_); simp only [Act.put, q1_, q2_, q3_])
  | ((with_reducible refine g3_ rfl ?_); (first | refine H.xs ?_ | refine H.xt ?_); (intro w H; simp only [Act.put]))
  | (go_at_call 216; (with_reducible refine H.kc (cC _) ?_; clear H; intro w H))
  | (go_at_call 192; (with_reducible refine H.kc (cB _) ?_; clear H; intro w H))
  )
   refine bodyPost_ret (results_ct rfl rfl (H.res rW v2_ (ext_limbs _) (by rfl))) rfl ⟨?_, H.below⟩
   rw [h1.out]; rfl
theorem r7Width_0 (w : World) :
  CR_ 127 #[.int .u8 0] w (.int .i64 32) := by
 have H := Own.start w
 go_enter Tryz.func127, Tryz.ntmps127
 exact walk1
theorem r7Width_1 (w : World) :
  CR_ 127 #[.int .u8 1] w (.int .i64 64) := by
 have H := Own.start w
 go_enter Tryz.func127, Tryz.ntmps127
 exact walk1
theorem r7Width_2 (w : World) :
  CR_ 127 #[.int .u8 2] w (.int .i64 16) := by
 have H := Own.start w
 go_enter Tryz.func127, Tryz.ntmps127
 exact walk1
theorem r7Width_3 (w : World) :
  CR_ 127 #[.int .u8 3] w (.int .i64 128) := by
 have H := Own.start w
 go_enter Tryz.func127, Tryz.ntmps127
 exact walk1
theorem r7Width_o (f : Nat) (w : World) (h2 : ((f : Int) == 2) = false) (h0 : ((f : Int) == 0) = false) (h1 : ((f : Int) == 1) = false) (h3 : ((f : Int) == 3) = false) :
  CR_ 127 #[.int .u8 f] w (.int .i64 0) := by
 have H := Own.start w
 go_enter Tryz.func127, Tryz.ntmps127
 exact walk1
theorem r7Width_any (f : Nat) (w : World) : CR_ 127 #[.int .u8 f] w (.int .i64 (wF f : Nat)) := by
 rcases forms f with rfl | rfl | rfl | rfl | h
 ·exact r7Width_0 w
 ·exact r7Width_1 w
 ·exact r7Width_2 w
 ·exact r7Width_3 w
 ·have := r7Width_o f w (int_eq_false f 2 (by omega)) (int_eq_false f 0 (by omega)) (int_eq_false f 1 (by omega)) (int_eq_false f 3 (by omega))
  rw [show wF f = 0 by have := wF_big f h; simp [this]]
  exact this
theorem r7Precision_0 (w : World) :
  CR_ 166 #[.int .u8 0] w (.int .i64 24) := by
 have H := Own.start w
 go_enter Tryz.func166, Tryz.ntmps166
 exact walk1
theorem r7Precision_1 (w : World) :
  CR_ 166 #[.int .u8 1] w (.int .i64 53) := by
 have H := Own.start w
 go_enter Tryz.func166, Tryz.ntmps166
 exact walk1
theorem r7Precision_2 (w : World) :
  CR_ 166 #[.int .u8 2] w (.int .i64 11) := by
 have H := Own.start w
 go_enter Tryz.func166, Tryz.ntmps166
 exact walk1
theorem r7Precision_3 (w : World) :
  CR_ 166 #[.int .u8 3] w (.int .i64 113) := by
 have H := Own.start w
 go_enter Tryz.func166, Tryz.ntmps166
 exact walk1
theorem r7Precision_o (f : Nat) (w : World) (h2 : ((f : Int) == 2) = false) (h0 : ((f : Int) == 0) = false) (h1 : ((f : Int) == 1) = false) (h3 : ((f : Int) == 3) = false) :
  CR_ 166 #[.int .u8 f] w (.int .i64 0) := by
 have H := Own.start w
 go_enter Tryz.func166, Tryz.ntmps166
 exact walk1
theorem r7Precision_any (f : Nat) (w : World) : CR_ 166 #[.int .u8 f] w (.int .i64 (pF f : Nat)) := by
 rcases forms f with rfl | rfl | rfl | rfl | h
 ·exact r7Precision_0 w
 ·exact r7Precision_1 w
 ·exact r7Precision_2 w
 ·exact r7Precision_3 w
 ·have := r7Precision_o f w (int_eq_false f 2 (by omega)) (int_eq_false f 0 (by omega)) (int_eq_false f 1 (by omega)) (int_eq_false f 3 (by omega))
  rw [show pF f = 0 by have := wF_big f h; simp [this]]
  exact this
theorem r7Emax_0 (w : World) :
  CR_ 178 #[.int .u8 0] w (.int .i64 127) := by
 have H := Own.start w
 go_enter Tryz.func178, Tryz.ntmps178
 exact walk1
theorem r7Emax_1 (w : World) :
  CR_ 178 #[.int .u8 1] w (.int .i64 1023) := by
 have H := Own.start w
 go_enter Tryz.func178, Tryz.ntmps178
 exact walk1
theorem r7Emax_2 (w : World) :
  CR_ 178 #[.int .u8 2] w (.int .i64 15) := by
 have H := Own.start w
 go_enter Tryz.func178, Tryz.ntmps178
 exact walk1
theorem r7Emax_3 (w : World) :
  CR_ 178 #[.int .u8 3] w (.int .i64 16383) := by
 have H := Own.start w
 go_enter Tryz.func178, Tryz.ntmps178
 exact walk1
theorem r7Emax_o (f : Nat) (w : World) (h2 : ((f : Int) == 2) = false) (h0 : ((f : Int) == 0) = false) (h1 : ((f : Int) == 1) = false) (h3 : ((f : Int) == 3) = false) :
  CR_ 178 #[.int .u8 f] w (.int .i64 0) := by
 have H := Own.start w
 go_enter Tryz.func178, Tryz.ntmps178
 exact walk1
theorem r7Emax_any (f : Nat) (w : World) : CR_ 178 #[.int .u8 f] w (.int .i64 (eF f : Nat)) := by
 rcases forms f with rfl | rfl | rfl | rfl | h
 ·exact r7Emax_0 w
 ·exact r7Emax_1 w
 ·exact r7Emax_2 w
 ·exact r7Emax_3 w
 ·have := r7Emax_o f w (int_eq_false f 2 (by omega)) (int_eq_false f 0 (by omega)) (int_eq_false f 1 (by omega)) (int_eq_false f 3 (by omega))
  rw [show eF f = 0 by have := wF_big f h; simp [this]]
  exact this
theorem r7Ones_any (f : Nat) (w : World) :
  CR_ 168 #[.int .u8 f] w (.int .i64 (2 * eF f + 1 : Nat)) := by
 have H := Own.start w
 have he := eF_le f
 have HR := Lib.hid (show (2 * (eF f : Int) + 1) = ((2 * eF f + 1 : Nat) : Int) by omega)
 go_enter Tryz.func168, Tryz.ntmps168
 exact walk4
theorem r7Right_any (f : Nat) (w : World) :
  CR_ 62 #[.int .u8 f] w (.bool (decide (f < 4))) := by
 have H := Own.start w
 go_enter Tryz.func62, Tryz.ntmps62
 exact walk1
theorem r7RightMode_any (f : Nat) (w : World) :
  CR_ 49 #[.int .u8 f] w (.bool (decide (f < 5))) := by
 have H := Own.start w
 go_enter Tryz.func49, Tryz.ntmps49
 exact walk1
theorem r7Emin_t (f : Nat) (w : World) (hf : f < 4) :
  CR_ 210 #[.int .u8 f] w (.int .i64 (1 - (eF f : Nat))) := by
 have H := Own.start w
 have he := eF_le f
 have cR := fun w => r7Right_any f w
 rw [decide_eq_true hf] at cR
 clear hf
 go_enter Tryz.func210, Tryz.ntmps210
 exact walk4
theorem r7Emin_f (f : Nat) (w : World) (hf : ¬ f < 4) :
  CR_ 210 #[.int .u8 f] w (.int .i64 (0)) := by
 have H := Own.start w
 have he := eF_le f
 have cR := fun w => r7Right_any f w
 rw [decide_eq_false hf] at cR
 clear hf
 go_enter Tryz.func210, Tryz.ntmps210
 exact walk4
theorem r7Emin_any (f : Nat) (w : World) : CR_ 210 #[.int .u8 f] w (.int .i64 (eminI f)) := by
 unfold eminI
 by_cases hf : f < 4
 ·rw [decide_eq_true hf]; exact r7Emin_t f w hf
 ·rw [decide_eq_false hf]; exact r7Emin_f f w hf
theorem results_ttc {P : Program} {w : World} {fn : Func} {tmps : Array Value} {s t u : Tmp} {T : TypeId} (h : fn.results = #[.tmp s, .tmp u, .cell t T]) {A : Addr} (ha : tmps.getD t undef = .pointer (some A)) {v : Value} (hr : (loadVar T A).run P w = .ok v w) :
  (results fn tmps).run P w = .ok (.tuple #[tmps.getD s undef, tmps.getD u undef, v]) w := by
 rw [Array.getD_eq_getD_getElem?] at ha
 simp [results, h, ha, asAddr, hr]
theorem exp_ones (y d : Nat) (hd : d ≤ 15) : Go.bits .and .i64 (IntKind.i64.wrap (limb y 0)) ((2 ^ d - 1 : Nat) : Int) = ((y % 2 ^ d : Nat) : Int) := by
 have h := field_exp y d hd
 have y1 : 2 ^ d ≤ 2 ^ 15 := Nat.pow_le_pow_right (by decide) hd
 have e : IntKind.i64.wrap (IntKind.i64.wrap ((2 : Int) ^ d) - 1) = ((2 ^ d - 1 : Nat) : Int) := by
  have y0 := Nat.two_pow_pos d
  rw [show (2 : Int) ^ d = ((2 ^ d : Nat) : Int) by simp, IntKind.wrap_i64, IntKind.wrap_i64]
  generalize 2 ^ d = y at *
  omega
 rw [e] at h; exact h
set_option maxHeartbeats 6400000 in
theorem r7Fields_w (f b q r p n o y m t : Nat) (tb lo : Bool) (w : World) (hq : IntKind.i64.wrap ((p : Int) - 1) = (q : Int)) (hr : IntKind.i64.wrap ((n : Int) - 1) = (r : Int)) (cF : CK_ 126 #[BV b] (W b)) (cW : CK_ 127 #[.int .u8 f] (.int .i64 (n : Nat))) (cP : CK_ 166 #[.int .u8 f] (.int .i64 (p : Nat))) (cB : CK_ 192 #[W b, .int .i64 (r : Nat)] (.bool tb)) (cM : CK_ 194 #[.int .i64 (q : Nat)] (W m)) (cA : CK_ 193 #[W b, W m] (W t)) (cR : CK_ 195 #[W b, .int .i64 (q : Nat)] (.tuple #[W y, .bool lo])) (cO : CK_ 168 #[.int .u8 f] (.int .i64 (o : Nat))) :
  CR_ 128 #[.int .u8 f, BV b] w (.tuple #[.bool tb, .int .i64 (Go.bits .and .i64 (IntKind.i64.wrap (limb y 0)) (o : Nat)), W t]) := by
 have H := Own.start w
 go_enter Tryz.func128, Tryz.ntmps128
 exact walk2
theorem r7Fields_any (f b : Nat) (w : World) (hf : f < 4) (hb : b < 2 ^ (64 * 2)) :
  CR_ 128 #[.int .u8 f, BV b] w (.tuple #[.bool (negN f b), .int .i64 (expN f b : Nat), W (b % 2 ^ (pF f - 1))]) := by
 obtain ⟨p1, p2, n1, n2, np1, np2⟩ := formB f hf
 obtain ⟨-, -, k3, k4, k5, -, -⟩ := formK f hf
 have cW := fun w => r7Width_any f w
 have cP := fun w => r7Precision_any f w
 have cO := fun w => r7Ones_any f w
 have hbt := lt_top_bits b hb
 have e1 := exp_ones (b / 2 ^ (pF f - 1)) (wF f - pF f) (by omega)
 rw [k3, show 2 * eF f + 2 - 1 = 2 * eF f + 1 by omega] at e1
 have cM := fun w => r2Mask_any ((pF f - 1 : Nat) : Int) w
 have cA := fun w => r2And_any b (2 ^ (pF f - 1) - 1) w
 have cR := fun w => r2Right_any b ((pF f - 1 : Nat) : Int) w hbt
 rw [clip_of _ (by omega)] at cM cR
 rw [Nat.and_two_pow_sub_one_eq_mod] at cA
 have h := r7Fields_w f b (pF f - 1) (wF f - 1) (pF f) (wF f) (2 * eF f + 1) _ _ _ _ _ w
  (by rw [show (pF f : Int) - 1 = ((pF f - 1 : Nat) : Int) by omega]; exact IntWalk.i64_in _ (by omega))
  (by rw [show (wF f : Int) - 1 = ((wF f - 1 : Nat) : Int) by omega]; exact IntWalk.i64_in _ (by omega))
  (fun w => r2OfBits_any b w hb) cW cP (fun w => r2Bit_any b (wF f - 1) w (by omega)) cM cA cR cO
 rw [e1, ← k3] at h
 exact h
theorem r8Class_nan_true (f b e0 o t p2 p : Nat) (neg qb : Bool) (w : World) (cF : CK_ 128 #[.int .u8 f, BV b] (.tuple #[.bool neg, .int .i64 (e0 : Nat), W t])) (cO : CK_ 168 #[.int .u8 f] (.int .i64 (o : Nat))) (eq1 : ∀ w, (Op.equalIn 10000 60 (.agg (limbs t)) (.agg #[.int .u64 0, .int .u64 0, .int .u64 0, .int .u64 0, .int .u64 0, .int .u64 0])).run Tryz.prog w = .ok false w) (hx : ((e0 : Int) == (o : Int)) = true) (hp : IntKind.i64.wrap ((p : Int) - 2) = (p2 : Int)) (cP : CK_ 166 #[.int .u8 f] (.int .i64 (p : Nat))) (cB : CK_ 192 #[W t, .int .i64 (p2 : Nat)] (.bool true))  :
  CR_ 129 #[.int .u8 f, BV b] w (.int .u8 9) := by
 have H := Own.start w
 go_enter Tryz.func129, Tryz.ntmps129
 exact walk4
theorem r8Class_nan_false (f b e0 o t p2 p : Nat) (neg qb : Bool) (w : World) (cF : CK_ 128 #[.int .u8 f, BV b] (.tuple #[.bool neg, .int .i64 (e0 : Nat), W t])) (cO : CK_ 168 #[.int .u8 f] (.int .i64 (o : Nat))) (eq1 : ∀ w, (Op.equalIn 10000 60 (.agg (limbs t)) (.agg #[.int .u64 0, .int .u64 0, .int .u64 0, .int .u64 0, .int .u64 0, .int .u64 0])).run Tryz.prog w = .ok false w) (hx : ((e0 : Int) == (o : Int)) = true) (hp : IntKind.i64.wrap ((p : Int) - 2) = (p2 : Int)) (cP : CK_ 166 #[.int .u8 f] (.int .i64 (p : Nat))) (cB : CK_ 192 #[W t, .int .i64 (p2 : Nat)] (.bool false))  :
  CR_ 129 #[.int .u8 f, BV b] w (.int .u8 8) := by
 have H := Own.start w
 go_enter Tryz.func129, Tryz.ntmps129
 exact walk4
theorem r8Class_inf_true (f b e0 o t p2 p : Nat) (neg qb : Bool) (w : World) (cF : CK_ 128 #[.int .u8 f, BV b] (.tuple #[.bool true, .int .i64 (e0 : Nat), W t])) (cO : CK_ 168 #[.int .u8 f] (.int .i64 (o : Nat))) (eq1 : ∀ w, (Op.equalIn 10000 60 (.agg (limbs t)) (.agg #[.int .u64 0, .int .u64 0, .int .u64 0, .int .u64 0, .int .u64 0, .int .u64 0])).run Tryz.prog w = .ok true w) (hx : ((e0 : Int) == (o : Int)) = true)  :
  CR_ 129 #[.int .u8 f, BV b] w (.int .u8 0) := by
 have H := Own.start w
 go_enter Tryz.func129, Tryz.ntmps129
 exact walk4
theorem r8Class_nor_true (f b e0 o t p2 p : Nat) (neg qb : Bool) (w : World) (cF : CK_ 128 #[.int .u8 f, BV b] (.tuple #[.bool true, .int .i64 (e0 : Nat), W t])) (cO : CK_ 168 #[.int .u8 f] (.int .i64 (o : Nat))) (hx : ((e0 : Int) == (o : Int)) = false) (hy : ((e0 : Int) != 0) = true)  :
  CR_ 129 #[.int .u8 f, BV b] w (.int .u8 1) := by
 have H := Own.start w
 go_enter Tryz.func129, Tryz.ntmps129
 exact walk4
theorem r8Class_sub_true (f b e0 o t p2 p : Nat) (neg qb : Bool) (w : World) (cF : CK_ 128 #[.int .u8 f, BV b] (.tuple #[.bool true, .int .i64 (e0 : Nat), W t])) (cO : CK_ 168 #[.int .u8 f] (.int .i64 (o : Nat))) (hx : ((e0 : Int) == (o : Int)) = false) (hy : ((e0 : Int) != 0) = false) (eq1 : ∀ w, (Op.equalIn 10000 60 (.agg (limbs t)) (.agg #[.int .u64 0, .int .u64 0, .int .u64 0, .int .u64 0, .int .u64 0, .int .u64 0])).run Tryz.prog w = .ok false w)  :
  CR_ 129 #[.int .u8 f, BV b] w (.int .u8 2) := by
 have H := Own.start w
 go_enter Tryz.func129, Tryz.ntmps129
 exact walk4
theorem r8Class_zer_true (f b e0 o t p2 p : Nat) (neg qb : Bool) (w : World) (cF : CK_ 128 #[.int .u8 f, BV b] (.tuple #[.bool true, .int .i64 (e0 : Nat), W t])) (cO : CK_ 168 #[.int .u8 f] (.int .i64 (o : Nat))) (hx : ((e0 : Int) == (o : Int)) = false) (hy : ((e0 : Int) != 0) = false) (eq1 : ∀ w, (Op.equalIn 10000 60 (.agg (limbs t)) (.agg #[.int .u64 0, .int .u64 0, .int .u64 0, .int .u64 0, .int .u64 0, .int .u64 0])).run Tryz.prog w = .ok true w)  :
  CR_ 129 #[.int .u8 f, BV b] w (.int .u8 3) := by
 have H := Own.start w
 go_enter Tryz.func129, Tryz.ntmps129
 exact walk4
theorem r8Class_inf_false (f b e0 o t p2 p : Nat) (neg qb : Bool) (w : World) (cF : CK_ 128 #[.int .u8 f, BV b] (.tuple #[.bool false, .int .i64 (e0 : Nat), W t])) (cO : CK_ 168 #[.int .u8 f] (.int .i64 (o : Nat))) (eq1 : ∀ w, (Op.equalIn 10000 60 (.agg (limbs t)) (.agg #[.int .u64 0, .int .u64 0, .int .u64 0, .int .u64 0, .int .u64 0, .int .u64 0])).run Tryz.prog w = .ok true w) (hx : ((e0 : Int) == (o : Int)) = true)  :
  CR_ 129 #[.int .u8 f, BV b] w (.int .u8 7) := by
 have H := Own.start w
 go_enter Tryz.func129, Tryz.ntmps129
 exact walk4
theorem r8Class_nor_false (f b e0 o t p2 p : Nat) (neg qb : Bool) (w : World) (cF : CK_ 128 #[.int .u8 f, BV b] (.tuple #[.bool false, .int .i64 (e0 : Nat), W t])) (cO : CK_ 168 #[.int .u8 f] (.int .i64 (o : Nat))) (hx : ((e0 : Int) == (o : Int)) = false) (hy : ((e0 : Int) != 0) = true)  :
  CR_ 129 #[.int .u8 f, BV b] w (.int .u8 6) := by
 have H := Own.start w
 go_enter Tryz.func129, Tryz.ntmps129
 exact walk4
theorem r8Class_sub_false (f b e0 o t p2 p : Nat) (neg qb : Bool) (w : World) (cF : CK_ 128 #[.int .u8 f, BV b] (.tuple #[.bool false, .int .i64 (e0 : Nat), W t])) (cO : CK_ 168 #[.int .u8 f] (.int .i64 (o : Nat))) (hx : ((e0 : Int) == (o : Int)) = false) (hy : ((e0 : Int) != 0) = false) (eq1 : ∀ w, (Op.equalIn 10000 60 (.agg (limbs t)) (.agg #[.int .u64 0, .int .u64 0, .int .u64 0, .int .u64 0, .int .u64 0, .int .u64 0])).run Tryz.prog w = .ok false w)  :
  CR_ 129 #[.int .u8 f, BV b] w (.int .u8 5) := by
 have H := Own.start w
 go_enter Tryz.func129, Tryz.ntmps129
 exact walk4
theorem r8Class_zer_false (f b e0 o t p2 p : Nat) (neg qb : Bool) (w : World) (cF : CK_ 128 #[.int .u8 f, BV b] (.tuple #[.bool false, .int .i64 (e0 : Nat), W t])) (cO : CK_ 168 #[.int .u8 f] (.int .i64 (o : Nat))) (hx : ((e0 : Int) == (o : Int)) = false) (hy : ((e0 : Int) != 0) = false) (eq1 : ∀ w, (Op.equalIn 10000 60 (.agg (limbs t)) (.agg #[.int .u64 0, .int .u64 0, .int .u64 0, .int .u64 0, .int .u64 0, .int .u64 0])).run Tryz.prog w = .ok true w)  :
  CR_ 129 #[.int .u8 f, BV b] w (.int .u8 4) := by
 have H := Own.start w
 go_enter Tryz.func129, Tryz.ntmps129
 exact walk4
theorem r8Class_any (f b : Nat) (w : World) (hf : f < 4) (hb : b < 2 ^ (64 * 2)) :
  CR_ 129 #[.int .u8 f, BV b] w (.int .u8 (clsN f b : Nat)) := by
 have cF := fun w => r7Fields_any f b w hf hb
 have cO := fun w => r7Ones_any f w
 have cP := fun w => r7Precision_any f w
 obtain ⟨p1, p2, -, -, -, -⟩ := formB f hf
 have ht : b % 2 ^ (pF f - 1) < top6 := Nat.lt_of_le_of_lt (Nat.mod_le _ _) (lt_top_bits b hb)
 have eq1 : ∀ w, (Op.equalIn 10000 60 (.agg (limbs (b % 2 ^ (pF f - 1)))) (.agg #[.int .u64 0, .int .u64 0, .int .u64 0, .int .u64 0, .int .u64 0, .int .u64 0])).run Tryz.prog w = .ok (decide (b % 2 ^ (pF f - 1) = 0)) w := fun w => run_equal_zero w _ ht
 unfold clsN
 unfold negN at cF
 generalize b % 2 ^ (pF f - 1) = t at *
 generalize expN f b = e at *
 generalize b.testBit (wF f - 1) = neg at *
 generalize eF f = m at *
 have cB := fun w => r2Bit_any t (pF f - 2) w (by omega)
 have hp : IntKind.i64.wrap ((pF f : Int) - 2) = ((pF f - 2 : Nat) : Int) := by rw [show (pF f : Int) - 2 = ((pF f - 2 : Nat) : Int) by omega]; exact IntWalk.i64_in _ (by omega)
 generalize pF f = p at *
 by_cases hx : e = 2 * m + 1
 ·have hxb : ((e : Int) == ((2 * m + 1 : Nat) : Int)) = true := int_eq_true _ _ hx
  rw [if_pos hx]
  by_cases hz : t = 0
  ·rw [decide_eq_true hz] at eq1
   rw [if_pos hz]
   cases neg
   ·exact r8Class_inf_false f b e _ t 0 0 false false w cF cO eq1 hxb
   ·exact r8Class_inf_true f b e _ t 0 0 false false w cF cO eq1 hxb
  ·rw [decide_eq_false hz] at eq1
   rw [if_neg hz]
   cases hq : t.testBit (p - 2) <;> rw [hq] at cB
   ·exact r8Class_nan_false f b e _ t (p - 2) p neg false w cF cO eq1 hxb hp cP cB
   ·exact r8Class_nan_true f b e _ t (p - 2) p neg false w cF cO eq1 hxb hp cP cB
 ·have hxb : ((e : Int) == ((2 * m + 1 : Nat) : Int)) = false := int_eq_false _ _ hx
  rw [if_neg hx]
  by_cases hy : e = 0
  ·have hyb : ((e : Int) != 0) = false := by rw [hy]; rfl
   rw [if_pos hy]
   by_cases hz : t = 0
   ·rw [decide_eq_true hz] at eq1
    rw [if_pos hz]
    cases neg
    ·exact r8Class_zer_false f b e _ t 0 0 false false w cF cO hxb hyb eq1
    ·exact r8Class_zer_true f b e _ t 0 0 false false w cF cO hxb hyb eq1
   ·rw [decide_eq_false hz] at eq1
    rw [if_neg hz]
    cases neg
    ·exact r8Class_sub_false f b e _ t 0 0 false false w cF cO hxb hyb eq1
    ·exact r8Class_sub_true f b e _ t 0 0 false false w cF cO hxb hyb eq1
  ·have hyb : ((e : Int) != 0) = true := by have := int_eq_false e 0 hy; rw [bne]; rw [show (0 : Int) = ((0 : Nat) : Int) from rfl, this]; rfl
   rw [if_neg hy]
   cases neg
   ·exact r8Class_nor_false f b e _ t 0 0 false false w cF cO hxb hyb
   ·exact r8Class_nor_true f b e _ t 0 0 false false w cF cO hxb hyb
theorem r8IsInf_t (f b c : Nat) (w : World) (hc : c = 0) (cC : CK_ 129 #[.int .u8 f, BV b] (.int .u8 (c : Nat)))  :
  CR_ 53 #[.int .u8 f, BV b] w (.bool (infB c)) := by
 have H := Own.start w
 have e1 : ((c : Int) == 0) = true := int_eq_true c 0 hc
 have HR := Lib.hid (show true = infB c by rw [hc]; rfl)
 clear hc
 go_enter Tryz.func53, Tryz.ntmps53
 exact walk4
theorem r8IsInf_f (f b c : Nat) (w : World) (hc : c ≠ 0) (cC : CK_ 129 #[.int .u8 f, BV b] (.int .u8 (c : Nat)))  :
  CR_ 53 #[.int .u8 f, BV b] w (.bool (infB c)) := by
 have H := Own.start w
 have e1 : ((c : Int) == 0) = false := int_eq_false c 0 hc
 have HR := Lib.hid (show ∀ b : Bool, b = decide (c = 7) → b = infB c by intro b hb; unfold infB; rw [decide_eq_false hc]; exact hb)
 clear hc
 go_enter Tryz.func53, Tryz.ntmps53
 exact walk4
theorem r8IsZero_t (f b c : Nat) (w : World) (hc : c = 3) (cC : CK_ 129 #[.int .u8 f, BV b] (.int .u8 (c : Nat)))  :
  CR_ 84 #[.int .u8 f, BV b] w (.bool (zerB c)) := by
 have H := Own.start w
 have e1 : ((c : Int) == 3) = true := int_eq_true c 3 hc
 have HR := Lib.hid (show true = zerB c by rw [hc]; rfl)
 clear hc
 go_enter Tryz.func84, Tryz.ntmps84
 exact walk4
theorem r8IsZero_f (f b c : Nat) (w : World) (hc : c ≠ 3) (cC : CK_ 129 #[.int .u8 f, BV b] (.int .u8 (c : Nat)))  :
  CR_ 84 #[.int .u8 f, BV b] w (.bool (zerB c)) := by
 have H := Own.start w
 have e1 : ((c : Int) == 3) = false := int_eq_false c 3 hc
 have HR := Lib.hid (show ∀ b : Bool, b = decide (c = 4) → b = zerB c by intro b hb; unfold zerB; rw [decide_eq_false hc]; exact hb)
 clear hc
 go_enter Tryz.func84, Tryz.ntmps84
 exact walk4
theorem limbs_mod6 (a : Nat) : limbs (a % 2 ^ (64 * 6)) = limbs a := by
 have := limbs_mod a
 unfold top6 at this
 exact this
theorem put_sum (a b k : Nat) (cb : Bool) (hk : k < 6) (h : cbit a b k = cb) : (limbs ((a + b) % 2 ^ (64 * k))).setIfInBounds k (.int .u64 (addW (limb a k) (limb b k) cb)) = limbs ((a + b) % 2 ^ (64 * (k + 1))) := by
 unfold limb
 rw [addW_nat, limbs_put _ _ k hk (Nat.mod_lt _ (pw_pos k)) (Nat.mod_lt _ (by decide)), sum_step, h]
theorem car_sum (a b k : Nat) (cb : Bool) (h : cbit a b k = cb) : cbit a b (k + 1) = carW (limb a k) (limb b k) cb := by
 unfold limb
 rw [carW_nat, cbit_step, h]
theorem wideAdd_any (a b : Nat) (w : World) :
  CR_ 104 #[W a, W b] w (.tuple #[W (a + b), .bool (cbit a b 6)]) := by
 have sa := limbs_size a
 have sb := limbs_size b
 go_enter Tryz.func104, Tryz.ntmps104
 go_wp2_with fail
 go_loopw [5, 7] (fun c i wr => ∃ (k : Nat) (cb : Bool), k ≤ 6 ∧ i = .int .i64 k ∧ c = .bool cb ∧ Hid (cbit a b k = cb) ∧
   Blk 60 wr w.heap.size (limbs a) ∧ Blk 60 wr (w.heap.size + 1) (limbs b) ∧
   Blk 60 wr (w.heap.size + 1 + 1) (limbs ((a + b) % 2 ^ (64 * k))) ∧ Below w.heap.size w wr) (fun _ i _ => 6 - (intOf i).toNat)
 case atStart =>
  refine ⟨0, false, by omega, rfl, rfl, cbit_zero a b, ((Blk.new w _).alloc _).alloc _, ?_, ?_, ((((Below.refl _ _).alloc (Nat.le_refl _) _).alloc (by simp) _).alloc (by simp <;> omega) _)⟩
  ·have := (Blk.new (T := 60) (w.alloc (.cells (limbs a) 60)) (limbs b)).alloc (.cells #[.int .u64 0, .int .u64 0, .int .u64 0, .int .u64 0, .int .u64 0, .int .u64 0] 60)
   simpa using this
  ·have := Blk.new (T := 60) ((w.alloc (.cells (limbs a) 60)).alloc (.cells (limbs b) 60)) #[.int .u64 0, .int .u64 0, .int .u64 0, .int .u64 0, .int .u64 0, .int .u64 0]
   rw [show (a + b) % 2 ^ (64 * 0) = 0 from Nat.mod_one _, limbs_zero]
   simpa using this
 case round =>
  obtain ⟨k, cb, hk, rfl, rfl, hc, ha, hb, hs, hbel⟩ := hrel
  by_cases hlt : k < 6
  ·have ca := ha.cell k (limbs_get a k hlt)
   have cb' := hb.cell k (limbs_get b k hlt)
   have cs := hs.cell k (limbs_get _ k hlt)
   have fs := hs.free k
   go_wp2_with fail
   go_region_with (go_at_call 181; refine (wordAdd_any _ _ _ _ (limb_w a k) (limb_w b k)).mono ?_; rintro e w' ⟨rfl, rfl⟩)
   all_goals go_wp2
   all_goals
    go_roundw
    case rel => exact ⟨k + 1, _, by omega, by go_num, rfl, car_sum a b k cb hc.out, (ha.other _ _ (by simp; omega)).drew, (hb.other _ _ (by simp)).drew, (hs.set k _ (put_sum a b k cb (by omega) hc.out)).drew, (hbel.setCell (by simp; omega) _).drew⟩
    case measure => simp [intOf]; omega
  ·have : k = 6 := by omega
   subst this
   rw [limbs_mod6] at hs
   have c0 := hs.cell 0 (limbs_get _ 0 (by decide))
   have c1 := hs.cell 1 (limbs_get _ 1 (by decide))
   have c2 := hs.cell 2 (limbs_get _ 2 (by decide))
   have c3 := hs.cell 3 (limbs_get _ 3 (by decide))
   have c4 := hs.cell 4 (limbs_get _ 4 (by decide))
   have c5 := hs.cell 5 (limbs_get _ 5 (by decide))
   have f0 := hs.free 0
   have f1 := hs.free 1
   have f2 := hs.free 2
   have f3 := hs.free 3
   have f4 := hs.free 4
   have f5 := hs.free 5
   clear ha hb hlt
   go_wp2_with fail
   rw [hs.keep 0 _ (limbs_get _ 0 (by decide)), hs.keep 1 _ (limbs_get _ 1 (by decide)), hs.keep 2 _ (limbs_get _ 2 (by decide)), hs.keep 3 _ (limbs_get _ 3 (by decide)), hs.keep 4 _ (limbs_get _ 4 (by decide)), hs.keep 5 _ (limbs_get _ 5 (by decide))]
   refine bodyPost_ret (v := .tuple #[W (a + b), .bool cb]) (by simp [results, Tryz.results104, go_sem, c0, c1, c2, c3, c4, c5, limbs]) rfl ⟨by rw [hc.out], hbel⟩
end Go.Proofs.YtgmhmpflmgfcdaaGreatDoor
