/- Results that lie in memory; cells of values, parts of rows. -/
import Derived.Test.YtjgonofkklpgaaaDoorMem
namespace Go.Proofs.YtjgonofkklpgaaaDoor
open Go.RowKit

section
variable {P : Program} {w0 w : World} {L : List Bk} {op : Oper} {a : Act} {K : Act → World → Prop} {Q : Exit → Act → World → Prop}
/-! The rules at one operation. -/
theorem Own.op_box (H : Own w0 w L) {T : TypeId} {x : Operand} (ho : op.op = .box T x) {cs : Array Value} (hx : (a.eval x).cells = cs)
    (h : ∀ g w', Own w0 w' ((g, T, cs) :: L) → K (a.put op.dst (.pointer (some ⟨g, 0, none⟩))) w') : op.wp P a w K Q := by
  subst hx
  have hk := h _ _ (H.alloc T (a.eval x).cells)
  unfold Oper.wp execOp
  simp only [ho]
  exact hk
theorem Own.op_alloc (H : Own w0 w L) {T : TypeId} (ho : op.op = .alloc T) {z : Value} (hz : (P.info? T).bind (·.zero) = some z) {cs : Array Value} (hx : z.cells = cs)
    (h : ∀ g w', Own w0 w' ((g, T, cs) :: L) → K (a.put op.dst (.pointer (some ⟨g, 0, none⟩))) w') : op.wp P a w K Q := by
  subst hx
  have hk := h _ _ (H.alloc T z.cells)
  unfold Oper.wp execOp
  simp only [ho, Instr.alloc, Sem.run_bind, run_zeroValue hz, Result.andThen_ok]
  exact hk
theorem Own.op_load (H : Own w0 w L) {ty : TypeId} {x : Operand} (ho : op.op = .load ty x) {g o : Nat} (hx : a.eval x = .pointer (some ⟨g, o, none⟩))
    (i : Nat) {T : TypeId} {cs : Array Value} (hi : L[i]? = some (g, T, cs)) {d : TypeDesc} (hu : P.underlying ty = some d) (hd : d.isRow = true) {v : Array Value} (hv : cs.extract o (o + v.size) = v)
    (hs : (P.info? ty).map (·.size) = some v.size) (h : K (a.put op.dst (.agg v)) w) : op.wp P a w K Q :=
  wp_load_mid (P := P) ty x ho g o hx v.toList d (H.range i hi o _ hv) hu hd (by simpa using hs) (by simpa using h)
theorem Own.op_load1 (H : Own w0 w L) {ty : TypeId} {x : Operand} (ho : op.op = .load ty x) {g o : Nat} (hx : a.eval x = .pointer (some ⟨g, o, none⟩))
    (i : Nat) {T : TypeId} {cs : Array Value} (hi : L[i]? = some (g, T, cs)) {d : TypeDesc} (hu : P.underlying ty = some d) (hd : d.isRow = false) {v : Value}
    (hv : cs[o]? = some v) (h : K (a.put op.dst v) w) : op.wp P a w K Q := by
  unfold Oper.wp execOp
  simp only [ho, hx, Instr.loadAt, Instr.sureAddr, Sem.run_bind, Sem.run_pure, Result.andThen_ok, run_loadVar_one hu hd _ ((H.at i hi).cell o hv)]
  exact h
theorem Own.op_store (H : Own w0 w L) {ty : TypeId} {x y : Operand} (ho : op.op = .store ty x y) {g o : Nat} (hx : a.eval x = .pointer (some ⟨g, o, none⟩))
    {vs : Array Value} (hy : (a.eval y).cells = vs)
    (i : Nat) {T : TypeId} {cs : Array Value} (hi : L[i]? = some (g, T, cs)) {cs' : Array Value} (hv : setRow cs o vs.toList = cs') (hs : (P.info? ty).map (·.size) = some vs.size) (h1 : vs.all (·.oneCell') = true) (hn : o + vs.size ≤ cs.size)
    (h : ∀ w', Own w0 w' (L.set i (g, T, cs')) → K (a.put op.dst undef) w') : op.wp P a w K Q := by
  have hk := h _ (H.set i hi o vs.toList hv)
  have ht := H.there i hi o vs.size hn
  have := run_storeCells_cells (P := P) g o vs.toList 0 w (fun j hj => by simpa using (ht j (by simpa using hj)).1) (fun j hj => by simpa using (ht j (by simpa using hj)).2)
    (fun v hv => (Array.all_eq_true_iff_forall_mem.1 h1) v (by simpa using hv))
  simp only [Nat.add_zero] at this
  have hst : (storeVar ty ⟨g, o, none⟩ (a.eval y)).run P w = .ok () (w.setCells g o vs.toList) := by
    cases hq : P.info? ty with
    | none => simp [hq] at hs
    | some inf =>
      have hs' : vs.size = inf.size := by simp [hq] at hs; omega
      simp [storeVar, sizeOf, typeInfo, hq, hy, hs', this]
  unfold Oper.wp execOp
  simp only [ho, hx, Instr.storeAt, Instr.sureAddr, Sem.run_bind, Sem.run_pure, Result.andThen_ok, hst]
  exact hk
variable {ops : Array Oper} {rest : List Oper}
/-- An operation of a list, whose guard says yes. -/
theorem wp_wanted (hw : Region.wanted op (yielded ops a.tmps) = true) (h : ∀ K : Act → World → Prop, (∀ a w, wpList P ops Q rest a w → K a w) → op.wp P a w K Q) : wpList P ops Q (op :: rest) a w :=
  wpList_step fun K hK => by rw [if_pos hw]; exact h K hK
theorem Own.box (H : Own w0 w L) (hw : Region.wanted op (yielded ops a.tmps) = true) {T : TypeId} {x : Operand} (ho : op.op = .box T x) {cs : Array Value} (hx : (a.eval x).cells = cs)
    (h : ∀ g w', Own w0 w' ((g, T, cs) :: L) → wpList P ops Q rest (a.put op.dst (.pointer (some ⟨g, 0, none⟩))) w') : wpList P ops Q (op :: rest) a w :=
  wp_wanted hw fun _ hK => H.op_box ho hx fun g w' hh => hK _ _ (h g w' hh)
theorem Own.new (H : Own w0 w L) (hw : Region.wanted op (yielded ops a.tmps) = true) {T : TypeId} (ho : op.op = .alloc T) {z : Value} (hz : (P.info? T).bind (·.zero) = some z) {cs : Array Value} (hx : z.cells = cs)
    (h : ∀ g w', Own w0 w' ((g, T, cs) :: L) → wpList P ops Q rest (a.put op.dst (.pointer (some ⟨g, 0, none⟩))) w') : wpList P ops Q (op :: rest) a w :=
  wp_wanted hw fun _ hK => H.op_alloc ho hz hx fun g w' hh => hK _ _ (h g w' hh)
theorem Own.load (H : Own w0 w L) (hw : Region.wanted op (yielded ops a.tmps) = true) {ty : TypeId} {x : Operand} (ho : op.op = .load ty x) {g o : Nat} (hx : a.eval x = .pointer (some ⟨g, o, none⟩))
    (i : Nat) {T : TypeId} {cs : Array Value} (hi : L[i]? = some (g, T, cs)) {d : TypeDesc} (hu : P.underlying ty = some d) (hd : d.isRow = true) {v : Array Value} (hv : cs.extract o (o + v.size) = v)
    (hs : (P.info? ty).map (·.size) = some v.size) (h : wpList P ops Q rest (a.put op.dst (.agg v)) w) : wpList P ops Q (op :: rest) a w :=
  wp_wanted hw fun _ hK => H.op_load ho hx i hi hu hd hv hs (hK _ _ h)
theorem Own.load1 (H : Own w0 w L) (hw : Region.wanted op (yielded ops a.tmps) = true) {ty : TypeId} {x : Operand} (ho : op.op = .load ty x) {g o : Nat} (hx : a.eval x = .pointer (some ⟨g, o, none⟩))
    (i : Nat) {T : TypeId} {cs : Array Value} (hi : L[i]? = some (g, T, cs)) {d : TypeDesc} (hu : P.underlying ty = some d) (hd : d.isRow = false) {v : Value}
    (hv : cs[o]? = some v) (h : wpList P ops Q rest (a.put op.dst v) w) : wpList P ops Q (op :: rest) a w :=
  wp_wanted hw fun _ hK => H.op_load1 ho hx i hi hu hd hv (hK _ _ h)
theorem Own.store (H : Own w0 w L) (hw : Region.wanted op (yielded ops a.tmps) = true) {ty : TypeId} {x y : Operand} (ho : op.op = .store ty x y) {g o : Nat} (hx : a.eval x = .pointer (some ⟨g, o, none⟩))
    {vs : Array Value} (hy : (a.eval y).cells = vs)
    (i : Nat) {T : TypeId} {cs : Array Value} (hi : L[i]? = some (g, T, cs)) {cs' : Array Value} (hv : setRow cs o vs.toList = cs') (hs : (P.info? ty).map (·.size) = some vs.size) (h1 : vs.all (·.oneCell') = true) (hn : o + vs.size ≤ cs.size)
    (h : ∀ w', Own w0 w' (L.set i (g, T, cs')) → wpList P ops Q rest (a.put op.dst undef) w') : wpList P ops Q (op :: rest) a w :=
  wp_wanted hw fun _ hK => H.op_store ho hx hy i hi hv hs h1 hn fun w' hh => hK _ _ (h w' hh)

/-! Regions that draw their order. -/
variable {S : World → Prop} {md : Region.Mode} {fuel : Nat} {listed : Array Bool}
theorem held_start {id : Nat} (hm : P.follows .mixedOrders = true) (S : World → Prop) (h : wpAnyH P .any ops Q S ops.size (Array.replicate ops.size false) a w.drew) : (Code.region id ops true).wp P Q a w :=
  wp_region_held hm h
/-- One alone may come up. -/
theorem held_one {i : Nat} (hr : Region.ready md ops listed = [i]) (ho : ops[i]? = some op) (hw : Region.wanted op (yielded ops a.tmps) = true)
    (h : op.wp P a w (fun a' w' => S w' ∧ wpAnyH P md ops Q S fuel (listed.setIfInBounds i true) a' w') Q) : wpAnyH P md ops Q S (fuel + 1) listed a w := by
  refine wpAnyH_all hr (by simp) ?_
  intro j hj
  obtain rfl := List.mem_singleton.1 hj
  unfold wpOp
  simp only [ho, hw, if_true]
  exact Or.inl h
theorem held_skip {i : Nat} (hr : Region.ready md ops listed = [i]) (ho : ops[i]? = some op) (hw : Region.wanted op (yielded ops a.tmps) = false)
    (h : S w ∧ wpAnyH P md ops Q S fuel (listed.setIfInBounds i true) (a.put op.dst undef) w) : wpAnyH P md ops Q S (fuel + 1) listed a w := by
  refine wpAnyH_all hr (by simp) ?_
  intro j hj
  obtain rfl := List.mem_singleton.1 hj
  unfold wpOp
  simp only [ho, hw, Bool.false_eq_true, if_false]
  exact h
/-- Two may come up: both orders. -/
theorem held_two {i k : Nat} {op2 : Oper} (hr : Region.ready md ops listed = [i, k]) (ho : ops[i]? = some op) (hw : Region.wanted op (yielded ops a.tmps) = true) (ho2 : ops[k]? = some op2) (hw2 : Region.wanted op2 (yielded ops a.tmps) = true)
    (h : op.wp P a w (fun a' w' => S w' ∧ wpAnyH P md ops Q S fuel (listed.setIfInBounds i true) a' w') Q)
    (h2 : op2.wp P a w (fun a' w' => S w' ∧ wpAnyH P md ops Q S fuel (listed.setIfInBounds k true) a' w') Q) : wpAnyH P md ops Q S (fuel + 1) listed a w := by
  refine wpAnyH_all hr (by simp) ?_
  intro j hj
  rcases List.mem_cons.1 hj with rfl | hj
  · unfold wpOp
    simp only [ho, hw, if_true]
    exact Or.inl h
  · obtain rfl := List.mem_singleton.1 hj
    unfold wpOp
    simp only [ho2, hw2, if_true]
    exact Or.inl h2
end

section
variable {P : Program} {w : World}
variable {fn : Func} {tmps : Array Value}
theorem results_c {t : Tmp} {T : TypeId} (h : fn.results = #[.cell t T]) {A : Addr} (ha : tmps.getD t undef = .pointer (some A)) {v : Value} (hr : (loadVar T A).run P w = .ok v w) :
    (results fn tmps).run P w = .ok v w := by
  rw [Array.getD_eq_getD_getElem?] at ha
  simp [results, h, ha, asAddr, hr]
theorem results_ct {t u : Tmp} {T : TypeId} (h : fn.results = #[.cell t T, .tmp u]) {A : Addr} (ha : tmps.getD t undef = .pointer (some A)) {v : Value} (hr : (loadVar T A).run P w = .ok v w) :
    (results fn tmps).run P w = .ok (.tuple #[v, tmps.getD u undef]) w := by
  rw [Array.getD_eq_getD_getElem?] at ha
  simp [results, h, ha, asAddr, hr]
theorem results_ctt {t u x : Tmp} {T : TypeId} (h : fn.results = #[.cell t T, .tmp u, .tmp x]) {A : Addr} (ha : tmps.getD t undef = .pointer (some A)) {v : Value} (hr : (loadVar T A).run P w = .ok v w) :
    (results fn tmps).run P w = .ok (.tuple #[v, tmps.getD u undef, tmps.getD x undef]) w := by
  rw [Array.getD_eq_getD_getElem?] at ha
  simp [results, h, ha, asAddr, hr]
theorem results_tctt {s t u x : Tmp} {T : TypeId} (h : fn.results = #[.tmp s, .cell t T, .tmp u, .tmp x]) {A : Addr} (ha : tmps.getD t undef = .pointer (some A)) {v : Value} (hr : (loadVar T A).run P w = .ok v w) :
    (results fn tmps).run P w = .ok (.tuple #[tmps.getD s undef, v, tmps.getD u undef, tmps.getD x undef]) w := by
  rw [Array.getD_eq_getD_getElem?] at ha
  simp [results, h, ha, asAddr, hr]
theorem results_cct {t u x : Tmp} {T U : TypeId} (h : fn.results = #[.cell t T, .cell u U, .tmp x]) {A B : Addr} (ha : tmps.getD t undef = .pointer (some A)) {v v' : Value} (hr : (loadVar T A).run P w = .ok v w)
    (hb : tmps.getD u undef = .pointer (some B)) (hr' : (loadVar U B).run P w = .ok v' w) :
    (results fn tmps).run P w = .ok (.tuple #[v, v', tmps.getD x undef]) w := by
  rw [Array.getD_eq_getD_getElem?] at ha hb
  simp [results, h, ha, hb, asAddr, hr, hr']
theorem results_cc {t u : Tmp} {T U : TypeId} (h : fn.results = #[.cell t T, .cell u U]) {A B : Addr} (ha : tmps.getD t undef = .pointer (some A)) {v v' : Value} (hr : (loadVar T A).run P w = .ok v w)
    (hb : tmps.getD u undef = .pointer (some B)) (hr' : (loadVar U B).run P w = .ok v' w) :
    (results fn tmps).run P w = .ok (.tuple #[v, v']) w := by
  rw [Array.getD_eq_getD_getElem?] at ha hb
  simp [results, h, ha, hb, asAddr, hr, hr']
end

/-! Cells of values, parts of rows: what the rules above ask for. -/
theorem cells_agg (cs : Array Value) : (Value.agg cs).cells = cs := rfl
theorem cells_int (k : IntKind) (n : Int) : (Value.int k n).cells = #[Value.int k n] := rfl
theorem cells_bool (b : Bool) : (Value.bool b).cells = #[Value.bool b] := rfl
theorem cells_ptr (p : Option Addr) : (Value.pointer p).cells = #[Value.pointer p] := rfl
theorem cells_str (s : ByteArray) : (Value.string s).cells = #[Value.string s] := rfl
theorem ext_2 (x y : Value) : (#[x, y] : Array Value).extract 0 (0 + (#[x, y] : Array Value).size) = #[x, y] := rfl
theorem get_20 (x y : Value) : (#[x, y] : Array Value)[0]? = some x := rfl
theorem get_21 (x y : Value) : (#[x, y] : Array Value)[1]? = some y := rfl
theorem get_10 (x : Value) : (#[x] : Array Value)[0]? = some x := rfl
theorem set_2 (x y x' y' : Value) : setRow #[x, y] 0 (#[x', y'] : Array Value).toList = #[x', y'] := rfl
theorem set_20 (x y x' : Value) : setRow #[x, y] 0 (#[x'] : Array Value).toList = #[x', y] := rfl
theorem set_21 (x y y' : Value) : setRow #[x, y] 1 (#[y'] : Array Value).toList = #[x, y'] := rfl
theorem set_10 (x x' : Value) : setRow #[x] 0 (#[x'] : Array Value).toList = #[x'] := rfl
theorem ble_le {a b : Nat} (h : Nat.ble a b = true) : a ≤ b := Nat.le_of_ble_eq_true h
end Go.Proofs.YtjgonofkklpgaaaDoor
