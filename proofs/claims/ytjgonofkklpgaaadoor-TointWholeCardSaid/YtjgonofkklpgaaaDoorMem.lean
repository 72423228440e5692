/- Blocks that a call has made, kept as one fact: what the rules of the walk do to them. -/
import Derived.Test.YtjgonofkklpgaaaDoorPln
import Derived.WalkKit
import Derived.WalkSpells
import Derived.Handy
import Derived.Lib.Hide
import Derived.Below
import Derived.OrdersHeld
import Derived.Deep.MidRow
import Derived.BigQuiet
import Derived.Deep.QuietTactic
namespace Go.Proofs.YtjgonofkklpgaaaDoor
open Go.RowKit

/-- A block of memory, whole, that may be written. -/
def Blk (T : TypeId) (w : World) (g : Nat) (cs : Array Value) : Prop := w.heap[g]? = some (.cells cs T (0, 0))
section
variable {T : TypeId} {w : World} {g : Nat} {cs : Array Value}
theorem Blk.cell (h : Blk T w g cs) (j : Nat) {v : Value} (hv : cs[j]? = some v) : w.cell? ⟨g, j, none⟩ = some v := (cell_of_row w g j cs _ _ h).trans hv
theorem Blk.free (h : Blk T w g cs) (j : Nat) : w.frozen? ⟨g, j, none⟩ = false := frozen_of_row w g j cs _ h
theorem Blk.lt (h : Blk T w g cs) : g < w.heap.size := (Array.getElem?_eq_some_iff.1 h).1
theorem Blk.set (h : Blk T w g cs) (j : Nat) (v : Value) {cs' : Array Value} (e : cs.setIfInBounds j v = cs') : Blk T (w.setCell ⟨g, j, none⟩ v) g cs' := by
  subst e; exact heap_setCell_same w g j cs T v h
theorem Blk.other (h : Blk T w g cs) (a : Addr) (v : Value) (hne : g ≠ a.block) : Blk T (w.setCell a v) g cs := (heap_setCell_other w a g v hne).trans h
theorem Blk.drew (h : Blk T w g cs) : Blk T w.drew g cs := h
theorem Blk.alloc (h : Blk T w g cs) (o : Obj) : Blk T (w.alloc o) g cs := (heap_alloc_old w o h.lt).trans h
theorem Blk.new (w : World) (cs : Array Value) : Blk T (w.alloc (.cells cs T (0, 0))) w.heap.size cs := heap_alloc_new w _
theorem Blk.keep (h : Blk T w g cs) (j : Nat) (v : Value) (hv : cs[j]? = some v) : w.setCell ⟨g, j, none⟩ v = w := by
  have e : (w.setCell ⟨g, j, none⟩ v).heap = w.heap := by
    apply Array.ext_getElem?
    intro k
    by_cases hk : k = g
    · subst hk
      rw [heap_setCell_same w k j cs T v h, h]
      congr 2
      apply Array.ext_getElem?
      intro i
      rw [Array.getElem?_setIfInBounds]
      split
      · rename_i hij; subst hij
        split
        · exact hv.symm
        · rename_i hn; rw [Array.getElem?_eq_none (by omega)] at hv; cases hv
      · rfl
    · exact heap_setCell_other w ⟨g, j, none⟩ k v hk
  unfold World.setCell at e ⊢
  simp only at e
  rw [e]
theorem Blk.below {w' : World} {B : Nat} (h : Blk T w g cs) (hb : Below B w w') (hg : g < B) : Blk T w' g cs := by
  have := hb.block g hg
  unfold Blk
  rw [this]; exact h
end

/-- A block: its number, its type, its cells. -/
abbrev Bk := Nat × TypeId × Array Value
/-- What was there when the call began is as it was; these blocks are new, and no two of them are one. -/
structure Own (w0 w : World) (L : List Bk) : Prop where
  below : Below w0.heap.size w0 w
  blk : ∀ x ∈ L, Blk x.2.1 w x.1 x.2.2
  ge : ∀ x ∈ L, w0.heap.size ≤ x.1
  ne : L.Pairwise fun x y => x.1 ≠ y.1

theorem Own.start (w : World) : Own w w [] := ⟨Below.refl _ _, (by intro x h; cases h), (by intro x h; cases h), List.Pairwise.nil⟩
section
variable {w0 w w' : World} {L : List Bk}
theorem Own.alloc (H : Own w0 w L) (T : TypeId) (cs : Array Value) : Own w0 (w.alloc (.cells cs T (0, 0))) ((w.heap.size, T, cs) :: L) := by
  refine ⟨H.below.alloc H.below.size _, ?_, ?_, ?_⟩
  · intro x hx
    rcases List.mem_cons.1 hx with rfl | hx
    · exact Blk.new w cs
    · exact (H.blk x hx).alloc _
  · intro x hx
    rcases List.mem_cons.1 hx with rfl | hx
    · exact H.below.size
    · exact H.ge x hx
  · refine List.pairwise_cons.2 ⟨fun y hy => ?_, H.ne⟩
    have := (H.blk y hy).lt
    show w.heap.size ≠ y.1
    omega
theorem Own.call (H : Own w0 w L) (hb : Below w.heap.size w w') : Own w0 w' L :=
  ⟨H.below.trans (hb.mono H.below.size), fun x hx => (H.blk x hx).below hb (H.blk x hx).lt, H.ge, H.ne⟩
theorem Own.drew (H : Own w0 w L) : Own w0 w.drew L := ⟨H.below.drew, fun x hx => (H.blk x hx).drew, H.ge, H.ne⟩
theorem Own.sub (H : Own w0 w L) {L' : List Bk} (h : List.Sublist L' L) : Own w0 w L' :=
  ⟨H.below, fun x hx => H.blk x (h.subset hx), fun x hx => H.ge x (h.subset hx), H.ne.sublist h⟩
theorem Own.tail {x : Bk} (H : Own w0 w (x :: L)) : Own w0 w L := H.sub (List.sublist_cons_self _ _)
theorem Own.at (H : Own w0 w L) (i : Nat) {g : Nat} {T : TypeId} {cs : Array Value} (h : L[i]? = some (g, T, cs)) : Blk T w g cs := H.blk (g, T, cs) (List.mem_of_getElem? h)
theorem Own.base (H : Own w0 w L) (i : Nat) {g : Nat} {T : TypeId} {cs : Array Value} (h : L[i]? = some (g, T, cs)) : w0.heap.size ≤ g := H.ge (g, T, cs) (List.mem_of_getElem? h)

/-- The cells from o on written over. -/
def setRow (cs : Array Value) : Nat → List Value → Array Value
  | _, [] => cs
  | o, v :: r => setRow (cs.setIfInBounds o v) (o + 1) r
theorem setRow_size (vs : List Value) : ∀ (cs : Array Value) (o : Nat), (setRow cs o vs).size = cs.size := by
  induction vs with
  | nil => intros; rfl
  | cons v r ih => intro cs o; rw [setRow, ih]; simp
theorem Blk.row {T : TypeId} {g : Nat} (vs : List Value) : ∀ (w : World) (cs : Array Value) (o : Nat), Blk T w g cs → Blk T (w.setCells g o vs) g (setRow cs o vs) := by
  induction vs with
  | nil => intro w cs o h; exact h
  | cons v r ih => intro w cs o h; exact ih _ _ _ (h.set o v rfl)
theorem Blk.row_other {T : TypeId} {g g' : Nat} {cs : Array Value} (hne : g ≠ g') (vs : List Value) : ∀ (w : World) (o : Nat), Blk T w g cs → Blk T (w.setCells g' o vs) g cs := by
  induction vs with
  | nil => intro w o h; exact h
  | cons v r ih => intro w o h; exact ih _ _ (h.other _ _ hne)
theorem below_row {B : Nat} {g : Nat} (hg : B ≤ g) (vs : List Value) : ∀ (w : World) (o : Nat), Below B w0 w → Below B w0 (w.setCells g o vs) := by
  induction vs with
  | nil => intro w o h; exact h
  | cons v r ih => intro w o h; exact ih _ _ (h.setCell hg _)
theorem Own.set (H : Own w0 w L) (i : Nat) {g : Nat} {T : TypeId} {cs cs' : Array Value} (h : L[i]? = some (g, T, cs)) (o : Nat) (vs : List Value) (e : setRow cs o vs = cs') :
    Own w0 (w.setCells g o vs) (L.set i (g, T, cs')) := by
  subst e
  have hi : i < L.length := (List.getElem?_eq_some_iff.1 h).1
  have hgi : L[i] = (g, T, cs) := (List.getElem?_eq_some_iff.1 h).2
  have hne := List.pairwise_iff_getElem.1 H.ne
  have other : ∀ (j : Nat) (hj : j < L.length), j ≠ i → L[j].1 ≠ g := by
    intro j hj hji
    rcases Nat.lt_or_ge j i with hlt | hge
    · have := hne j i hj hi hlt
      rw [hgi] at this; exact this
    · have := hne i j hi hj (by omega)
      rw [hgi] at this; exact fun e => this e.symm
  refine ⟨below_row (H.base i h) vs w o H.below, ?_, ?_, ?_⟩
  · intro x hx
    obtain ⟨j, hj, rfl⟩ := List.mem_iff_getElem.1 hx
    rw [List.length_set] at hj
    rw [List.getElem_set]
    split
    · exact Blk.row vs w cs o (H.at i h)
    · rename_i hij
      exact Blk.row_other (other j hj (fun e => hij e.symm)) vs w o (H.blk _ (List.getElem_mem hj))
  · intro x hx
    obtain ⟨j, hj, rfl⟩ := List.mem_iff_getElem.1 hx
    rw [List.length_set] at hj
    rw [List.getElem_set]
    split
    · exact H.base i h
    · exact H.ge _ (List.getElem_mem hj)
  · rw [List.pairwise_iff_getElem]
    intro j k hj hk hjk
    rw [List.length_set] at hj hk
    rw [List.getElem_set, List.getElem_set]
    split
    · rename_i hji; subst hji
      rw [if_neg (by omega)]
      exact fun e => other k hk (by omega) e.symm
    · rename_i hji
      split
      · exact other j hj (fun e => hji e.symm)
      · exact hne j k hj hk hjk

theorem Own.range (H : Own w0 w L) (i : Nat) {g : Nat} {T : TypeId} {cs : Array Value} (h : L[i]? = some (g, T, cs)) (o n : Nat) {v : Array Value} (e : cs.extract o (o + n) = v) : w.rangeAt g o v.toList := by
  subst e
  exact World.rangeAt_of_block (H.at i h) o n
theorem Own.there (H : Own w0 w L) (i : Nat) {g : Nat} {T : TypeId} {cs : Array Value} (h : L[i]? = some (g, T, cs)) (o n : Nat) (hn : o + n ≤ cs.size) : w.there g o n := by
  intro j hj
  have hb := H.at i h
  refine ⟨?_, hb.free _⟩
  have : cs[o + j]? = some cs[o + j] := Array.getElem?_eq_getElem (by omega)
  rw [hb.cell (o + j) this]; rfl

variable {P : Program} {ops : Array Oper} {Q : Exit → Act → World → Prop} {rest : List Oper} {op : Oper} {a : Act}

/-- A value laid into a new block. -/
theorem Own.wp_box (H : Own w0 w L) (hgd : op.guard = none) {T : TypeId} {x : Operand} (ho : op.op = .box T x) {cs : Array Value} (hx : (a.eval x).cells = cs)
    (h : ∀ g w', Own w0 w' ((g, T, cs) :: L) → wpList P ops Q rest (a.put op.dst (.pointer (some ⟨g, 0, none⟩))) w') : wpList P ops Q (op :: rest) a w := by
  subst hx
  refine wpList_plain hgd fun K hK => ?_
  have hk := hK _ _ (h _ _ (H.alloc T (a.eval x).cells))
  unfold Oper.wp execOp
  simp only [ho]
  exact hk
theorem run_zeroValue {T : TypeId} {z : Value} (hz : (P.info? T).bind (·.zero) = some z) (w : World) : (zeroValue T).run P w = .ok z w := by
  cases hq : P.info? T with
  | none => simp [hq] at hz
  | some i =>
    have hs : i.zero = some z := by simpa [hq] using hz
    simp [zeroValue, Sem.run_bind, typeInfo, hq, hs]
/-- A new variable, at its type's zero. -/
theorem Own.wp_alloc (H : Own w0 w L) (hgd : op.guard = none) {T : TypeId} (ho : op.op = .alloc T) {z : Value} (hz : (P.info? T).bind (·.zero) = some z) {cs : Array Value} (hx : z.cells = cs)
    (h : ∀ g w', Own w0 w' ((g, T, cs) :: L) → wpList P ops Q rest (a.put op.dst (.pointer (some ⟨g, 0, none⟩))) w') : wpList P ops Q (op :: rest) a w := by
  subst hx
  refine wpList_plain hgd fun K hK => ?_
  have hk := hK _ _ (h _ _ (H.alloc T z.cells))
  unfold Oper.wp execOp
  simp only [ho, Instr.alloc, Sem.run_bind, run_zeroValue hz, Result.andThen_ok]
  exact hk
/-- A struct or an array read. -/
theorem Own.wp_load (H : Own w0 w L) (hgd : op.guard = none) {ty : TypeId} {x : Operand} (ho : op.op = .load ty x) {g o : Nat} (hx : a.eval x = .pointer (some ⟨g, o, none⟩))
    (i : Nat) {T : TypeId} {cs : Array Value} (hi : L[i]? = some (g, T, cs)) {d : TypeDesc} (hu : P.underlying ty = some d) (hd : d.isRow = true) {v : Array Value} (hs : (P.info? ty).map (·.size) = some v.size)
    (hv : cs.extract o (o + v.size) = v) (h : wpList P ops Q rest (a.put op.dst (.agg v)) w) : wpList P ops Q (op :: rest) a w := by
  have := wpList_load_mid (P := P) (ops := ops) (Q := Q) (rest := rest) (a := a) (w := w) hgd ty x ho g o hx v.toList d (H.range i hi o _ hv) hu hd (by simpa using hs) (by simpa using h)
  exact this
theorem run_loadVar_one {ty : TypeId} {d : TypeDesc} (hu : P.underlying ty = some d) (hd : d.isRow = false) (A : Addr) {v : Value} (hc : w.cell? A = some v) : (loadVar ty A).run P w = .ok v w := by
  have hagg : (isAgg ty).run P w = .ok false w := by
    unfold isAgg
    rw [Sem.run_bind, run_underlying hu w]
    cases d <;> simp_all
  simp [loadVar, Sem.run_bind, hagg, load, Sem.run, hc]
/-- One cell read. -/
theorem Own.wp_load1 (H : Own w0 w L) (hgd : op.guard = none) {ty : TypeId} {x : Operand} (ho : op.op = .load ty x) {g o : Nat} (hx : a.eval x = .pointer (some ⟨g, o, none⟩))
    (i : Nat) {T : TypeId} {cs : Array Value} (hi : L[i]? = some (g, T, cs)) {d : TypeDesc} (hu : P.underlying ty = some d) (hd : d.isRow = false) {v : Value}
    (hv : cs[o]? = some v) (h : wpList P ops Q rest (a.put op.dst v) w) : wpList P ops Q (op :: rest) a w := by
  refine wpList_plain hgd fun K hK => ?_
  have hk := hK _ _ h
  unfold Oper.wp execOp
  simp only [ho, hx, Instr.loadAt, Instr.sureAddr, Sem.run_bind, Sem.run_pure, Result.andThen_ok, run_loadVar_one hu hd _ ((H.at i hi).cell o hv)]
  exact hk
/-- Cells written. -/
theorem Own.wp_store (H : Own w0 w L) (hgd : op.guard = none) {ty : TypeId} {x y : Operand} (ho : op.op = .store ty x y) {g o : Nat} (hx : a.eval x = .pointer (some ⟨g, o, none⟩))
    {vs : Array Value} (hy : (a.eval y).cells = vs)
    (i : Nat) {T : TypeId} {cs : Array Value} (hi : L[i]? = some (g, T, cs)) (hs : (P.info? ty).map (·.size) = some vs.size) (h1 : vs.all (·.oneCell') = true) (hn : o + vs.size ≤ cs.size)
    {cs' : Array Value} (hv : setRow cs o vs.toList = cs') (h : ∀ w', Own w0 w' (L.set i (g, T, cs')) → wpList P ops Q rest (a.put op.dst undef) w') : wpList P ops Q (op :: rest) a w := by
  refine wpList_plain hgd fun K hK => ?_
  have hk := hK _ _ (h _ (H.set i hi o vs.toList hv))
  have ht := H.there i hi o vs.size hn
  have := run_storeCells_cells (P := P) g o vs.toList 0 w (fun j hj => by simpa using (ht j (by simpa using hj)).1) (fun j hj => by simpa using (ht j (by simpa using hj)).2)
    (fun v hv => (Array.all_eq_true_iff_forall_mem.1 h1) v (by simpa using hv))
  simp only [Nat.add_zero] at this
  have hst : (storeVar ty ⟨g, o, none⟩ (a.eval y)).run P w = .ok () (w.setCells g o vs.toList) := by
    cases hq : P.info? ty with
    | none => simp [hq] at hs
    | some inf =>
      have hs' : vs.size = inf.size := by simp [hq] at hs; omega
      simp [storeVar, sizeOf, typeInfo, hq, hy, hs', this]
  unfold Oper.wp execOp
  simp only [ho, hx, Instr.storeAt, Instr.sureAddr, Sem.run_bind, Sem.run_pure, Result.andThen_ok, hst]
  exact hk

/-! In a region that draws its order. -/
variable {S : World → Prop}
theorem yields_load {L : List Bk} (hS : ∀ w, S w → Own w0 w L) (hw : Region.wanted op (yielded ops a.tmps) = true) {ty : TypeId} {x : Operand} (ho : op.op = .load ty x) {g o : Nat} (hx : a.eval x = .pointer (some ⟨g, o, none⟩))
    (i : Nat) {T : TypeId} {cs : Array Value} (hi : L[i]? = some (g, T, cs)) {d : TypeDesc} (hu : P.underlying ty = some d) (hd : d.isRow = true) {v : Array Value} (hs : (P.info? ty).map (·.size) = some v.size)
    (hv : cs.extract o (o + v.size) = v) : YieldsIf P ops S op (.agg v) a := by
  have := yieldsIf_load_mid (P := P) (ops := ops) (S := S) (a := a) hw ty x ho g o hx v.toList d (fun w h => (hS w h).range i hi o _ hv) hu hd (by simpa using hs)
  simpa using this
theorem yields_load1 {L : List Bk} (hS : ∀ w, S w → Own w0 w L) (hw : Region.wanted op (yielded ops a.tmps) = true) {ty : TypeId} {x : Operand} (ho : op.op = .load ty x) {g o : Nat} (hx : a.eval x = .pointer (some ⟨g, o, none⟩))
    (i : Nat) {T : TypeId} {cs : Array Value} (hi : L[i]? = some (g, T, cs)) {d : TypeDesc} (hu : P.underlying ty = some d) (hd : d.isRow = false) {v : Value}
    (hv : cs[o]? = some v) : YieldsIf P ops S op v a := by
  refine Or.inl ⟨hw, fun w hs => ?_⟩
  unfold execOp
  simp only [ho, hx, Instr.loadAt, Instr.sureAddr, Sem.run_bind, Sem.run_pure, Result.andThen_ok, run_loadVar_one hu hd _ (((hS w hs).at i hi).cell o hv)]
theorem yields_run {v : Value} (hw : Region.wanted op (yielded ops a.tmps) = true) (h : ∀ w, (execOp a.eval op).run P w = .ok (.value v) w) : YieldsIf P ops S op v a := Or.inl ⟨hw, fun w _ => h w⟩
theorem yields_off (hw : Region.wanted op (yielded ops a.tmps) = false) : YieldsIf P ops S op undef a := Or.inr ⟨hw, rfl⟩
/-- Results that lie in memory. -/
theorem Own.result (H : Own w0 w L) (i : Nat) {g o : Nat} {T : TypeId} {cs : Array Value} (hi : L[i]? = some (g, T, cs)) {ty : TypeId} {d : TypeDesc} (hu : P.underlying ty = some d) (hd : d.isRow = true) {v : Array Value} (hs : (P.info? ty).map (·.size) = some v.size)
    (hv : cs.extract o (o + v.size) = v) : (loadVar ty ⟨g, o, none⟩).run P w = .ok (.agg v) w := by
  have := run_loadVar_mid (P := P) w g o ty v.toList d (H.range i hi o _ hv) hu hd (by simpa using hs)
  simpa using this
theorem Own.result1 (H : Own w0 w L) (i : Nat) {g o : Nat} {T : TypeId} {cs : Array Value} (hi : L[i]? = some (g, T, cs)) {ty : TypeId} {d : TypeDesc} (hu : P.underlying ty = some d) (hd : d.isRow = false) {v : Value}
    (hv : cs[o]? = some v) : (loadVar ty ⟨g, o, none⟩).run P w = .ok v w := run_loadVar_one hu hd _ ((H.at i hi).cell o hv)
end
end Go.Proofs.YtjgonofkklpgaaaDoor
