/- Regions that draw their order, over blocks kept as one fact. -/
import Derived.Test.YtjgonofkklpgaaaDoorMem2
namespace Go.Proofs.YtjgonofkklpgaaaDoor
open Go.RowKit

section
variable {P : Program} {w0 w : World} {L L' : List Bk} {op : Oper} {a : Act} {Q : Exit → Act → World → Prop} {ops : Array Oper} {S : World → Prop} {md : Region.Mode} {fuel : Nat} {listed : Array Bool}
theorem Own.held (H : Own w0 w L) {id : Nat} (hm : P.follows .mixedOrders = true) (L' : List Bk) (h : Own w0 w.drew L → wpAnyH P .any ops Q (fun w' => Own w0 w' L') ops.size (Array.replicate ops.size false) a w.drew) :
    (Code.region id ops true).wp P Q a w := wp_region_held hm (h H.drew)
theorem Own.heldSub (H : Own w0 w L) {id : Nat} (hm : P.follows .mixedOrders = true) {L' : List Bk} (_hL : List.Sublist L' L) (h : Own w0 w.drew L → wpAnyH P .any ops Q (fun w' => Own w0 w' L') ops.size (Array.replicate ops.size false) a w.drew) :
    (Code.region id ops true).wp P Q a w := wp_region_held hm (h H.drew)
theorem Own.takeRun (H : Own w0 w L) (hL : List.Sublist L' L) (i : Nat) (hi : ops[i]? = some op) (hs : Region.noSelect ops = true) (hf : Region.free md ops listed i = true) (hr : (Region.ready md ops listed).contains i = true)
    (hQ : ∀ v c a w, Q (.panic c) (a.put op.dst v) w → Q (.panic c) a w) (hw : Region.wanted op (yielded ops a.tmps) = true) {v : Value} (hv : ∀ w, (execOp a.eval op).run P w = .ok (.value v) w)
    (h : wpAnyH P md ops Q (fun w' => Own w0 w' L') fuel (listed.setIfInBounds i true) (a.put op.dst v) w) : wpAnyH P md ops Q (fun w' => Own w0 w' L') (fuel + 1) listed a w :=
  wpAnyH_take hi hs hf hr (hQ v) (yields_run hw hv) (H.sub hL) h
theorem Own.takeOff (H : Own w0 w L) (hL : List.Sublist L' L) (i : Nat) (hi : ops[i]? = some op) (hs : Region.noSelect ops = true) (hf : Region.free md ops listed i = true) (hr : (Region.ready md ops listed).contains i = true)
    (hQ : ∀ v c a w, Q (.panic c) (a.put op.dst v) w → Q (.panic c) a w) (hw : Region.wanted op (yielded ops a.tmps) = false)
    (h : wpAnyH P md ops Q (fun w' => Own w0 w' L') fuel (listed.setIfInBounds i true) (a.put op.dst undef) w) : wpAnyH P md ops Q (fun w' => Own w0 w' L') (fuel + 1) listed a w :=
  wpAnyH_take hi hs hf hr (hQ undef) (yields_off hw) (H.sub hL) h
theorem Own.takeLoad (H : Own w0 w L) (hL : List.Sublist L' L) (i : Nat) (hi : ops[i]? = some op) (hs : Region.noSelect ops = true) (hf : Region.free md ops listed i = true) (hr : (Region.ready md ops listed).contains i = true)
    (hQ : ∀ v c a w, Q (.panic c) (a.put op.dst v) w → Q (.panic c) a w) (hw : Region.wanted op (yielded ops a.tmps) = true)
    {ty : TypeId} {x : Operand} (ho : op.op = .load ty x) {g o : Nat} (hx : a.eval x = .pointer (some ⟨g, o, none⟩))
    (j : Nat) {T : TypeId} {cs : Array Value} (hj : L'[j]? = some (g, T, cs)) {d : TypeDesc} (hu : P.underlying ty = some d) (hd : d.isRow = true) {v : Array Value} (hv : cs.extract o (o + v.size) = v) (hz : (P.info? ty).map (·.size) = some v.size)
    (h : wpAnyH P md ops Q (fun w' => Own w0 w' L') fuel (listed.setIfInBounds i true) (a.put op.dst (.agg v)) w) : wpAnyH P md ops Q (fun w' => Own w0 w' L') (fuel + 1) listed a w :=
  wpAnyH_take hi hs hf hr (hQ _) (yields_load (fun _ h => h) hw ho hx j hj hu hd hz hv) (H.sub hL) h
theorem Own.takeLoad1 (H : Own w0 w L) (hL : List.Sublist L' L) (i : Nat) (hi : ops[i]? = some op) (hs : Region.noSelect ops = true) (hf : Region.free md ops listed i = true) (hr : (Region.ready md ops listed).contains i = true)
    (hQ : ∀ v c a w, Q (.panic c) (a.put op.dst v) w → Q (.panic c) a w) (hw : Region.wanted op (yielded ops a.tmps) = true)
    {ty : TypeId} {x : Operand} (ho : op.op = .load ty x) {g o : Nat} (hx : a.eval x = .pointer (some ⟨g, o, none⟩))
    (j : Nat) {T : TypeId} {cs : Array Value} (hj : L'[j]? = some (g, T, cs)) {d : TypeDesc} (hu : P.underlying ty = some d) (hd : d.isRow = false) {v : Value} (hv : cs[o]? = some v)
    (h : wpAnyH P md ops Q (fun w' => Own w0 w' L') fuel (listed.setIfInBounds i true) (a.put op.dst v) w) : wpAnyH P md ops Q (fun w' => Own w0 w' L') (fuel + 1) listed a w :=
  wpAnyH_take hi hs hf hr (hQ _) (yields_load1 (fun _ h => h) hw ho hx j hj hu hd hv) (H.sub hL) h
/-- Behind an operation that was carried out. -/
theorem Own.next (H : Own w0 w L) (hL : List.Sublist L' L) {X : Prop} (h : X) : Own w0 w L' ∧ X := ⟨H.sub hL, h⟩
end
end Go.Proofs.YtjgonofkklpgaaaDoor
