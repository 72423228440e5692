/- Part 1 of what is proved: Via_. -/
import Derived.Test.YtbngedcblngnhaaDoorProg
import Derived.WalkKit
import Derived.WalkSpells
import Derived.Handy
namespace Go.Proofs.YtbngedcblngnhaaDoor
universe yu_
theorem yq1_ {α : Type yu_} (l : List α) (i : Nat) (a : α) : l.toArray.setIfInBounds i a = (l.set i a).toArray := List.setIfInBounds_toArray l i a
theorem yq2_ {α : Type yu_} {x : α} {xs : List α} {a : α} : (x :: xs).set 0 a = a :: xs := rfl
theorem yq3_ {α : Type yu_} {x : α} {xs : List α} {i : Nat} {a : α} : (x :: xs).set (i + 1) a = x :: xs.set i a := rfl
theorem yq4_ {α : Type yu_} {xs : List α} {i : Nat} (h : i < xs.toArray.size) : xs.toArray[i] = xs[i]'(by simpa using h) := rfl
theorem yq5_ {α : Type yu_} {a : α} {bs : List α} (h : 0 < (a :: bs).length) : (a :: bs)[0]'h = a := rfl
theorem yq6_ {α : Type yu_} {a : α} {bs : List α} {i : Nat} (h : i + 1 < (a :: bs).length) : (a :: bs)[i + 1]'h = bs[i]'(Nat.lt_of_succ_lt_succ h) := rfl
theorem y1_ {P : Prop} (h : P := by repeat (first | with_reducible exact List.mem_cons_self | apply List.mem_cons_of_mem)) : P := h
theorem y2_ {P : Prop} (h : P := by first | with_reducible exact ext_limbs _ | with_reducible exact ext_parts_s _ _ _ _ | with_reducible exact ext_rough_s _ _ _ _ | with_reducible exact ext_parts_f _ _ _ _) : P := h
end Go.Proofs.YtbngedcblngnhaaDoor
