/- Part 5 of the proof. -/
import Derived.Test.YtgmhmpflmgfcdaaGreatDoorProg
import Derived.WalkKit
import Derived.WalkSpells
import Derived.Handy
namespace Go.Proofs.YtgmhmpflmgfcdaaGreatDoor
open Go.RowKit
abbrev CR_ (f : Nat) (a : Array Value) (w : World) (r : Value) : Prop := Calls Tryz.prog f a w fun e w' => e = .returned r ∧ Below w.heap.size w w'
abbrev CK_ (f : Nat) (a : Array Value) (r : Value) : Prop := ∀ w, Calls Tryz.prog f a w fun e w' => e = .returned r ∧ Below w.heap.size w w'
theorem g0_ {P : Program} {w : World} {a : Act} {Q : Exit → Act → World → Prop} {ops : Array Oper} {rest : List Oper} {o : Oper} {t : TypeId} {y : Operand} (_ : o.op = .box t y) (h : wpList P ops Q (o :: rest) a w) : wpList P ops Q (o :: rest) a w := h
theorem g1_ {P : Program} {w : World} {a : Act} {Q : Exit → Act → World → Prop} {ops : Array Oper} {rest : List Oper} {o : Oper} {t : TypeId} (_ : o.op = .alloc t) (h : wpList P ops Q (o :: rest) a w) : wpList P ops Q (o :: rest) a w := h
theorem g2_ {P : Program} {w : World} {a : Act} {Q : Exit → Act → World → Prop} {ops : Array Oper} {rest : List Oper} {o : Oper} {t : TypeId} {y : Operand} (_ : o.op = .load t y) (h : wpList P ops Q (o :: rest) a w) : wpList P ops Q (o :: rest) a w := h
theorem g3_ {P : Program} {w : World} {a : Act} {Q : Exit → Act → World → Prop} {ops : Array Oper} {rest : List Oper} {o : Oper} {t : TypeId} {y : Operand} {z : Operand} (_ : o.op = .store t y z) (h : wpList P ops Q (o :: rest) a w) : wpList P ops Q (o :: rest) a w := h
theorem g4_ {P : Program} {w : World} {a : Act} {Q : Exit → Act → World → Prop} {ops : Array Oper} {rest : List Oper} {o : Oper} (_ : o.dst = some 4) (_ : o.op = .alloc 60) (h : wpList P ops Q (o :: rest) a w) : wpList P ops Q (o :: rest) a w := h
theorem g5_ {P : Program} {w : World} {a : Act} {Q : Exit → Act → World → Prop} {ops : Array Oper} {rest : List Oper} {o : Oper} {y : Operand} (_ : o.op = .load 27 y) (h : wpList P ops Q (o :: rest) a w) : wpList P ops Q (o :: rest) a w := h
theorem g6_ {P : Program} {w : World} {a : Act} {Q : Exit → Act → World → Prop} {ops : Array Oper} {rest : List Oper} {o : Oper} {t : TypeId} {y : Operand} (_ : o.dst = some 2) (_ : o.op = .box t y) (h : wpList P ops Q (o :: rest) a w) : wpList P ops Q (o :: rest) a w := h
theorem g7_ {P : Program} {w : World} {a : Act} {Q : Exit → Act → World → Prop} {ops : Array Oper} {rest : List Oper} {o : Oper} {y : Operand} (_ : o.op = .load 25 y) (h : wpList P ops Q (o :: rest) a w) : wpList P ops Q (o :: rest) a w := h
theorem g8_ {P : Program} {w : World} {a : Act} {Q : Exit → Act → World → Prop} {ops : Array Oper} {rest : List Oper} {o : Oper} {y : Operand} {z : Operand} (_ : o.op = .store 25 y z) (h : wpList P ops Q (o :: rest) a w) : wpList P ops Q (o :: rest) a w := h
theorem g9_ {P : Program} {w : World} {a : Act} {Q : Exit → Act → World → Prop} {ops : Array Oper} {rest : List Oper} {o : Oper} (_ : o.dst = some 6) (_ : o.op = .alloc 60) (h : wpList P ops Q (o :: rest) a w) : wpList P ops Q (o :: rest) a w := h
theorem g10_ {P : Program} {w : World} {a : Act} {Q : Exit → Act → World → Prop} {ops : Array Oper} {rest : List Oper} {o : Oper} {t : TypeId} {y : Operand} (_ : o.dst = some 3) (_ : o.op = .box t y) (h : wpList P ops Q (o :: rest) a w) : wpList P ops Q (o :: rest) a w := h
theorem g11_ {P : Program} {w : World} {a : Act} {Q : Exit → Act → World → Prop} {ops : Array Oper} {rest : List Oper} {o : Oper} {t : TypeId} {y : Operand} (_ : o.dst = some 1) (_ : o.op = .box t y) (h : wpList P ops Q (o :: rest) a w) : wpList P ops Q (o :: rest) a w := h
theorem g12_ {P : Program} {w : World} {a : Act} {Q : Exit → Act → World → Prop} {ops : Array Oper} {rest : List Oper} {o : Oper} (_ : o.dst = some 2) (_ : o.op = .alloc 60) (h : wpList P ops Q (o :: rest) a w) : wpList P ops Q (o :: rest) a w := h
theorem g13_ {P : Program} {w : World} {a : Act} {Q : Exit → Act → World → Prop} {ops : Array Oper} {rest : List Oper} {o : Oper} {y : Operand} (_ : o.op = .load 100 y) (h : wpList P ops Q (o :: rest) a w) : wpList P ops Q (o :: rest) a w := h
theorem g14_ {P : Program} {w : World} {a : Act} {Q : Exit → Act → World → Prop} {ops : Array Oper} {rest : List Oper} {o : Oper} (_ : o.dst = some 14) (_ : o.op = .alloc 27) (h : wpList P ops Q (o :: rest) a w) : wpList P ops Q (o :: rest) a w := h
theorem g15_ {P : Program} {w : World} {a : Act} {Q : Exit → Act → World → Prop} {ops : Array Oper} {rest : List Oper} {o : Oper} (_ : o.dst = some 11) (_ : o.op = .alloc 27) (h : wpList P ops Q (o :: rest) a w) : wpList P ops Q (o :: rest) a w := h
theorem g16_ {P : Program} {w : World} {a : Act} {Q : Exit → Act → World → Prop} {ops : Array Oper} {rest : List Oper} {o : Oper} (_ : o.dst = some 6) (_ : o.op = .alloc 180) (h : wpList P ops Q (o :: rest) a w) : wpList P ops Q (o :: rest) a w := h
theorem g17_ {P : Program} {w : World} {a : Act} {Q : Exit → Act → World → Prop} {ops : Array Oper} {rest : List Oper} {o : Oper} {y : Operand} {z : Operand} (_ : o.op = .store 87 y z) (h : wpList P ops Q (o :: rest) a w) : wpList P ops Q (o :: rest) a w := h
theorem g18_ {P : Program} {w : World} {a : Act} {Q : Exit → Act → World → Prop} {ops : Array Oper} {rest : List Oper} {o : Oper} (_ : o.dst = some 8) (_ : o.op = .alloc 27) (h : wpList P ops Q (o :: rest) a w) : wpList P ops Q (o :: rest) a w := h
universe u_
theorem q1_ {α : Type u_} (l : List α) (i : Nat) (a : α) : l.toArray.setIfInBounds i a = (l.set i a).toArray := List.setIfInBounds_toArray l i a
theorem q2_ {α : Type u_} {x : α} {xs : List α} {a : α} : (x :: xs).set 0 a = a :: xs := rfl
theorem q3_ {α : Type u_} {x : α} {xs : List α} {i : Nat} {a : α} : (x :: xs).set (i + 1) a = x :: xs.set i a := rfl
theorem q4_ {α : Type u_} {xs : List α} {i : Nat} (h : i < xs.toArray.size) : xs.toArray[i] = xs[i]'(by simpa using h) := rfl
theorem q5_ {α : Type u_} {a : α} {bs : List α} (h : 0 < (a :: bs).length) : (a :: bs)[0]'h = a := rfl
theorem q6_ {α : Type u_} {a : α} {bs : List α} {i : Nat} (h : i + 1 < (a :: bs).length) : (a :: bs)[i + 1]'h = bs[i]'(Nat.lt_of_succ_lt_succ h) := rfl
theorem v1_ {P : Prop} (h : P := by simp [results, Tryz.results122, go_sem, d0, d1, d2, d3, d4, d5, limbs]) : P := h
theorem v2_ {P : Prop} (h : P := by repeat (first | with_reducible exact List.mem_cons_self | apply List.mem_cons_of_mem)) : P := h
theorem v3_ {P : Prop} (h : P := by first | with_reducible exact ext_2 _ _) : P := h
theorem v4_ {P : Prop} (h : P := by first | with_reducible exact ext_limbs _ | with_reducible exact ext_parts_s _ _ _ _ | with_reducible exact ext_rough_s _ _ _ _ | with_reducible exact ext_parts_f _ _ _ _) : P := h
theorem v5_ {P : Prop} (h : P := by repeat (first | with_reducible exact List.Sublist.refl _ | with_reducible apply List.Sublist.cons_cons | with_reducible apply List.Sublist.cons)) : P := h
theorem v6_ {P : Prop} (h : P := by first | with_reducible exact cat3_0 (bc _) (bc _) (bc _)) : P := h
theorem v7_ {P : Prop} (h : P := by unfold Func.isWrapper; first | (rw [if_pos (by decide +kernel)]; kernel_rfl) | (rw [if_neg (by decide +kernel)]; exact ⟨rfl, rfl⟩)) : P := h
end Go.Proofs.YtgmhmpflmgfcdaaGreatDoor
