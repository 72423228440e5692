/- The argument of the laws over an Ask, opened. -/
import Derived.Test.YthfoffiebifpcaaRows
import Derived.WalkKit
import Derived.ProofKit
import Derived.OpenShut
import Derived.ShutString
import Derived.ChangeOld
import Derived.Below
import Derived.Carry
import Derived.SizedLaws
namespace Go.Proofs.Ythfoffiebifpcaa
open Go.ChangeShapes Go.WideShapes Go.ChangeAt Go.RowKit
open Go.ChangeMaps (open_string shut_string)

theorem own : ownKnob Try.prog.godebug = none := by kernel_rfl
theorem laidOut : laidOutB Try.prog = true := by kernel_rfl

theorem list7 {α : Type} {l : List α} (h : l.length = 7) : ∃ c0 c1 c2 c3 c4 c5 c6, l = [c0, c1, c2, c3, c4, c5, c6] := by
  match l, h with
  | [c0, c1, c2, c3, c4, c5, c6], _ => exact ⟨c0, c1, c2, c3, c4, c5, c6, rfl⟩

theorem int_cell {H : Type} {enc : TypeId × Value → H} {P : Program} {W : World} {base : Nat} {spare : Nat → Bool} {held : Bool} {t : TypeId} {k : IntKind} {n : Nat} {c : Value} {o : Option (DataW H × List MemPlace)} (ht : P.underlying t = some (.int k))
    (h : DataW.trod enc P W base spare held n t [c] = o) (ho : o.isSome = true) : ∃ a, c = .int k a ∧ (Lit.int k a).wf = true := by
  cases o with
  | none => simp at ho
  | some x =>
    obtain ⟨a, hc, _, hw⟩ := DataW.trod_int ht h
    simp at hc
    exact ⟨a, hc, hw⟩
theorem bool_cell {H : Type} {enc : TypeId × Value → H} {P : Program} {W : World} {base : Nat} {spare : Nat → Bool} {held : Bool} {t : TypeId} {n : Nat} {c : Value} {o : Option (DataW H × List MemPlace)} (ht : P.underlying t = some .bool)
    (h : DataW.trod enc P W base spare held n t [c] = o) (ho : o.isSome = true) : ∃ a, c = .bool a := by
  cases o with
  | none => simp at ho
  | some x =>
    obtain ⟨a, hc, _⟩ := DataW.trod_bool ht h
    simp at hc
    exact ⟨a, hc⟩

theorem open_ask {H : Type} {enc : TypeId × Value → H} {W : World} {r : Reach} {base b0 : Nat} {spare : Nat → Bool} {held : Bool} {v : Value} {d : DataW H} {p : List MemPlace}
    (hv : Value.okWide Try.prog W r b0 26 v) (h : DataW.Trod enc Try.prog W base spare held 26 v d p) :
    ∃ (a0 a1 a2 a3 : Int) (a4 : Bool) (a5 a6 : Int), v = .agg #[.int .u8 a0, .int .i64 a1, .int .u8 a2, .int .u64 a3, .bool a4, .int .u8 a5, .int .u8 a6] ∧
      (Lit.int .u8 a0).wf = true ∧ (Lit.int .i64 a1).wf = true ∧ (Lit.int .u8 a2).wf = true ∧ (Lit.int .u64 a3).wf = true ∧ (Lit.int .u8 a5).wf = true ∧ (Lit.int .u8 a6).wf = true := by
  obtain ⟨cs, rfl, hsz⟩ := okWide_struct Try.underlying26 hv
  obtain ⟨l⟩ := cs
  obtain ⟨c0, c1, c2, c3, c4, c5, c6, rfl⟩ := list7 (l := l) (hsz.trans (by kernel_rfl))
  obtain ⟨fuel, hf⟩ := h
  obtain ⟨xs, n, _, _, _, hxs, hF⟩ := DataW.trod_struct Try.underlying26 hf
  have S : ∀ i, i < 7 → (xs[i]?).isSome = true := by
    intro i hi
    have : i < xs.length := by rw [hxs]; exact hi
    simp [this]
  obtain ⟨a0, rfl, w0⟩ := int_cell (k := .u8) (by kernel_rfl) (hF 0 _ rfl) (S 0 (by decide))
  obtain ⟨a1, rfl, w1⟩ := int_cell (k := .i64) (by kernel_rfl) (hF 1 _ rfl) (S 1 (by decide))
  obtain ⟨a2, rfl, w2⟩ := int_cell (k := .u8) (by kernel_rfl) (hF 2 _ rfl) (S 2 (by decide))
  obtain ⟨a3, rfl, w3⟩ := int_cell (k := .u64) (by kernel_rfl) (hF 3 _ rfl) (S 3 (by decide))
  obtain ⟨a4, rfl⟩ := bool_cell (by kernel_rfl) (hF 4 _ rfl) (S 4 (by decide))
  obtain ⟨a5, rfl, w5⟩ := int_cell (k := .u8) (by kernel_rfl) (hF 5 _ rfl) (S 5 (by decide))
  obtain ⟨a6, rfl, w6⟩ := int_cell (k := .u8) (by kernel_rfl) (hF 6 _ rfl) (S 6 (by decide))
  exact ⟨a0, a1, a2, a3, a4, a5, a6, rfl, w0, w1, w2, w3, w5, w6⟩
theorem wf_u8 {a : Int} (h : (Lit.int .u8 a).wf = true) : 0 ≤ a ∧ a < 256 := by
  simp [Lit.wf, show IntKind.u8.min = 0 from rfl, show IntKind.u8.max = 255 from rfl] at h; omega
theorem wf_u64 {a : Int} (h : (Lit.int .u64 a).wf = true) : 0 ≤ a ∧ a < 18446744073709551616 := by
  simp [Lit.wf, show IntKind.u64.min = 0 from rfl, show IntKind.u64.max = 18446744073709551615 from rfl] at h; omega
theorem wf_i64 {a : Int} (h : (Lit.int .i64 a).wf = true) : -9223372036854775808 ≤ a ∧ a < 9223372036854775808 := by
  simp [Lit.wf, show IntKind.i64.min = -9223372036854775808 from rfl, show IntKind.i64.max = 9223372036854775807 from rfl] at h; omega
end Go.Proofs.Ythfoffiebifpcaa
