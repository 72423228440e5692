/- Part 23 of the proof. -/
import Derived.Test.YtgmhmpflmgfcdaaGreatDoorHq22
namespace Go.Proofs.YtgmhmpflmgfcdaaGreatDoor.PDivQuotients
open Go.RowKit Go.Proofs.YtgmhmpflmgfcdaaGreatDoorW.PrintWords Go.Proofs.YtgmhmpflmgfcdaaGreatDoorW.PrintLast Go.Proofs.YtgmhmpflmgfcdaaGreatDoorW.PrintMore
attribute [local go_sem] max2_int min2_int max_two min_two max_three min_three max_four min_four   -- for this text's walks alone
set_option linter.unusedVariables false
set_option linter.unusedSimpArgs false
theorem eqA87 (d : Nat) (w : World) (x0 y0 : Bool) (x1 y1 : ByteArray) (x2 y2 : ByteArray) (x3 y3 : Int) :
  (Op.equalIn (d + 2) 87 (.agg #[.bool x0, .string x1, .string x2, .int .i64 x3]) (.agg #[.bool y0, .string y1, .string y2, .int .i64 y3])).run Tryz.prog w = .ok (x0 == y0 && (x1.toList == y1.toList && (x2.toList == y2.toList && (x3 == y3)))) w := by
 refine eqA_of Tryz.underlying87 (by kernel_rfl) ?_
 refine eqf_cons (by rfl) (by go_simp; rfl) (by go_simp; rfl) (by go_simp) ?_
 refine eqf_cons (by rfl) (by go_simp; rfl) (by go_simp; rfl) (by go_simp) ?_
 refine eqf_cons (by rfl) (by go_simp; rfl) (by go_simp; rfl) (by go_simp) ?_
 exact eqf_last (by rfl) (by go_simp; rfl) (by go_simp; rfl) (by go_simp)
end Go.Proofs.YtgmhmpflmgfcdaaGreatDoor.PDivQuotients
