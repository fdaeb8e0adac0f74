/- Functions of the program as Lean functions, and that the Go code computes them. Written by a program of this session (wip/tools/mkprint.py, over the print of the kit), which takes some contracts from the session itself. Conditions: as each theorem says. -/
import Derived.Test.YtommklkihjmgcaaGreatDoorPMessageBackx0
namespace Go.Proofs.YtommklkihjmgcaaGreatDoor.PMessageBack
open Go.RowKit Go.Proofs.YtommklkihjmgcaaGreatDoorW.PrintWords Go.Proofs.YtommklkihjmgcaaGreatDoorW.PrintLast Go.Proofs.YtommklkihjmgcaaGreatDoorW.PrintMore
attribute [local go_sem] max2_int min2_int max_two min_two max_three min_three max_four min_four   -- for this text's walks alone
set_option linter.unusedVariables false
set_option linter.unusedSimpArgs false

theorem eqA28 (d : Nat) (w : World) (x0 y0 : Int) (x1 y1 : ByteArray) :
    (Op.equalIn (d + 2) 28 (.agg #[.int .i64 x0, .string x1]) (.agg #[.int .i64 y0, .string y1])).run Tryz.prog w = .ok (x0 == y0 && (x1.toList == y1.toList)) w := by
  refine eqA_of Tryz.underlying28 (by kernel_rfl) ?_
  refine eqf_cons (by rfl) (by go_simp; rfl) (by go_simp; rfl) (by go_simp) ?_
  exact eqf_last (by rfl) (by go_simp; rfl) (by go_simp; rfl) (by go_simp)
end Go.Proofs.YtommklkihjmgcaaGreatDoor.PMessageBack
