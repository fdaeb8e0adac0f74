/- What a reading of the arguments of the law FieldCodes gives, and the pure statement that is left of it. Conditions: as each says. -/
import Derived.Test.YtcgfbdleapjigaaOpens
import Derived.Test.YtcgfbdleapjigaaPFieldCodesx0
import Derived.Test.YtcgfbdleapjigaaFieldCodesW
namespace Go.Proofs.Ytcgfbdleapjigaa.opsFieldCodes
open Go.RowKit Go.Proofs.Ytcgfbdleapjigaa.opens Go.Proofs.YtcgfbdleapjigaaW.PrintWords Go.Proofs.Ytcgfbdleapjigaa.PFieldCodes

/-- What the walk of the law shows. -/
def Pure2 : Prop := ∀ (a0 : Int) (a1 : Int) (a2 : ByteArray), ((Lit.int .i64 a0).wf = true) → ((Lit.int .i64 a1).wf = true) → 1 + 1 + (a2.size + 1) ≤ 1048576 → ∀ (w : World),
  Calls Try.prog 10 #[.int .i64 a0, .int .i64 a1, .string a2] w fun e w' => e = .returned (.bool true) ∧ Below w.heap.size w w'
end Go.Proofs.Ytcgfbdleapjigaa.opsFieldCodes
