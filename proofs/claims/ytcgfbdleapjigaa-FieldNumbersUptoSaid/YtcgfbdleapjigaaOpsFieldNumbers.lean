/- What a reading of the arguments of the law FieldNumbers gives, and the pure statement that is left of it. Conditions: as each says. -/
import Derived.Test.YtcgfbdleapjigaaOpens
import Derived.Test.YtcgfbdleapjigaaPFieldNumbersx3
namespace Go.Proofs.Ytcgfbdleapjigaa.opsFieldNumbers
open Go.RowKit Go.Proofs.Ytcgfbdleapjigaa.opens Go.Proofs.YtcgfbdleapjigaaW.PrintWords Go.Proofs.Ytcgfbdleapjigaa.PFieldNumbers

def Pure2 : Prop := ∀ (a0 : ByteArray) (a1 : Int) (a2 : Int), ((Lit.int .i64 a1).wf = true) → ((Lit.int .i64 a2).wf = true) → (a0.size + 1) + 1 + 1 ≤ 1048576 → ∃ k, groatlaw04_FieldNumbers.f k a0 a1 a2 = some true
end Go.Proofs.Ytcgfbdleapjigaa.opsFieldNumbers
