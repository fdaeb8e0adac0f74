/- The three codes say the same: the law's walk, as the row wants it. No condition but the bulk. -/
import Derived.Test.YtcgfbdleapjigaaOpsFieldCodes
namespace Go.Proofs.Ytcgfbdleapjigaa.Pure
open Go.RowKit Go.Proofs.Ytcgfbdleapjigaa.opens
theorem FieldCodes : opsFieldCodes.Pure2 := by
  intro a b s _ _ hb w
  exact fieldw.codes_law a b s (by omega) w
end Go.Proofs.Ytcgfbdleapjigaa.Pure
