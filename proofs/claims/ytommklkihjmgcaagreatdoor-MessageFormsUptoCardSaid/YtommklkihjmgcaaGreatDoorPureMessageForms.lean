/- Each dialect has the fields that the document says: the law's walk, as the row wants it. No condition but the bulk. -/
import Derived.Test.YtommklkihjmgcaaGreatDoorOpsMessageForms
import Derived.Test.YtommklkihjmgcaaGreatDoorLaidX
namespace Go.Proofs.YtommklkihjmgcaaGreatDoor.Pure
open Go.RowKit Go.Proofs.YtommklkihjmgcaaGreatDoor.msgw Go.Proofs.YtommklkihjmgcaaGreatDoorW.PrintWords Go.Proofs.YtommklkihjmgcaaGreatDoor.opens Go.Proofs.YtommklkihjmgcaaGreatDoor.msgp opsMessageForms
theorem MessageForms : opsMessageForms.Pure2 := by
  intro a0 a1 _ _ _ w hT
  exact forms_any hT a0 a1
end Go.Proofs.YtommklkihjmgcaaGreatDoor.Pure
