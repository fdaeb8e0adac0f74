/- What a reading of the arguments of the law MessageForms gives, and the pure statement that is left of it. Conditions: as each says. -/
import Derived.Test.YtommklkihjmgcaaGreatDoorOpens
import Derived.Test.YtommklkihjmgcaaGreatDoorLForms
import Derived.Test.YtommklkihjmgcaaGreatDoorLaidX
namespace Go.Proofs.YtommklkihjmgcaaGreatDoor.opsMessageForms
open Go.RowKit Go.Proofs.YtommklkihjmgcaaGreatDoor.opens Go.Proofs.YtommklkihjmgcaaGreatDoorW.PrintWords

/-- What the walk of the law shows. -/
def Pure2 : Prop := ∀ (a0 : Int) (a1 : Int), ((Lit.int .i64 a0).wf = true) → ((Lit.int .i64 a1).wf = true) → 1 + 1 ≤ 1048576 → ∀ (w : World), Go.Proofs.YtommklkihjmgcaaGreatDoor.msgw.Tabs5 w →
  Calls Tryz.prog 12 #[.int .i64 a0, .int .i64 a1] w fun e w' => e = .returned (.bool true) ∧ Below w.heap.size w w'
end Go.Proofs.YtommklkihjmgcaaGreatDoor.opsMessageForms
