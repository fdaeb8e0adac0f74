/- A plant is made just of disks that may be: the law's walk, as the row wants it. No condition but the bulk. -/
import Derived.Test.YtpnijopbbbgffaaOpsPlantMakes
import Derived.Test.YtpnijopbbbgffaaPlantI
namespace Go.Proofs.Ytpnijopbbbgffaa.Pure
open Go.RowKit Go.Proofs.Ytpnijopbbbgffaa.plantw Go.Proofs.YtpnijopbbbgffaaW.PrintWords Go.Proofs.Ytpnijopbbbgffaa.opens
theorem PlantMakes : opsPlantMakes.Pure2 := by
  intro a0 _ hb w A0 c0 C0 _
  have l0 : a0.length ≤ sumOf (fun _ => 1) a0 := sumOf_length (fun _ => 1) (fun _ => Nat.le_refl _) a0
  exact makes_walk w (by omega) (intsIn (c := c0) C0)
end Go.Proofs.Ytpnijopbbbgffaa.Pure
