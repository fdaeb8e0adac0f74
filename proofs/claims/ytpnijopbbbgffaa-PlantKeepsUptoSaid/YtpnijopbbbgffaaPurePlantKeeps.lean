/- Each half of a sector has, behind a boot, what was flushed, or what a later write gave it: the law's walk, as the row wants it. No condition but the bulk. -/
import Derived.Test.YtpnijopbbbgffaaOpsPlantKeeps
import Derived.Test.YtpnijopbbbgffaaPlantI
namespace Go.Proofs.Ytpnijopbbbgffaa.Pure
open Go.RowKit Go.Proofs.Ytpnijopbbbgffaa.plantw Go.Proofs.YtpnijopbbbgffaaW.PrintWords Go.Proofs.Ytpnijopbbbgffaa.opens
theorem PlantKeeps : opsPlantKeeps.Pure2 := by
  intro a0 a1 a2 h0 h1 h2 hb w A0 c0 A1 c1 A2 c2 C0 _ C1 _ C2 _
  have l0 : a0.length ≤ sumOf (fun _ => 1) a0 := sumOf_length (fun _ => 1) (fun _ => Nat.le_refl _) a0
  have l1 : a1.length ≤ sumOf (fun _ => 1) a1 := sumOf_length (fun _ => 1) (fun _ => Nat.le_refl _) a1
  have := keeps_walk (c0 := c0) (c1 := c1) w (by rw [toSec_len]; omega) (by rw [toSec_len]; omega) (bytesIn h0 C0) (bytesIn h1 C1) (intsIn (c := c2) C2)
  rwa [toSec_len, toSec_len] at this
end Go.Proofs.Ytpnijopbbbgffaa.Pure
