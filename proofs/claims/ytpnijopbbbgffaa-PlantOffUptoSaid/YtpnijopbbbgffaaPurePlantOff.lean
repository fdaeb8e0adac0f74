/- While the power is off nothing can be read, written, flushed, and nothing changes: the law's walk, as the row wants it. No condition but the bulk. -/
import Derived.Test.YtpnijopbbbgffaaOpsPlantOff
import Derived.Test.YtpnijopbbbgffaaPlantI
namespace Go.Proofs.Ytpnijopbbbgffaa.Pure
open Go.RowKit Go.Proofs.Ytpnijopbbbgffaa.plantw Go.Proofs.YtpnijopbbbgffaaW.PrintWords Go.Proofs.Ytpnijopbbbgffaa.opens
theorem PlantOff : opsPlantOff.Pure2 := by
  intro a0 a1 h0 h1 hb w A0 c0 C0 _
  have hlen : a0.length ≤ 1048576 := by
    have : a0.length ≤ sumOf (fun _ => 1) a0 := sumOf_length (fun _ => 1) (fun _ => Nat.le_refl _) a0
    omega
  have hi : IntKind.i64.min ≤ a1 ∧ a1 ≤ IntKind.i64.max := by simpa [Lit.wf] using h1
  have := off_walk (c := c0) w (n := a1) hi (by rw [toSec_len]; exact hlen) (bytesIn h0 C0)
  rwa [toSec_len] at this
end Go.Proofs.Ytpnijopbbbgffaa.Pure
