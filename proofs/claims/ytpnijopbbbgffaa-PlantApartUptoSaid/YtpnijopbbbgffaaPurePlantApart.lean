/- A flush of one disk leaves what waits on another one waiting: the law's walk, as the row wants it. No condition but the bulk. -/
import Derived.Test.YtpnijopbbbgffaaOpsPlantApart
import Derived.Test.YtpnijopbbbgffaaPlantI
namespace Go.Proofs.Ytpnijopbbbgffaa.Pure
open Go.RowKit Go.Proofs.Ytpnijopbbbgffaa.plantw Go.Proofs.YtpnijopbbbgffaaW.PrintWords
theorem PlantApart : opsPlantApart.Pure2 := by
  intro a0 a1 h0 h1 _ w A0 c0 A1 c1 C0 _ C1 _
  have := apart_walk (c0 := c0) (c1 := c1) w (bytesIn h0 C0) (bytesIn h1 C1)
  rwa [toSec_len, toSec_len] at this
end Go.Proofs.Ytpnijopbbbgffaa.Pure
