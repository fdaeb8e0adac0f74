/- A write whose first half is kept, and one whose last half is kept, are together the whole write, and what was flushed: the law's walk, as the row wants it. No condition but the bulk. -/
import Derived.Test.YtpnijopbbbgffaaOpsPlantHalves
import Derived.Test.YtpnijopbbbgffaaPlantI
namespace Go.Proofs.Ytpnijopbbbgffaa.Pure
open Go.RowKit Go.Proofs.Ytpnijopbbbgffaa.plantw Go.Proofs.YtpnijopbbbgffaaW.PrintWords
theorem PlantHalves : opsPlantHalves.Pure2 := by
  intro a0 a1 h0 h1 _ w A0 c0 A1 c1 C0 _ C1 _
  have := halves_walk (c0 := c0) (c1 := c1) w (bytesIn h0 C0) (bytesIn h1 C1)
  rwa [toSec_len, toSec_len] at this
end Go.Proofs.Ytpnijopbbbgffaa.Pure
