/- A total is stated as the message that the document says, or refused: the law's walk, as the row wants it. No condition but the bulk. -/
import Derived.Test.YtjndfmpicnkplaaGreatDoorOpsReconAsks
import Derived.Test.YtjndfmpicnkplaaGreatDoorRecJ
namespace Go.Proofs.YtjndfmpicnkplaaGreatDoor.Pure
open Go.RowKit Go.Proofs.YtjndfmpicnkplaaGreatDoor.msgw Go.Proofs.YtjndfmpicnkplaaGreatDoorW.PrintWords Go.Proofs.YtjndfmpicnkplaaGreatDoor.opens Go.Proofs.YtjndfmpicnkplaaGreatDoor.msgp opsReconAsks
theorem okI_wf {a : Int} (h : (Lit.int .i64 a).wf = true) : okI a := by
  unfold okI
  simp [Lit.wf] at h
  have e1 : IntKind.i64.min = -9223372036854775808 := rfl
  have e2 : IntKind.i64.max = 9223372036854775807 := rfl
  omega
theorem ReconAsks : opsReconAsks.Pure2 := by
  intro a0 hG hb w hT
  unfold μ25 at hb
  obtain ⟨_, _, _, _, g1, g2, g3, g4, g5⟩ := hG
  exact PureReconAsks.asks_any hT a0.f0 a0.f1 a0.f2 a0.f3.f0 a0.f3.f1 a0.f3.f2 a0.f3.f3 a0.f3.f4 a0.f3.f5 (by omega) (by omega) (by omega) (okI_wf g1) (okI_wf g2) (okI_wf g3) (okI_wf g4) (okI_wf g5)
end Go.Proofs.YtjndfmpicnkplaaGreatDoor.Pure
