/- A member is told that it is in balance just if it states what the book says: the law's walk, as the row wants it. No condition but the bulk. -/
import Derived.Test.YtjndfmpicnkplaaDoorOpsReconBalance
import Derived.Test.YtjndfmpicnkplaaDoorRecK
namespace Go.Proofs.YtjndfmpicnkplaaDoor.Pure
open Go.RowKit Go.Proofs.YtjndfmpicnkplaaDoor.msgw Go.Proofs.YtjndfmpicnkplaaDoorW.PrintWords Go.Proofs.YtjndfmpicnkplaaDoor.opens Go.Proofs.YtjndfmpicnkplaaDoor.msgp opsReconBalance
theorem okI_wf {a : Int} (h : (Lit.int .i64 a).wf = true) : okI a := by
  unfold okI
  simp [Lit.wf] at h
  have e1 : IntKind.i64.min = -9223372036854775808 := rfl
  have e2 : IntKind.i64.max = 9223372036854775807 := rfl
  omega
theorem ReconBalance : opsReconBalance.Pure2 := by
  intro a0 a1 a2 hG _ _ hb w A0 c0 C0 l0 hT
  have hl1 : a2.f1.length ≤ sumOf μ23 a2.f1 := sumOf_length μ23 (fun a => by unfold μ23; omega) a2.f1
  unfold μ25 μ28 at hb
  have h1 := rows_in z23 C0 (fun x => [.int .i64 x.f0, .int .i64 x.f1, .int .i64 x.f2, .int .i64 x.f3, .int .i64 x.f4, .int .i64 x.f5]) (fun a c h => by
    obtain ⟨c0, r0, rfl, rfl, c1, r1, rfl, rfl, c2, r2, rfl, rfl, c3, r3, rfl, rfl, c4, r4, rfl, rfl, q0⟩ := h; rw [show r4 = _ from q0]; rfl) (by decide) (fun _ => rfl)
  have hL : TotsAt w (.slice A0 a2.f1.length c0) (a2.f1.map fun x => (x.f0, x.f1, x.f2, x.f3, x.f4, x.f5)) := by
    refine ⟨by rw [List.length_map]; simp only [maxLen]; omega, A0, c0, by rw [List.length_map], fun i hi => ?_⟩
    obtain ⟨b, o, e, h⟩ := h1 i (by simpa using hi)
    refine ⟨b, o, e, ?_⟩
    rw [List.getElem_map]
    exact ⟨h 0 _ rfl, h 1 _ rfl, h 2 _ rfl, h 3 _ rfl, h 4 _ rfl, h 5 _ rfl⟩
  obtain ⟨_, _, _, _, g1, g2, g3, g4, g5⟩ := hG
  exact bal_any hT hL a0.f0 a0.f1 a0.f2 a0.f3.f0 a0.f3.f1 a0.f3.f2 a0.f3.f3 a0.f3.f4 a0.f3.f5 (by omega) (by omega) (by omega) (okI_wf g1) (okI_wf g2) (okI_wf g3) (okI_wf g4) (okI_wf g5) a1 a2.f0
end Go.Proofs.YtjndfmpicnkplaaDoor.Pure
