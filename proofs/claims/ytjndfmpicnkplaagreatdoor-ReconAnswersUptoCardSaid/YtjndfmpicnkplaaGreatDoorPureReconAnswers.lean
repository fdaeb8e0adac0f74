/- Any message is read, and answered, as the document says: the law's walk, as the row wants it. No condition but the bulk. -/
import Derived.Test.YtjndfmpicnkplaaGreatDoorOpsReconAnswers
import Derived.Test.YtjndfmpicnkplaaGreatDoorRecJ
namespace Go.Proofs.YtjndfmpicnkplaaGreatDoor.Pure
open Go.RowKit Go.Proofs.YtjndfmpicnkplaaGreatDoor.msgw Go.Proofs.YtjndfmpicnkplaaGreatDoorW.PrintWords Go.Proofs.YtjndfmpicnkplaaGreatDoor.opens Go.Proofs.YtjndfmpicnkplaaGreatDoor.msgp opsReconAnswers
theorem ReconAnswers : opsReconAnswers.Pure2 := by
  intro a0 a1 a2 _ _ _ hb w A0 c0 A1 c1 C0 l0 C1 l1 hT
  have hl0 : a0.f1.length ≤ sumOf μ43 a0.f1 := sumOf_length μ43 (fun a => by unfold μ43; omega) a0.f1
  have hl1 : a2.f1.length ≤ sumOf μ23 a2.f1 := sumOf_length μ23 (fun a => by unfold μ23; omega) a2.f1
  unfold μ29 μ37 at hb
  have h0 := rows_in z43 C0 (fun x => [.int .i64 x.f0, .string x.f1]) (fun a c h => by obtain ⟨c0, r0, rfl, rfl, q0⟩ := h; rw [show r0 = _ from q0]; rfl) (by decide) (fun _ => rfl)
  have h1 := rows_in z23 C1 (fun x => [.int .i64 x.f0, .int .i64 x.f1, .int .i64 x.f2, .int .i64 x.f3, .int .i64 x.f4, .int .i64 x.f5]) (fun a c h => by
    obtain ⟨c0, r0, rfl, rfl, c1, r1, rfl, rfl, c2, r2, rfl, rfl, c3, r3, rfl, rfl, c4, r4, rfl, rfl, q0⟩ := h; rw [show r4 = _ from q0]; rfl) (by decide) (fun _ => rfl)
  have hF : FsAt w (.slice A0 a0.f1.length c0) (a0.f1.map fun x => (x.f0, x.f1)) := by
    refine ⟨by rw [List.length_map]; simp only [maxLen]; omega, A0, c0, by rw [List.length_map], by rw [List.length_map]; exact l0, fun i hi => ?_⟩
    obtain ⟨b, o, e, h⟩ := h0 i (by simpa using hi)
    refine ⟨b, o, e, ?_, ?_⟩
    · rw [List.getElem_map]
      exact h 0 _ rfl
    · rw [List.getElem_map]
      exact h 1 _ rfl
  have hL : TotsAt w (.slice A1 a2.f1.length c1) (a2.f1.map fun x => (x.f0, x.f1, x.f2, x.f3, x.f4, x.f5)) := by
    refine ⟨by rw [List.length_map]; simp only [maxLen]; omega, A1, c1, by rw [List.length_map], fun i hi => ?_⟩
    obtain ⟨b, o, e, h⟩ := h1 i (by simpa using hi)
    refine ⟨b, o, e, ?_⟩
    rw [List.getElem_map]
    exact ⟨h 0 _ rfl, h 1 _ rfl, h 2 _ rfl, h 3 _ rfl, h 4 _ rfl, h 5 _ rfl⟩
  have hS : ∀ x ∈ (a0.f1.map fun x => (x.f0, x.f1)), x.2.size ≤ 1048576 := fun x hx => by
    obtain ⟨y, hy, rfl⟩ := List.mem_map.1 hx
    have := sumOf_mem μ43 hy
    unfold μ43 at this hb
    show y.f1.size ≤ _
    omega
  exact answers_any PureReconAnswers.refReadOk PureReconAnswers.refAnswerOk PureReconAnswers.sameOk hF hT hS (by rw [List.length_map]; omega) hL (fun p n c e => by cases e; exact l1) (by rw [List.length_map]; omega) a0.f0 a1 a2.f0
end Go.Proofs.YtjndfmpicnkplaaGreatDoor.Pure
