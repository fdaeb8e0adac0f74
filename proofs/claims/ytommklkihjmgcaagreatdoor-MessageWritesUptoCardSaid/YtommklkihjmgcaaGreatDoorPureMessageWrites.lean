/- Any message is held, and written in each dialect, as the document says: the law's walk, as the row wants it. No condition but the bulk. -/
import Derived.Test.YtommklkihjmgcaaGreatDoorOpsMessageWrites
import Derived.Test.YtommklkihjmgcaaGreatDoorArgs
namespace Go.Proofs.YtommklkihjmgcaaGreatDoor.Pure
open Go.RowKit Go.Proofs.YtommklkihjmgcaaGreatDoor.msgw Go.Proofs.YtommklkihjmgcaaGreatDoorW.PrintWords Go.Proofs.YtommklkihjmgcaaGreatDoor.opens Go.Proofs.YtommklkihjmgcaaGreatDoor.msgp opsMessageWrites
theorem MessageWrites : opsMessageWrites.Pure2 := by
  intro a0 a1 _ _ hb w A0 c0 C0 l0 hT
  unfold μ24 at hb
  have hl0 : a1.f1.length ≤ sumOf μ28 a1.f1 := sumOf_length μ28 (fun a => by unfold μ28; omega) a1.f1
  have hr0 := rows_in z28 C0 (fun x => [.int .i64 x.f0, .string x.f1]) (fun a c h => by obtain ⟨c0, r0, rfl, rfl, q0⟩ := h; rw [show r0 = _ from q0]; rfl) (by decide) (fun _ => rfl)
  have hF0 : FsAt w (.slice A0 a1.f1.length c0) (a1.f1.map fun x => (x.f0, x.f1)) := by
    refine ⟨by rw [List.length_map]; simp only [maxLen]; omega, A0, c0, by rw [List.length_map], by rw [List.length_map]; exact l0, fun i hi => ?_⟩
    obtain ⟨b, o, e, h⟩ := hr0 i (by simpa using hi)
    refine ⟨b, o, e, ?_, ?_⟩
    · rw [List.getElem_map]
      exact h 0 _ rfl
    · rw [List.getElem_map]
      exact h 1 _ rfl
  have hS0 : ∀ x ∈ (a1.f1.map fun x => (x.f0, x.f1)), x.2.size ≤ 1048576 := fun x hx => by
    obtain ⟨y, hy, rfl⟩ := List.mem_map.1 hx
    have := sumOf_mem μ28 hy
    unfold μ28 at this hb
    show y.f1.size ≤ _
    omega
  have hB0 : ∀ x ∈ (a1.f1.map fun x => (x.f0, x.f1)), x.2.size ≤ 100000000 := fun x hx => Nat.le_trans (hS0 x hx) (by decide)
  exact msgr.writes_any hF0 hT hS0 (by rw [List.length_map]; omega) a0 a1.f0
end Go.Proofs.YtommklkihjmgcaaGreatDoor.Pure
