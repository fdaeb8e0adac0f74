/- Any bytes are read as a field, or refused, as the document says: the law's walk, as the row wants it. No condition but the bulk. -/
import Derived.Test.YtcgfbdleapjigaaOpsFieldTakes
namespace Go.Proofs.Ytcgfbdleapjigaa.Pure
open Go.RowKit Go.Proofs.Ytcgfbdleapjigaa.opens Go.Proofs.Ytcgfbdleapjigaa.fieldp Go.Proofs.Ytcgfbdleapjigaa.fieldl Go.Proofs.Ytcgfbdleapjigaa.fieldw
theorem FieldTakes : opsFieldTakes.Pure2 := by
  intro b f hb1 _ hb w A c hC hc
  have hlen : b.length ≤ 1048576 := by
    have : b.length ≤ sumOf (fun _ => 1) b := sumOf_length (fun _ => 1) (fun _ => Nat.le_refl _) b
    omega
  have hnum : nums8 (strOfNums b).data.toList = b := nums_str fun a ha => by
    have := hb1 a ha
    simp [Lit.wf] at this
    have e1 : IntKind.u8.min = 0 := rfl
    have e2 : IntKind.u8.max = 255 := rfl
    omega
  have hsz : (strOfNums b).data.toList.length ≤ 1048576 := by rw [strOf_len]; exact hlen
  have h := takes_law f.f0 f.f1 f.f2 A c (strOfNums b).data.toList hsz w (by rw [hnum]; exact hC) (by rw [hnum]; exact hc)
  rw [hnum] at h
  exact h
end Go.Proofs.Ytcgfbdleapjigaa.Pure
