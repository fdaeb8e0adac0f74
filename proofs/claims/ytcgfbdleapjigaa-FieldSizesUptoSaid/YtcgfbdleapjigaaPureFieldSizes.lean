/- A field's bytes are as many as its form says: the plain law. No condition but the bulk. -/
import Derived.Test.YtcgfbdleapjigaaOpsFieldSizes
import Derived.Test.YtcgfbdleapjigaaFieldLaw2
namespace Go.Proofs.Ytcgfbdleapjigaa.Pure
open Go.RowKit Go.Proofs.Ytcgfbdleapjigaa.opens Go.Proofs.YtcgfbdleapjigaaW.PrintWords Go.Proofs.Ytcgfbdleapjigaa.PFieldSizes Go.Proofs.Ytcgfbdleapjigaa.fieldp Go.Proofs.Ytcgfbdleapjigaa.fieldw Go.Proofs.Ytcgfbdleapjigaa.fieldl

theorem put_of (k n c : Int) (a : ByteArray) (h : a.size ≤ 1048576) : field_Put.f [] k n c a = some (putR [] k n c a) := by
  unfold field_Put.f
  rw [if_pos ⟨by simp, by omega⟩]

theorem FieldSizes : opsFieldSizes.Pure2 := by
  intro f a b _ hb
  refine ⟨0 + 1, ?_⟩
  unfold groatlaw04_FieldSizes.f
  rw [put_of _ _ _ a (by omega), put_of _ _ _ b (by omega)]
  simp only [groatlaw04_shown.f, Option.bind_some, if_true]
  by_cases h1 : (putR [] f.f0 f.f1 f.f2 a).2 = 0
  · rw [if_pos h1]
    by_cases h2 : (putR [] f.f0 f.f1 f.f2 b).2 = 0
    · have e : ((putR [] f.f0 f.f1 f.f2 b).2 != 0) = false := by simp [h2]
      rw [e]
      obtain ⟨c1, p1⟩ := putR_zero h1
      obtain ⟨c2, p2⟩ := putR_zero h2
      have l1 := bytes_len (fit_of c1)
      have l2 := bytes_len (fit_of c2)
      rw [groatlaw04_FieldSizes.j0]
      rw [if_neg (by simp), p1, p2]
      simp only [List.nil_append, nums8, List.length_map]
      rw [l1, l2, size_list, size_list]
      by_cases hk : f.f0 = 2
      · rw [if_pos hk]
        by_cases hs : (a.size : Int) = b.size
        · rw [if_pos hs, hs]
          simp
        · rw [if_neg hs]
      · rw [if_neg hk]
        have : bytesN f.f0 f.f1 f.f2 a.size = bytesN f.f0 f.f1 f.f2 b.size := by
          unfold bytesN
          rw [if_neg hk, if_neg hk]
        rw [this]
        simp
    · have e : ((putR [] f.f0 f.f1 f.f2 b).2 != 0) = true := by simpa using h2
      rw [e]
      rw [groatlaw04_FieldSizes.j0]
      rw [if_pos rfl]
  · rw [if_neg h1]
    rw [groatlaw04_FieldSizes.j0]
    rw [if_pos rfl]
end Go.Proofs.Ytcgfbdleapjigaa.Pure
