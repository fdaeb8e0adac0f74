/- No two texts have the same bytes in a form: the plain law. No condition but the bulk. -/
import Derived.Test.YtcgfbdleapjigaaOpsFieldUnlike
import Derived.Test.YtcgfbdleapjigaaFieldLaw2
namespace Go.Proofs.Ytcgfbdleapjigaa.Pure
open Go.RowKit Go.Proofs.Ytcgfbdleapjigaa.opens Go.Proofs.YtcgfbdleapjigaaW.PrintWords Go.Proofs.Ytcgfbdleapjigaa.PFieldUnlike Go.Proofs.Ytcgfbdleapjigaa.fieldp Go.Proofs.Ytcgfbdleapjigaa.fieldw Go.Proofs.Ytcgfbdleapjigaa.fieldl

theorem put_of (k n c : Int) (a : ByteArray) (h : a.size ≤ 1048576) : field_Put.f [] k n c a = some (putR [] k n c a) := by
  unfold field_Put.f
  rw [if_pos ⟨by simp, by omega⟩]

theorem FieldUnlike : opsFieldUnlike.Pure2 := by
  intro f a b _ hb
  unfold groatlaw04_FieldUnlike.f
  rw [put_of _ _ _ a (by omega), put_of _ _ _ b (by omega)]
  simp only [groatlaw04_shown.f, Option.bind_some, if_true]
  by_cases h1 : (putR [] f.f0 f.f1 f.f2 a).2 = 0
  · rw [if_pos h1]
    by_cases h2 : (putR [] f.f0 f.f1 f.f2 b).2 = 0
    · rw [if_pos h2]
      obtain ⟨c1, p1⟩ := putR_zero h1
      obtain ⟨c2, p2⟩ := putR_zero h2
      rw [p1, p2]
      simp only [List.nil_append, str_nums, ByteArray.toList_eq]
      have hiff : (putBytes f.f0 f.f2 a.data.toList = putBytes f.f0 f.f2 b.data.toList) ↔ a.data.toList = b.data.toList := by
        constructor
        · intro he
          have b1 := back (fit_of c1) []
          have b2 := back (fit_of c2) []
          rw [he] at b1
          rw [b1] at b2
          exact (Prod.mk.inj b2).1
        · intro he; rw [he]
      by_cases he : a.data.toList = b.data.toList
      · rw [he]; simp
      · have hne : ¬ putBytes f.f0 f.f2 a.data.toList = putBytes f.f0 f.f2 b.data.toList := fun h => he (hiff.1 h)
        rw [beq_eq_false_iff_ne.2 he, beq_eq_false_iff_ne.2 hne]
        rfl
    · rw [if_neg h2]
  · rw [if_neg h1]
end Go.Proofs.Ytcgfbdleapjigaa.Pure
