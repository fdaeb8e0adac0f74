/- Bytes that are taken are those that the text is put as: the plain law. No condition but the bulk. -/
import Derived.Test.YtcgfbdleapjigaaOpsFieldOne
import Derived.Test.YtcgfbdleapjigaaFieldLaw2
namespace Go.Proofs.Ytcgfbdleapjigaa.Pure
open Go.RowKit Go.Proofs.Ytcgfbdleapjigaa.opens Go.Proofs.YtcgfbdleapjigaaW.PrintWords Go.Proofs.Ytcgfbdleapjigaa.PFieldOne Go.Proofs.Ytcgfbdleapjigaa.fieldp Go.Proofs.Ytcgfbdleapjigaa.fieldw Go.Proofs.Ytcgfbdleapjigaa.fieldl

theorem put_of (k n c : Int) (a : ByteArray) (h : a.size ≤ 1048576) : field_Put.f [] k n c a = some (putR [] k n c a) := by
  unfold field_Put.f
  rw [if_pos ⟨by simp, by omega⟩]

theorem FieldOne : opsFieldOne.Pure2 := by
  intro b f hb _ hs
  refine ⟨0 + 1, ?_⟩
  have hlen : b.length ≤ 1048576 := by
    have : b.length ≤ sumOf (fun _ => 1) b := sumOf_length (fun _ => 1) (fun _ => Nat.le_refl _) b
    omega
  have ht : field_Take.f b f.f0 f.f1 f.f2 = some (takeR b f.f0 f.f1 f.f2) := by
    unfold field_Take.f
    rw [if_pos (by omega)]
  unfold groatlaw04_FieldOne.f
  rw [ht]
  simp only [groatlaw04_shown.f, Option.bind_some, if_true]
  by_cases h : (takeR b f.f0 f.f1 f.f2).2.2 = 0
  · have e : ((takeR b f.f0 f.f1 f.f2).2.2 != 0) = false := by simp [h]
    rw [e]
    obtain ⟨c1, p1⟩ := takeR_zero h
    generalize takeR b f.f0 f.f1 f.f2 = T at c1 p1 ⊢
    obtain ⟨s, rest, e1⟩ := T
    simp only at c1 p1 ⊢
    have hl := congrArg List.length p1
    rw [List.length_append, strOf_len, strOf_len] at hl
    have hss : s.size ≤ 1048576 := by
      have f1 := (fit_of c1).1
      have := fit_size (fit_of c1)
      rw [size_list] at this
      omega
    rw [groatlaw04_FieldOne.j0]
    rw [if_neg (by simp), put_of _ _ _ s hss, putR_of [] c1]
    simp only [Option.bind_some, if_true, List.nil_append, str_nums]
    rw [if_pos (by rw [size_arr, strOfNums_size]; omega), if_pos (by rw [ByteArray.toList_eq, ByteArray.toList_eq, p1]; simp)]
    unfold field_Check.f
    rw [if_pos (by omega), c1]
    rfl
  · have e : ((takeR b f.f0 f.f1 f.f2).2.2 != 0) = true := by simpa using h
    rw [e]
    obtain ⟨h1, h2⟩ := takeR_ne h
    rw [groatlaw04_FieldOne.j0]
    rw [if_pos rfl, if_pos rfl, h1, h2, if_pos (by rw [ByteArray.toList_eq])]
    rfl
end Go.Proofs.Ytcgfbdleapjigaa.Pure
