/- A number in digits is no less than another one just if its digits are none lower, and noughts ahead change no number: the plain law. No condition. -/
import Derived.Test.YtcgfbdleapjigaaPFieldAmountsx2
import Derived.Test.YtcgfbdleapjigaaFieldLaw3
namespace Go.Proofs.Ytcgfbdleapjigaa.Pure
open Go.RowKit Go.Proofs.Ytcgfbdleapjigaa.PFieldAmounts Go.Proofs.YtcgfbdleapjigaaW.PrintWords Go.Proofs.YtcgfbdleapjigaaW.PrintLast Go.Proofs.Ytcgfbdleapjigaa.fieldp Go.Proofs.Ytcgfbdleapjigaa.fieldl

theorem wf_i64 {a : Int} (h : (Lit.int .i64 a).wf = true) : -9223372036854775808 ≤ a ∧ a ≤ 9223372036854775807 := by
  simp [Lit.wf] at h
  have e1 : IntKind.i64.min = -9223372036854775808 := rfl
  have e2 : IntKind.i64.max = 9223372036854775807 := rfl
  omega
theorem dig_of (a s : Int) (h : (Lit.int .i64 a).wf = true) : field_Digits.f a s = some (digitsR a s) := by
  unfold field_Digits.f
  rw [if_pos (wf_i64 h)]
theorem digitsR_ne {a s : Int} (h : (digitsR a s).2 ≠ 0) : (digitsR a s).1 = ⟨#[]⟩ := by
  unfold digitsR at h ⊢
  split
  · rfl
  · rename_i h1
    rw [if_neg h1] at h
    split
    · rfl
    · rename_i h2
      rw [if_neg h2] at h
      exact absurd rfl h
theorem digitsR_zero {a s : Int} (h : (digitsR a s).2 = 0) : ∃ n k : Nat, a = n ∧ s = k ∧ 1 ≤ k ∧ k ≤ 18 ∧ n < 10 ^ k ∧ (digitsR a s).1 = ⟨(digL n k).toArray⟩ := by
  unfold digitsR at h ⊢
  split
  · rename_i h1
    rw [if_pos h1] at h
    cases h
  · rename_i h1
    rw [if_neg h1] at h
    split
    · rename_i h2
      rw [if_pos h2] at h
      cases h
    · rename_i h2
      refine ⟨a.toNat, s.toNat, by omega, by omega, by omega, by omega, ?_, rfl⟩
      have h3 : ¬ (10 : Int) ^ s.toNat ≤ a := fun h => h2 (.inr h)
      have h4 : a < ((10 ^ s.toNat : Nat) : Int) := by
        have : ((10 ^ s.toNat : Nat) : Int) = (10 : Int) ^ s.toNat := by push_cast; rfl
        omega
      omega
theorem empty_list : (⟨#[]⟩ : ByteArray).toList = [] := by rw [ByteArray.toList_eq]
theorem FieldAmounts : groatlaw04_FieldAmounts.Pure := by
  intro a b s ha hb hs
  refine ⟨0 + 1, ?_⟩
  unfold groatlaw04_FieldAmounts.f
  rw [dig_of a s ha, dig_of b s hb]
  simp only [groatlaw04_shown.f, Option.bind_some, if_true]
  by_cases h1 : (digitsR a s).2 = 0
  · rw [if_pos h1]
    by_cases h2 : (digitsR b s).2 = 0
    · have e : ((digitsR b s).2 != 0) = false := by simp [h2]
      obtain ⟨n, k, rfl, rfl, hk1, hk2, hn, hx⟩ := digitsR_zero h1
      obtain ⟨m, k', rfl, hkk, _, _, hm, hy⟩ := digitsR_zero h2
      have hkk' : k' = k := by omega
      subst hkk'
      rw [e, groatlaw04_FieldAmounts.j0, if_neg (by simp), hx, hy]
      have hz : (⟨(digL n k').toArray⟩ : ByteArray).size = k' := by
        rw [show (⟨(digL n k').toArray⟩ : ByteArray).size = (digL n k').length from by simp [ByteArray.size], digL_length]
      have hA : field_Amount.f ⟨(digL n k').toArray⟩ = some ((n : Int), 0) := by
        unfold field_Amount.f
        rw [if_pos (by omega)]
        rw [show (⟨(digL n k').toArray⟩ : ByteArray).data.toList = digL n k' from by simp, amount_digL hk1 hk2 hn]
      have hl : Op.bytesLess (digL n k') (digL m k') = decide ((n : Int) < (m : Int)) := by
        rw [less_digL k' n m hn hm]
        congr 1
        exact propext (by omega)
      have he : (digL n k' == digL m k') = ((n : Int) == (m : Int)) := by
        by_cases h : n = m
        · subst h; simp
        · have h' : digL n k' ≠ digL m k' := fun h2 => h (digL_eq hn hm h2)
          rw [beq_eq_false_iff_ne.2 h', beq_eq_false_iff_ne.2 (by omega)]
      rw [hA]
      simp only [Option.bind_some, ByteArray.toList_eq]
      by_cases h18 : (k' : Int) < 18
      · have hB : field_Amount.f ((⟨#[48]⟩ : ByteArray) ++ ⟨(digL n k').toArray⟩) = some ((n : Int), 0) := by
          unfold field_Amount.f
          rw [if_pos (by rw [ByteArray.size_append, hz]; show 1 + k' ≤ _; omega)]
          rw [show ((⟨#[48]⟩ : ByteArray) ++ ⟨(digL n k').toArray⟩).data.toList = 48 :: digL n k' from by simp, amount_zero (by omega) hn]
        rw [if_pos h18, if_pos (by omega), hB]
        simp only [Option.bind_some]
        rw [hl, beq_self_eq_true, if_pos rfl, he, beq_self_eq_true, if_pos rfl, if_pos trivial, if_pos trivial]
        rfl
      · rw [if_neg h18, hl, beq_self_eq_true, if_pos rfl, he, beq_self_eq_true, if_pos rfl, if_pos trivial]
        rfl
    · have e : ((digitsR b s).2 != 0) = true := by simpa using h2
      rw [e, groatlaw04_FieldAmounts.j0, if_pos rfl, if_pos rfl, if_pos h1, if_neg h2, digitsR_ne h2, empty_list]
      rfl
  · rw [if_neg h1, groatlaw04_FieldAmounts.j0, if_pos rfl, if_pos rfl, if_neg h1, digitsR_ne h1, if_pos empty_list]
    by_cases h2 : (digitsR b s).2 = 0
    · rw [if_pos h2]
    · rw [if_neg h2, digitsR_ne h2, empty_list]
      rfl
end Go.Proofs.Ytcgfbdleapjigaa.Pure
