/- Layer 5: Form, for any dialect, and its reference. Conditions: as each theorem says. -/
import Derived.Test.YtommklkihjmgcaaGreatDoorRForm
import Derived.Test.YtommklkihjmgcaaGreatDoorLawX
namespace Go.Proofs.YtommklkihjmgcaaGreatDoor.msgw
open Go.RowKit Go.Proofs.YtommklkihjmgcaaGreatDoorW.PrintWords Go.Proofs.YtommklkihjmgcaaGreatDoorW.PrintLast Go.Proofs.YtommklkihjmgcaaGreatDoor.PMessageBack Go.Proofs.YtommklkihjmgcaaGreatDoor.msgp Go.Proofs.YtommklkihjmgcaaGreatDoor.buf Go.Proofs.YtommklkihjmgcaaGreatDoor.fieldp Go.Proofs.YtommklkihjmgcaaGreatDoor.fieldw
theorem ref_there (no : Int) (k : Nat) (hk : 10 < k) : groatref05_there.f k no = some (match formF no 0 with | none => (0, 0) | some x => x) := by
  obtain ⟨k, rfl⟩ : ∃ m, k = m + 4 := ⟨k - 4, by omega⟩
  by_cases h : no = 2 ∨ no = 3 ∨ no = 4 ∨ no = 7 ∨ no = 11 ∨ no = 32 ∨ no = 38 ∨ no = 39 ∨ no = 49 ∨ no = 64 ∨ no = 70 ∨ no = 74 ∨ no = 76 ∨ no = 86 ∨ no = 88 ∨ no = 90 ∨ no = 97
  · rcases h with rfl | rfl | rfl | rfl | rfl | rfl | rfl | rfl | rfl | rfl | rfl | rfl | rfl | rfl | rfl | rfl | rfl <;> rfl
  · simp only [not_or] at h
    obtain ⟨h1, h2, h3, h4, h5, h6, h7, h8, h9, h10, h11, h12, h13, h14, h15, h16, h17⟩ := h
    have hf : formF no 0 = none := by
      unfold formF fieldAt
      have hl : fieldsL.findIdx (fun x => decide (x.1 = no)) = 17 := by
        simp [fieldsL, List.findIdx_cons, Ne.symm h1, Ne.symm h2, Ne.symm h3, Ne.symm h4, Ne.symm h5, Ne.symm h6, Ne.symm h7, Ne.symm h8, Ne.symm h9, Ne.symm h10, Ne.symm h11, Ne.symm h12, Ne.symm h13, Ne.symm h14, Ne.symm h15, Ne.symm h16, Ne.symm h17]
      rw [dif_neg (by rw [hl]; decide)]
    rw [hf]
    simp [groatref05_there.f, groatref05_there.j0, groatref05_there.j1, groatref05_there.j2, groatref05_there.j3, h1, h2, h3, h4, h5, h6, h7, h8, h9, h10, h11, h12, h13, h14, h15, h16, h17]
theorem form_kind (no out : Int) (x : Int × Int) (h : formF no out = some x) : x.1 ≠ 0 := by
  unfold formF at h
  split at h
  · rename_i h17
    obtain rfl := Option.some.inj h
    have := fields_small (fieldAt no) h17
    show fieldsL[fieldAt no].2.1 ≠ 0
    omega
  · cases h
/-- What Form answers. -/
def formA (d no : Int) : Int × Int × Int × Int := if 1 ≤ d ∧ d ≤ 3 then (match formF no (dia d).2.2 with | none => (0, 0, 0, 52) | some x => (x.1, x.2, (dia d).1, 0)) else (0, 0, 0, 50)
theorem formF_no4 {no : Int} (h : no ≠ 4) (a b : Int) : formF no a = formF no b := by simp [formF, h]
theorem ref_form (d no : Int) (k : Nat) (hk : 20 < k) : groatref05_Form.f k d no = some (formA d no) := by
  obtain ⟨k, rfl⟩ : ∃ m, k = m + 1 := ⟨k - 1, by omega⟩
  unfold groatref05_Form.f formA
  by_cases h1 : d < 1
  · rw [if_pos h1, if_neg (by omega), groatref05_Form.j0, if_pos rfl]
  · rw [if_neg h1]
    by_cases h3 : d > 3
    · rw [if_neg (by omega), groatref05_Form.j0, if_pos (by simpa using h3)]
    · rw [if_pos (by omega), groatref05_Form.j0, if_neg (by simpa using h3), ref_there no k (by omega), Option.bind_some]
      by_cases h4 : no = 4
      · subst h4
        rw [form4, form4]
        have : d = 1 ∨ d = 2 ∨ d = 3 := by omega
        rcases this with rfl | rfl | rfl <;> rfl
      · rw [formF_no4 h4 (dia d).2.2 0]
        cases hf : formF no 0 with
        | none => rfl
        | some x =>
          simp only
          rw [if_neg (form_kind no 0 x hf)]
          have : d = 1 ∨ d = 2 ∨ d = 3 := by omega
          rcases this with rfl | rfl | rfl
          · rfl
          · rfl
          · rw [if_pos rfl, if_neg h4]; rfl
theorem refform_any {w : World} (d no : Int) : Calls Tryz.prog 26 #[.int .i64 d, .int .i64 no] w fun e w' => e = .returned (.tuple #[.agg #[.int .i64 (formA d no).1, .int .i64 (formA d no).2.1, .int .i64 (formA d no).2.2.1], .int .i64 (formA d no).2.2.2]) ∧ Below w.heap.size w w' :=
  groatref05_Form.calls 30 d no _ _ _ _ w (ref_form d no 30 (by decide))
def formW (code : Int) : Option (Int × Int) → Value
  | none => .tuple #[.agg #[.int .i64 0, .int .i64 0, .int .i64 0], .int .i64 52]
  | some (k, s) => .tuple #[.agg #[.int .i64 k, .int .i64 s, .int .i64 code], .int .i64 0]
end Go.Proofs.YtommklkihjmgcaaGreatDoor.msgw
