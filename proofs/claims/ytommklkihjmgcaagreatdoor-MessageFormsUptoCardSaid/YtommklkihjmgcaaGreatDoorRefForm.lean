/- Layer 5: Form, for any dialect, and its reference. Conditions: as each theorem says. -/
import Derived.Test.YtommklkihjmgcaaGreatDoorRForm
import Derived.Test.YtommklkihjmgcaaGreatDoorLawX
namespace Go.Proofs.YtommklkihjmgcaaGreatDoor.msgw
open Go.RowKit Go.Proofs.YtommklkihjmgcaaGreatDoorW.PrintWords Go.Proofs.YtommklkihjmgcaaGreatDoorW.PrintLast Go.Proofs.YtommklkihjmgcaaGreatDoor.PMessageBack Go.Proofs.YtommklkihjmgcaaGreatDoor.msgp Go.Proofs.YtommklkihjmgcaaGreatDoor.buf Go.Proofs.YtommklkihjmgcaaGreatDoor.fieldp Go.Proofs.YtommklkihjmgcaaGreatDoor.fieldw
theorem ref_there (no : Int) (k : Nat) (hk : 10 < k) : groatref05_there.f k no = some (match formF no 0 with | none => (0, 0) | some x => x) := by
  obtain ⟨k, rfl⟩ : ∃ m, k = m + 4 := ⟨k - 4, by omega⟩
  by_cases h : no = 2 ∨ no = 3 ∨ no = 4 ∨ no = 7 ∨ no = 11 ∨ no = 32 ∨ no = 38 ∨ no = 39 ∨ no = 49 ∨ no = 64 ∨ no = 70 ∨ no = 74 ∨ no = 76 ∨ no = 86 ∨ no = 88 ∨ no = 90 ∨ no = 97
  · rcases h with rfl | rfl | rfl | rfl | rfl | rfl | rfl | rfl | rfl | rfl | rfl | rfl | rfl | rfl | rfl | rfl | rfl <;> rfl
  · simp only [not_or] at h
    obtain ⟨h1, h2, h3, h4, h5, h6, h7, h8, h9, h10, h11, h12, h13, h14, h15, h16, h17⟩ := h
    have hf : formF no 0 = none := by
      unfold formF fieldAt
      have hl : fieldsL.findIdx (fun x => decide (x.1 = no)) = 17 := by
        simp [fieldsL, List.findIdx_cons, Ne.symm h1, Ne.symm h2, Ne.symm h3, Ne.symm h4, Ne.symm h5, Ne.symm h6, Ne.symm h7, Ne.symm h8, Ne.symm h9, Ne.symm h10, Ne.symm h11, Ne.symm h12, Ne.symm h13, Ne.symm h14, Ne.symm h15, Ne.symm h16, Ne.symm h17]
      rw [dif_neg (by rw [hl]; decide)]
    rw [hf]
    simp [groatref05_there.f, groatref05_there.j0, groatref05_there.j1, groatref05_there.j2, groatref05_there.j3, h1, h2, h3, h4, h5, h6, h7, h8, h9, h10, h11, h12, h13, h14, h15, h16, h17]
theorem form_kind (no out : Int) (x : Int × Int) (h : formF no out = some x) : x.1 ≠ 0 := by
  unfold formF at h
  split at h
  · rename_i h17
    obtain rfl := Option.some.inj h
    have := fields_small (fieldAt no) h17
    show fieldsL[fieldAt no].2.1 ≠ 0
    omega
  · cases h
/-- What Form answers. -/
def formA (d no : Int) : Int × Int × Int × Int := if 1 ≤ d ∧ d ≤ 3 then (match formF no (dia d).2.2 with | none => (0, 0, 0, 52) | some x => (x.1, x.2, (dia d).1, 0)) else (0, 0, 0, 50)
theorem formF_no4 {no : Int} (h : no ≠ 4) (a b : Int) : formF no a = formF no b := by simp [formF, h]
theorem ref_form (d no : Int) (k : Nat) (hk : 20 < k) : groatref05_Form.f k d no = some (formA d no) := by
  obtain ⟨k, rfl⟩ : ∃ m, k = m + 1 := ⟨k - 1, by omega⟩
  unfold groatref05_Form.f formA
  by_cases h1 : d < 1
  · rw [if_pos h1, if_neg (by omega), groatref05_Form.j0, if_pos rfl]
  · rw [if_neg h1]
    by_cases h3 : d > 3
    · rw [if_neg (by omega), groatref05_Form.j0, if_pos (by simpa using h3)]
    · rw [if_pos (by omega), groatref05_Form.j0, if_neg (by simpa using h3), ref_there no k (by omega), Option.bind_some]
      by_cases h4 : no = 4
      · subst h4
        rw [form4, form4]
        have : d = 1 ∨ d = 2 ∨ d = 3 := by omega
        rcases this with rfl | rfl | rfl <;> rfl
      · rw [formF_no4 h4 (dia d).2.2 0]
        cases hf : formF no 0 with
        | none => rfl
        | some x =>
          simp only
          rw [if_neg (form_kind no 0 x hf)]
          have : d = 1 ∨ d = 2 ∨ d = 3 := by omega
          rcases this with rfl | rfl | rfl
          · rfl
          · rfl
          · rw [if_pos rfl, if_neg h4]; rfl
theorem refform_any {w : World} (d no : Int) : Calls Tryz.prog 26 #[.int .i64 d, .int .i64 no] w fun e w' => e = .returned (.tuple #[.agg #[.int .i64 (formA d no).1, .int .i64 (formA d no).2.1, .int .i64 (formA d no).2.2.1], .int .i64 (formA d no).2.2.2]) ∧ Below w.heap.size w w' :=
  groatref05_Form.calls 30 d no _ _ _ _ w (ref_form d no 30 (by decide))
def formW (code : Int) : Option (Int × Int) → Value
  | none => .tuple #[.agg #[.int .i64 0, .int .i64 0, .int .i64 0], .int .i64 52]
  | some (k, s) => .tuple #[.agg #[.int .i64 k, .int .i64 s, .int .i64 code], .int .i64 0]
set_option maxHeartbeats 1000000 in
set_option maxRecDepth 100000 in
theorem form_in {w : World} (hT : Tabs w) (d no : Int) (hd : 1 ≤ d ∧ d ≤ 3) :
    Calls Tryz.prog 25 #[.int .i64 d, .int .i64 no] w fun e w' => e = .returned (formW (dia d).1 (formF no (dia d).2.2)) ∧ Below w.heap.size w w' := by
  obtain ⟨hc, hv, ho⟩ := dia_ok hd
  have hl : d.toNat < dialectsL.length := by show d.toNat < 4; omega
  obtain ⟨w0, e0⟩ : ∃ W, w.alloc (.cells #[.int .i64 0, .int .i64 0, .int .i64 0] 46) = W := ⟨_, rfl⟩
  have b0 : Below w.heap.size w w0 := by rw [← e0]; exact (Below.refl _ _).alloc (Nat.le_refl _) _
  have k0 : w0.heap[w.heap.size]? = some (.cells #[.int .i64 0, .int .i64 0, .int .i64 0] 46 (0, 0)) := by rw [← e0]; exact heap_alloc_last _ _
  have HW := Lib.hid (which_some (hT.below b0) d.toNat (by omega) hl)
  have hdd : ((d.toNat : Nat) : Int) = d := by omega
  have hds : dialectsL[d.toNat] = dia d := by unfold dia; simp [List.getD, hl]
  rw [hdd, hds] at HW
  obtain ⟨⟨code, ver, out⟩, ed⟩ : ∃ x, dia d = x := ⟨_, rfl⟩
  rw [ed] at hc hv ho HW ⊢
  have HO := Lib.hid ho
  have HT0 := Lib.hid (hT.below b0)
  have HB0 := Lib.hid b0
  have K0 := Lib.hid k0
  have E0 := Lib.hid e0
  have hs0 : w0.heap.size = w.heap.size + 1 := by rw [← e0]; simp
  have HS0 := Lib.hid hs0
  clear hT e0 b0 k0 hs0 hd hc hv ho hl hdd hds ed
  go_enter Tryz.func25, Tryz.ntmps25
  go_wp2_with fail
  rw [E0.out]
  refine HW.out.mono ?_
  rintro e w1 ⟨rfl, b1⟩
  obtain ⟨w1', e1'⟩ : ∃ W, w1.alloc (.cells #[.int .i64 code, .int .u8 ver, .int .i64 out] 56) = W := ⟨_, rfl⟩
  have b1' : Below w1.heap.size w1 w1' := by rw [← e1']; exact (Below.refl _ _).alloc (Nat.le_refl _) _
  have b2' := b1.trans (b1'.mono b1.size)
  have HF := Lib.hid (form_any (HT0.out.below b2') code ver out no (by have := HO.out; omega))
  have hlt : w.heap.size < w0.heap.size := by rw [HS0.out]; omega
  have K1 := Lib.hid ((b2'.block w.heap.size hlt).trans K0.out)
  have HB01 := Lib.hid (HB0.out.trans (b2'.mono HB0.out.size))
  have hlt2 : w.heap.size < w1'.heap.size := by have := b2'.size; omega
  have HE1 := Lib.hid e1'
  have HLT2 := Lib.hid hlt2
  clear b1 b1' b2' e1' hlt hlt2
  go_wp2_with fail
  rw [HE1.out]
  refine HF.out.mono ?_
  rintro e w2 ⟨rfl, b2⟩
  have K2 := Lib.hid ((b2.block w.heap.size HLT2.out).trans K1.out)
  have HB02 := Lib.hid (HB01.out.trans (b2.mono HB01.out.size))
  have HLT3 := Lib.hid (Nat.lt_of_lt_of_le HLT2.out b2.size)
  clear b2
  obtain ⟨R, eR⟩ : ∃ R, formF no out = R := ⟨_, rfl⟩
  rw [eR]
  cases R with
  | none =>
    have b3 : Below w2.heap.size w2 (w2.alloc (.cells #[.int .i64 0, .int .i64 0, .int .i64 0] 46)) := (Below.refl _ _).alloc (Nat.le_refl _) _
    have HB3 := Lib.hid (HB02.out.trans (b3.mono HB02.out.size))
    have K3 := Lib.hid ((b3.block w.heap.size HLT3.out).trans K2.out)
    have hst := store_all (ty := 46) K3.out info55s rfl #[.int .i64 0, .int .i64 0, .int .i64 0] rfl rfl
    clear b3
    unfold formV
    go_wp2_with (refine wpList_store_at rfl 46 (.tmp 4) (.tmp 26) rfl ⟨w.heap.size, 0, none⟩ rfl _ rfl hst ?_)
    refine bodyPost_ret (Go.Proofs.YtommklkihjmgcaaGreatDoorW.PrintWords.results_ct rfl _ _ w.heap.size _ #[.int .i64 0, .int .i64 0, .int .i64 0] (0, 0) _ rfl (setRow_block K3.out) Tryz.underlying46 rfl info55s) rfl ?_
    exact ⟨by rw [eR]; rfl, HB3.out.os, HB3.out.tape, HB3.out.output, by have h9 := HB3.out.size; rw [setRow_size]; exact h9, fun q hq => (setRow_other _ _ q _ (by omega)).trans (HB3.out.block q hq)⟩
  | some ks =>
    obtain ⟨k, s⟩ := ks
    have b3 : Below w2.heap.size w2 (w2.alloc (.cells #[.int .i64 k, .int .i64 s, .int .i64 code] 46)) := (Below.refl _ _).alloc (Nat.le_refl _) _
    have HB3 := Lib.hid (HB02.out.trans (b3.mono HB02.out.size))
    have K3 := Lib.hid ((b3.block w.heap.size HLT3.out).trans K2.out)
    have hst := store_all (ty := 46) K3.out info55s rfl #[.int .i64 k, .int .i64 s, .int .i64 code] rfl rfl
    clear b3
    unfold formV
    go_wp2_with (refine wpList_store_at rfl 46 (.tmp 4) (.tmp 27) rfl ⟨w.heap.size, 0, none⟩ rfl _ rfl hst ?_)
    refine bodyPost_ret (Go.Proofs.YtommklkihjmgcaaGreatDoorW.PrintWords.results_ct rfl _ _ w.heap.size _ #[.int .i64 k, .int .i64 s, .int .i64 code] (0, 0) _ rfl (setRow_block K3.out) Tryz.underlying46 rfl info55s) rfl ?_
    exact ⟨by rw [eR]; rfl, HB3.out.os, HB3.out.tape, HB3.out.output, by have h9 := HB3.out.size; rw [setRow_size]; exact h9, fun q hq => (setRow_other _ _ q _ (by omega)).trans (HB3.out.block q hq)⟩
set_option maxHeartbeats 1000000 in
set_option maxRecDepth 100000 in
theorem form_out {w : World} (d no : Int) (hd : ¬ (1 ≤ d ∧ d ≤ 3)) :
    Calls Tryz.prog 25 #[.int .i64 d, .int .i64 no] w fun e w' => e = .returned (.tuple #[.agg #[.int .i64 0, .int .i64 0, .int .i64 0], .int .i64 50]) ∧ Below w.heap.size w w' := by
  obtain ⟨w0, e0⟩ : ∃ W, w.alloc (.cells #[.int .i64 0, .int .i64 0, .int .i64 0] 46) = W := ⟨_, rfl⟩
  have b0 : Below w.heap.size w w0 := by rw [← e0]; exact (Below.refl _ _).alloc (Nat.le_refl _) _
  have k0 : w0.heap[w.heap.size]? = some (.cells #[.int .i64 0, .int .i64 0, .int .i64 0] 46 (0, 0)) := by rw [← e0]; exact heap_alloc_last _ _
  have HW := Lib.hid (which_none (w := w0) d (by omega))
  have HB0 := Lib.hid b0
  have K0 := Lib.hid k0
  have E0 := Lib.hid e0
  have hlt : w.heap.size < w0.heap.size := by rw [← e0]; simp
  have HLT := Lib.hid hlt
  clear e0 b0 k0 hd hlt
  go_enter Tryz.func25, Tryz.ntmps25
  go_wp2_with fail
  rw [E0.out]
  refine HW.out.mono ?_
  rintro e w1 ⟨rfl, b1⟩
  have b1' : Below w1.heap.size w1 (w1.alloc (.cells #[.int .i64 0, .int .u8 0, .int .i64 0] 56)) := (Below.refl _ _).alloc (Nat.le_refl _) _
  have b2' := b1.trans (b1'.mono b1.size)
  have K1 := Lib.hid ((b2'.block w.heap.size HLT.out).trans K0.out)
  have HB3 := Lib.hid (HB0.out.trans (b2'.mono HB0.out.size))
  have hst := store_all (ty := 46) K1.out info55s rfl #[.int .i64 0, .int .i64 0, .int .i64 0] rfl rfl
  clear b1 b1' b2'
  go_wp2_with (refine wpList_store_at rfl 46 (.tmp 4) (.tmp 17) rfl ⟨w.heap.size, 0, none⟩ rfl _ rfl hst ?_)
  refine bodyPost_ret (Go.Proofs.YtommklkihjmgcaaGreatDoorW.PrintWords.results_ct rfl _ _ w.heap.size _ #[.int .i64 0, .int .i64 0, .int .i64 0] (0, 0) _ rfl (setRow_block K1.out) Tryz.underlying46 rfl info55s) rfl ?_
  exact ⟨rfl, HB3.out.os, HB3.out.tape, HB3.out.output, by have h9 := HB3.out.size; rw [setRow_size]; exact h9, fun q hq => (setRow_other _ _ q _ (by omega)).trans (HB3.out.block q hq)⟩
theorem formA_any {w : World} (hT : Tabs w) (d no : Int) : Calls Tryz.prog 25 #[.int .i64 d, .int .i64 no] w fun e w' => e = .returned (.tuple #[.agg #[.int .i64 (formA d no).1, .int .i64 (formA d no).2.1, .int .i64 (formA d no).2.2.1], .int .i64 (formA d no).2.2.2]) ∧ Below w.heap.size w w' := by
  by_cases hd : 1 ≤ d ∧ d ≤ 3
  · refine (form_in hT d no hd).mono fun e w' h => ⟨h.1.trans ?_, h.2⟩
    unfold formA
    rw [if_pos hd]
    cases formF no (dia d).2.2 <;> rfl
  · refine (form_out d no hd).mono fun e w' h => ⟨h.1.trans ?_, h.2⟩
    unfold formA
    rw [if_neg hd]
end Go.Proofs.YtommklkihjmgcaaGreatDoor.msgw
