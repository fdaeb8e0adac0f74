/- Layer 5: MessageForms, walked. Conditions: as each theorem says. -/
import Derived.Test.YtommklkihjmgcaaGreatDoorRefForm
import Derived.Test.YtommklkihjmgcaaGreatDoorWEqStruct
namespace Go.Proofs.YtommklkihjmgcaaGreatDoor.msgw
open Go.RowKit Go.Proofs.YtommklkihjmgcaaGreatDoorW.PrintWords Go.Proofs.YtommklkihjmgcaaGreatDoor.msgp Go.Proofs.YtommklkihjmgcaaGreatDoor.buf Go.Proofs.YtommklkihjmgcaaGreatDoor.fieldp Go.Proofs.YtommklkihjmgcaaGreatDoor.fieldw
theorem eqA_form (d : Nat) (w : World) (x0 y0 x1 y1 x2 y2 : Int) :
    (Op.equalIn (d + 2) 46 (.agg #[.int .i64 x0, .int .i64 x1, .int .i64 x2]) (.agg #[.int .i64 y0, .int .i64 y1, .int .i64 y2])).run Tryz.prog w = .ok (x0 == y0 && (x1 == y1 && x2 == y2)) w := by
  refine eqA_of Tryz.underlying46 (by kernel_rfl) ?_
  refine eqf_cons (by rfl) (by go_simp; rfl) (by go_simp; rfl) (by go_simp) ?_
  refine eqf_cons (by rfl) (by go_simp; rfl) (by go_simp; rfl) (by go_simp) ?_
  exact eqf_last (by rfl) (by go_simp; rfl) (by go_simp; rfl) (by go_simp)
attribute [local go_sem high] eqA_form
set_option maxHeartbeats 2000000 in
set_option maxRecDepth 100000 in
theorem forms_any {w : World} (hT : Tabs5 w) (d no : Int) : Calls Tryz.prog 12 #[.int .i64 d, .int .i64 no] w fun e w' => e = .returned (.bool true) ∧ Below w.heap.size w w' := by
  have HT := Lib.hid hT
  clear hT
  go_enter Tryz.func12, Tryz.ntmps12
  go_wp2_with fail
  refine (shown_any HT.out).mono ?_
  rintro e w1 ⟨rfl, b1⟩
  have HT1 := Lib.hid (HT.out.below b1)
  have HB1 := Lib.hid b1
  clear b1
  obtain ⟨⟨a0, a1, a2, a3⟩, ea⟩ : ∃ a, formA d no = a := ⟨_, rfl⟩
  have HA := Lib.hid ea
  clear ea
  go_wp2_with fail
  refine (formA_any HT1.out.tabs d no).mono ?_
  rintro e w2 ⟨rfl, b2⟩
  rw [HA.out]
  have b3 := b2.trans ((alloc_below w2 (.cells #[.int .i64 a0, .int .i64 a1, .int .i64 a2] 46)).mono b2.size)
  have k3 := heap_alloc_last w2 (.cells #[.int .i64 a0, .int .i64 a1, .int .i64 a2] 46)
  have HB3 := Lib.hid (HB1.out.trans (b3.mono HB1.out.size))
  have HK3 := Lib.hid k3
  clear b2 b3 k3
  go_wp2_with fail
  refine (refform_any d no).mono ?_
  rintro e w4 ⟨rfl, b4⟩
  rw [HA.out]
  have b5 := b4.trans ((alloc_below w4 (.cells #[.int .i64 a0, .int .i64 a1, .int .i64 a2] 46)).mono b4.size)
  have k4 := (b5.block _ (Array.getElem?_eq_some_iff.1 HK3.out).1).trans HK3.out
  have x0 := cells_at k4 0
  have x1 := cells_at k4 1
  have x2 := cells_at k4 2
  have HB4 := Lib.hid (HB3.out.trans (b5.mono HB3.out.size))
  clear b4 b5 k4
  go_wp2_with fail
  go_ret
  exact ⟨rfl, HB4.out⟩
end Go.Proofs.YtommklkihjmgcaaGreatDoor.msgw
