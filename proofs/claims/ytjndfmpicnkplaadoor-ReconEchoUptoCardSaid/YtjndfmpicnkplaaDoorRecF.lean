/- Layer 20: Check of a message that is right; a message of one's own text. Conditions: as each theorem says. -/
import Derived.Test.YtjndfmpicnkplaaDoorRecE
namespace Go.Proofs.YtjndfmpicnkplaaDoor.msgw
open Go.RowKit
open Go.Proofs.YtjndfmpicnkplaaDoor.msgp
open Go.Proofs.YtjndfmpicnkplaaDoor.buf
open Go.Proofs.YtjndfmpicnkplaaDoor.fieldp
open Go.Proofs.YtjndfmpicnkplaaDoor.fieldw
theorem checkAt_ok {F : Flds} (h : errF 0 F = none) (hS : SmallF F) (hl : F.length ≤ 24) : CheckAt F := by
  intro w v hF hT
  refine ⟨0, ⟨fun _ => h, fun _ => rfl⟩, ?_⟩
  obtain ⟨p, c, rfl⟩ := hF.shape
  have b0 : Below w.heap.size w (w.alloc (.cells #[.int .i64 500, .slice p F.length c] 32)) := (Below.refl _ _).alloc (Nat.le_refl _) _
  have HC := Lib.hid (check_in (hF.below b0) (hT.below b0) 500 (by decide) hl hS)
  have HB0 := Lib.hid b0
  have HE := Lib.hid h
  clear hF hT h hS hl b0
  go_enter Tryd.func13, Tryd.ntmps13
  go_wp2_with fail
  refine HC.out.mono ?_
  rintro e w1 ⟨v1, rfl, h1, b1⟩
  rw [HE.out] at h1
  have h2 : v1 = .nilIface := h1
  subst h2
  have HT := Lib.hid (told_ok (w := w1))
  have HB := Lib.hid (HB0.out.trans (b1.mono HB0.out.size))
  clear h1 b1 HC
  go_wp2_with fail
  refine HT.out.mono ?_
  rintro e w2 ⟨rfl, b2⟩
  have HB2 := Lib.hid (HB.out.trans (b2.mono HB.out.size))
  clear b2
  go_wp2_with fail
  go_ret
  exact ⟨rfl, HB2.out⟩
end Go.Proofs.YtjndfmpicnkplaaDoor.msgw
