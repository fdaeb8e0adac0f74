/- Layer 20: Check of any message of a right type. Conditions: as each theorem says. -/
import Derived.Test.YtjndfmpicnkplaaDoorRecE
import Derived.Test.YtjndfmpicnkplaaDoorMsgN
namespace Go.Proofs.YtjndfmpicnkplaaDoor.msgw
open Go.RowKit
open Go.Proofs.YtjndfmpicnkplaaDoor.msgp
open Go.Proofs.YtjndfmpicnkplaaDoor.buf
open Go.Proofs.YtjndfmpicnkplaaDoor.fieldp
open Go.Proofs.YtjndfmpicnkplaaDoor.fieldw
/-- The number of what is wrong, or nought. -/
def erZ : Option Er → Int
  | none => 0
  | some e => erN e
theorem errF_ne {last : Int} {F : Flds} {e : Er} (h : errF last F = some e) : erN e ≠ 0 := by
  induction F generalizing last with
  | nil => cases h
  | cons x r ih =>
    unfold errF at h
    split at h
    · obtain rfl := Option.some.inj h; show (52 : Int) ≠ 0; decide
    · split at h
      · obtain rfl := Option.some.inj h; show (52 : Int) ≠ 0; decide
      · split at h
        · exact ih h
        · rename_i hc
          obtain rfl := Option.some.inj h
          exact hc
theorem check_any2 {w : World} {v : Value} {F : Flds} (hF : FsAt w v F) (hT : Tabs w) (hS : SmallF F) (hl : F.length ≤ 24) (ty : Int) (hty : typesL.contains ty = true) :
    Calls Tryd.prog 13 #[.agg #[.int .i64 ty, v]] w fun e w' => e = .returned (.int .i64 (erZ (errF 0 F))) ∧ Below w.heap.size w w' := by
  obtain ⟨p, c, rfl⟩ := hF.shape
  have b0 : Below w.heap.size w (w.alloc (.cells #[.int .i64 ty, .slice p F.length c] 32)) := (Below.refl _ _).alloc (Nat.le_refl _) _
  have HC := Lib.hid (check_in (hF.below b0) (hT.below b0) ty hty hl hS)
  have HB0 := Lib.hid b0
  have HT := Lib.hid (hT.below b0)
  have HR := Lib.hid (show erZ (errF 0 F) = erZ (errF 0 F) from rfl)
  obtain ⟨R, eR⟩ : ∃ R, errF 0 F = R := ⟨_, rfl⟩
  rw [eR] at HC ⊢
  clear hF hT hS hl b0 eR HR
  go_enter Tryd.func13, Tryd.ntmps13
  go_wp2_with fail
  refine HC.out.mono ?_
  rintro e w1 ⟨v1, rfl, h1, b1⟩
  have HT1 := Lib.hid (HT.out.below b1)
  have HB := Lib.hid (HB0.out.trans (b1.mono HB0.out.size))
  have HK := Lib.hid (show Calls Tryd.prog 28 #[v1] w1 fun e w' => e = .returned (.int .i64 (erZ R)) ∧ Below w1.heap.size w1 w' from by
    cases R with
    | none =>
      have h2 : v1 = .nilIface := h1
      subst h2
      exact told_ok (w := w1)
    | some er => exact told_any HT1.out.err h1)
  clear h1 b1 HC
  go_wp2_with fail
  refine HK.out.mono ?_
  rintro e w2 ⟨rfl, b2⟩
  have HB2 := Lib.hid (HB.out.trans (b2.mono HB.out.size))
  clear b2
  go_wp2_with fail
  go_ret
  exact ⟨rfl, HB2.out⟩
theorem checkAt_any {F : Flds} (hS : SmallF F) (hl : F.length ≤ 24) : CheckAt F := by
  intro w v hF hT
  refine ⟨erZ (errF 0 F), ?_, check_any2 hF hT hS hl 500 (by decide)⟩
  cases e : errF 0 F with
  | none => exact ⟨fun _ => rfl, fun _ => rfl⟩
  | some er => exact ⟨fun h => absurd h (errF_ne e), fun h => by cases h⟩
theorem checkAt_ok {F : Flds} (_h : errF 0 F = none) (hS : SmallF F) (hl : F.length ≤ 24) : CheckAt F := checkAt_any hS hl
end Go.Proofs.YtjndfmpicnkplaaDoor.msgw
