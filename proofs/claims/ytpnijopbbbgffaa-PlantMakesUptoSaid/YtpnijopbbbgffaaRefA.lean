/- Layer 3: the reference's plant in memory; has, Len, step, Fuse. Conditions: as each theorem says. -/
import Derived.Test.YtpnijopbbbgffaaPlantO
namespace Go.Proofs.Ytpnijopbbbgffaa.plantw
open Go.RowKit
open Go.Proofs.Ytpnijopbbbgffaa.plantp
open Go.Proofs.Ytpnijopbbbgffaa.mapfn
open Go.Proofs.Ytpnijopbbbgffaa.buf
/-- The seven cells of a reference's plant. -/
def RBlk (w : World) (g : Nat) (vM vH vW : Value) (off burns : Bool) (left steps : Int) : Prop :=
  w.heap[g]? = some (.cells #[vM, vH, vW, .bool off, .bool burns, .int .i64 left, .int .i64 steps] 59 (0, 0))
/-- The row of the disks' sizes. -/
def MostAt (w : World) (vM : Value) (most : List Nat) : Prop := ∃ b c, vM = .slice (some ⟨b, 0, none⟩) most.length c ∧ b < w.heap.size ∧ ∀ i (h : i < most.length), w.cell? ⟨b, i, none⟩ = some (.int .i64 (most[i] : Nat))
section
variable {w : World} {g : Nat} {vM vH vW : Value} {off burns : Bool} {left steps : Int}
theorem RBlk.cell (h : RBlk w g vM vH vW off burns left steps) (i : Nat) : w.cell? ⟨g, i, none⟩ = #[vM, vH, vW, .bool off, .bool burns, .int .i64 left, .int .i64 steps][i]? := cells_at h i
theorem rhas_any (h : RBlk w g vM vH vW off burns left steps) {most : List Nat} {p : Option Addr} {c : Nat} (hv : vM = .slice p most.length c) (dev : Int) :
    Calls Try.prog 36 #[.pointer (some ⟨g, 0, none⟩), .int .i64 dev] w fun e w' => e = .returned (.bool (decide (0 ≤ dev ∧ dev < (most.length : Int)))) ∧ w' = w := by
  subst hv
  have c0 : w.cell? ⟨g, 0, none⟩ = some (.slice p most.length c) := h.cell 0
  clear h
  go_enter Try.func36, Try.ntmps36
  by_cases d0 : 0 ≤ dev
  · by_cases d1 : dev < (most.length : Int)
    · go_wp2_with fail
      go_ret
      exact ⟨by simp [d0, d1], rfl⟩
    · go_wp2_with fail
      go_ret
      exact ⟨by simp [d1], rfl⟩
  · go_wp2_with fail
    go_ret
    refine ⟨?_, rfl⟩
    have : decide (0 ≤ dev) = false := by rw [decide_eq_false_iff_not]; omega
    simp [this]
theorem rlen_any (h : RBlk w g vM vH vW off burns left steps) {most : List Nat} (hm : MostAt w vM most) (dev : Int) :
    Calls Try.prog 21 #[.pointer (some ⟨g, 0, none⟩), .int .i64 dev] w fun e w' => e = .returned (.tuple #[.int .i64 (if dev < 0 ∨ (most.length : Int) ≤ dev then 0 else (most.getD dev.toNat 0 : Nat)), .int .i64 (if dev < 0 ∨ (most.length : Int) ≤ dev then 31 else 0)]) ∧ w' = w := by
  obtain ⟨b, c, rfl, hb, hc⟩ := hm
  have HH := Lib.hid (rhas_any h rfl dev)
  have c0 : w.cell? ⟨g, 0, none⟩ = some (.slice (some ⟨b, 0, none⟩) most.length c) := h.cell 0
  clear h
  by_cases d : dev < 0 ∨ (most.length : Int) ≤ dev
  · rw [if_pos d, if_pos d]
    have hd : decide (0 ≤ dev ∧ dev < (most.length : Int)) = false := by rw [decide_eq_false_iff_not]; omega
    rw [hd] at HH
    clear d hd
    go_enter Try.func21, Try.ntmps21
    go_wp2_with fail
    refine HH.out.mono ?_
    rintro e x ⟨rfl, rfl⟩
    go_wp2_with fail
    go_ret2
    exact ⟨rfl, rfl⟩
  · rw [if_neg d, if_neg d]
    have hd : decide (0 ≤ dev ∧ dev < (most.length : Int)) = true := by rw [decide_eq_true_iff]; omega
    rw [hd] at HH
    have d0 : 0 ≤ dev := by omega
    have d1 : dev < (most.length : Int) := by omega
    obtain ⟨k, rfl⟩ : ∃ k : Nat, dev = k := ⟨dev.toNat, by omega⟩
    have hk : k < most.length := by omega
    have ck := hc k hk
    rw [show (most.getD (k : Int).toNat 0) = most[k] by simp [List.getD_eq_getElem?_getD, hk]]
    clear hc d hd
    go_enter Try.func21, Try.ntmps21
    go_wp2_with fail
    refine HH.out.mono ?_
    rintro e x ⟨rfl, rfl⟩
    go_wp2_with fail
    go_ret2
    exact ⟨rfl, rfl⟩
end
end Go.Proofs.Ytpnijopbbbgffaa.plantw
