/- Walks of layer 3's statements: full. Conditions: as each theorem says. -/
import Derived.Test.YtpnijopbbbgffaaPlantD
import Derived.WalkLawsBesides
namespace Go.Proofs.Ytpnijopbbbgffaa.plantw
open Go.RowKit
open Go.Proofs.Ytpnijopbbbgffaa.plantp
open Go.Proofs.Ytpnijopbbbgffaa.mapfn
open Go.Proofs.Ytpnijopbbbgffaa.buf
/-- A sector of its own. -/
def SecAt (s : Sec) (w : World) (e : Ending) (w' : World) : Prop := ∃ H, e = .returned (.slice (some ⟨H, 0, none⟩) 64 64) ∧ Below w.heap.size w w' ∧ w.heap.size ≤ H ∧ w'.heap[H]? = some (.cells (secA s) 5 (0, 0))
set_option maxHeartbeats 1000000 in
theorem full_any (c : UInt8) (w : World) : Calls Try.prog 18 #[.int .u8 c.toNat] w (SecAt (List.replicate 64 c) w) := by
  have hmk := make64 w
  go_enter Try.func18, Try.ntmps18
  go_wp2_with fail
  go_loopw [4] (fun i wr => ∃ k : Nat, k ≤ 64 ∧ i = .int .i64 k ∧ Below w.heap.size w wr ∧ wr.heap[w.heap.size]? = some (.cells (secA (List.replicate k c ++ List.replicate (64 - k) 0)) 5 (0, 0))) (fun i _ => 64 - (intOf i).toNat)
  case atStart => exact ⟨0, by omega, rfl, (Below.refl _ _).alloc (Nat.le_refl _) _, heap_alloc_last _ _⟩
  case round =>
    obtain ⟨k, hk, rfl, hb, hc⟩ := hrel
    have HC := Lib.hid hc
    by_cases hlt : k < 64
    · have hk0 : 0 ≤ (k : Int) := by omega
      have hk1 : (k : Int) < 64 := by omega
      have c0 : wr.cell? ⟨w.heap.size, k, none⟩ = some (.int .u8 0) := by
        rw [cells_at hc]
        simp only [secA, List.getElem?_toArray, List.getElem?_map, List.getElem?_append, List.length_replicate, List.getElem?_replicate]
        rw [if_neg (by omega), if_pos (by omega)]
        rfl
      have c1 : wr.frozen? ⟨w.heap.size, k, none⟩ = false := frozen_at hc k
      clear hc
      go_wp2_with fail
      go_roundw
      case rel =>
        refine ⟨k + 1, by omega, by go_num, hb.setCell (p := ⟨w.heap.size, k, none⟩) (Nat.le_refl _) _, ?_⟩
        rw [heap_set HC.out]
        congr 2
        apply Array.ext_getElem?
        intro i
        rw [Array.getElem?_setIfInBounds]
        simp only [secA, List.size_toArray, List.length_map, List.length_append, List.length_replicate, List.getElem?_toArray, List.getElem?_map, List.getElem?_append, List.getElem?_replicate]
        by_cases hik : k = i
        · subst hik
          have : k < k + 1 := by omega
          simp [u8v, this]
          omega
        · by_cases h1 : i < k
          · have : i < k + 1 := by omega
            simp [hik, h1, this]
          · have h2 : ¬ i < k + 1 := by omega
            simp only [hik, if_false, h1, h2]
            congr 2
            simp
            omega
      case measure => simp [intOf]; omega
    · obtain rfl : k = 64 := by omega
      clear hc
      go_wp2_with fail
      go_ret
      exact ⟨w.heap.size, rfl, hb, Nat.le_refl _, by simpa using HC.out⟩
end Go.Proofs.Ytpnijopbbbgffaa.plantw
