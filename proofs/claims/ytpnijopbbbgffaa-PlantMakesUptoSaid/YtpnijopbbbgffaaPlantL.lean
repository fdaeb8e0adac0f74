/- Layer 3 in plain words: a sector reads as it was written last. No program in sight. Conditions: as each theorem says. -/
import Derived.Test.YtpnijopbbbgffaaPlantQ
namespace Go.Proofs.Ytpnijopbbbgffaa.plantp
structure LastAt (m : Nat) (has : Sec) (p : PS) : Prop where
  most : p.most = [8, 8]
  off : p.off = false
  fuse : p.fuse = -1
  steps : p.steps = m
  len : has.length = 16
  sec : ∀ d s, d < 2 → s < 8 → p.sec d s = oneS (has.getD (8 * d + s) 0)
theorem LastAt.start : LastAt 0 (List.replicate 16 0) (PS.new [8, 8]) := by
  refine ⟨rfl, rfl, rfl, rfl, rfl, fun d s hd hs => ?_⟩
  have : ∀ i, i < 16 → (List.replicate 16 (0 : UInt8)).getD i 0 = 0 := by decide
  rw [this _ (by omega)]
  rfl
theorem LastAt.there {m : Nat} {has : Sec} {p : PS} (h : LastAt m has p) {d s : Nat} (hd : d < 2) (hs : s < 8) : p.thereB d s = true := by
  have e : ([8, 8] : List Nat).getD d 0 = 8 := by
    have : d = 0 ∨ d = 1 := by omega
    rcases this with rfl | rfl <;> rfl
  simp only [PS.thereB, h.most, Int.toNat_natCast, e, decide_eq_true_eq, List.length_cons, List.length_nil]
  omega
theorem LastAt.write {m : Nat} {has : Sec} {p : PS} (h : LastAt m has p) {d s : Nat} (hd : d < 2) (hs : s < 8) (c : UInt8) : ∃ q, p.write (d : Int) (s : Int) (oneS c) = (q, 0) ∧ LastAt (m + 1) (has.set (8 * d + s) c) q := by
  refine ⟨_, PS.write_ok' h.off (h.there hd hs) (oneS_len c) h.fuse, h.most, h.off, h.fuse, ?_, by rw [List.length_set]; exact h.len, fun d' s' hd' hs' => ?_⟩
  · show p.steps + 1 = _
    rw [h.steps]; omega
  · rw [sec_wait]
    by_cases c0 : d = d' ∧ s = s'
    · obtain ⟨rfl, rfl⟩ := c0
      rw [if_pos ⟨rfl, rfl⟩]
      have : (has.set (8 * d + s) c).getD (8 * d + s) 0 = c := by
        simp [List.getD_eq_getElem?_getD, h.len, show 8 * d + s < 16 by omega]
      rw [this]
    · rw [if_neg c0]
      have : (has.set (8 * d + s) c).getD (8 * d' + s') 0 = has.getD (8 * d' + s') 0 := by
        simp [List.getD_eq_getElem?_getD, show ¬ 8 * d + s = 8 * d' + s' by omega]
      rw [this]
      exact h.sec d' s' hd' hs'
theorem LastAt.flush {m : Nat} {has : Sec} {p : PS} (h : LastAt m has p) {d : Nat} (hd : d < 2) : ∃ q, p.flushAt (d : Int) = (q, 0) ∧ LastAt (m + 1) has q := by
  have h1 : p.step.1 = { p with steps := p.steps + 1 } := by simp [PS.step, h.fuse]
  have h2 : ¬ p.fuse = 0 := by have := h.fuse; omega
  refine ⟨PS.flush { p with steps := p.steps + 1 } d, ?_, h.most, h.off, h.fuse, ?_, h.len, fun d' s' hd' hs' => ?_⟩
  · have h3 : ¬ ((d : Int) < 0 ∨ (p.most.length : Int) ≤ d) := by rw [h.most]; simp; omega
    simp only [PS.flushAt, h.off, if_neg h3, if_neg h2, h1]
    simp
  · show p.steps + 1 = _
    rw [h.steps]; omega
  · exact (sec_flush { p with steps := p.steps + 1 } d d' s').trans (h.sec d' s' hd' hs')
theorem LastAt.read {m : Nat} {has : Sec} {p : PS} (h : LastAt m has p) {k : Nat} (hk : k < 16) : p.readE ((k / 8 : Nat) : Int) ((k % 8 : Nat) : Int) = 0 ∧ p.sec (Int.toNat ((k / 8 : Nat) : Int)) (Int.toNat ((k % 8 : Nat) : Int)) = oneS (has.getD k 0) := by
  refine ⟨?_, ?_⟩
  · have ht := h.there (show k / 8 < 2 by omega) (show k % 8 < 8 by omega)
    unfold PS.readE
    rw [h.off, ht]
    rfl
  · rw [Int.toNat_natCast, Int.toNat_natCast, h.sec _ _ (by omega) (by omega)]
    congr 2
    omega
/-- Which of the ten. -/
def kindN (n : Int) : Nat := ((if n < 0 then -(n + 1) else n).tmod 10).toNat
theorem kindN_lt (n : Int) : kindN n < 10 := by
  unfold kindN
  have := Int.tmod_lt_of_pos (if n < 0 then -(n + 1) else n) (b := 10) (by decide)
  omega
theorem kindN_eq (n : Int) : ((kindN n : Nat) : Int) = (if n < 0 then -(n + 1) else n).tmod 10 := by
  unfold kindN
  have : 0 ≤ (if n < 0 then -(n + 1) else n).tmod 10 := Int.tmod_nonneg _ (by split <;> omega)
  omega
end Go.Proofs.Ytpnijopbbbgffaa.plantp
