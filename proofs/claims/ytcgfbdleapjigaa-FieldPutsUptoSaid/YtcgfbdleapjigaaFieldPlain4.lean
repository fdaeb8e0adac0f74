/- Plain words of layer 4: digits as a number, a date. No program in sight. -/
import Derived.Test.YtcgfbdleapjigaaFieldPlain3
namespace Go.Proofs.Ytcgfbdleapjigaa.fieldp
open Go
/-- Digits as a number. -/
def numL (l : List UInt8) : Int := l.foldl (fun a c => 10 * a + ((c.toNat : Int) - 48)) 0
theorem numL_snoc (l : List UInt8) (c : UInt8) : numL (l ++ [c]) = 10 * numL l + ((c.toNat : Int) - 48) := by simp [numL]
def isDig (c : UInt8) : Prop := 48 ≤ c.toNat ∧ c.toNat ≤ 57
set_option maxRecDepth 100000 in
theorem row_dig {c : UInt8} (h : inRow tenL c = true) : isDig c := by
  have : ∀ i : Fin 256, inRow tenL (UInt8.ofNat i.1) = true → 48 ≤ i.1 ∧ i.1 ≤ 57 := by decide
  have h2 := this ⟨c.toNat, c.toNat_lt⟩ (by rw [UInt8.ofNat_toNat]; exact h)
  exact h2
set_option maxRecDepth 100000 in
theorem dig_row {c : UInt8} (h : isDig c) : inRow tenL c = true := by
  have : ∀ i : Fin 256, 48 ≤ i.1 ∧ i.1 ≤ 57 → inRow tenL (UInt8.ofNat i.1) = true := by decide
  have h2 := this ⟨c.toNat, c.toNat_lt⟩ h
  rw [UInt8.ofNat_toNat] at h2
  exact h2
theorem numL_range : ∀ (n : Nat) (l : List UInt8), l.length = n → (∀ c ∈ l, isDig c) → 0 ≤ numL l ∧ numL l < 10 ^ n
  | 0, l, h, _ => by
    obtain rfl : l = [] := List.eq_nil_of_length_eq_zero h
    simp [numL]
  | n + 1, l, h, hd => by
    obtain ⟨l', c, rfl⟩ : ∃ l' c, l = l' ++ [c] := by
      have hne : l ≠ [] := by intro e; rw [e] at h; cases h
      exact ⟨l.dropLast, l.getLast hne, (List.dropLast_concat_getLast hne).symm⟩
    rw [numL_snoc]
    have hl : l'.length = n := by simpa using h
    have ih := numL_range n l' hl (fun c hc => hd c (List.mem_append_left _ hc))
    have hc := hd c (by simp)
    unfold isDig at hc
    have hp : (10 : Int) ^ (n + 1) = 10 * 10 ^ n := by rw [Int.pow_succ, Int.mul_comm]
    omega
/-- What Amount answers. -/
def amountR (l : List UInt8) : Int × Int := if l ≠ [] ∧ l.length ≤ 18 ∧ l.all (inRow tenL) = true then (numL l, 0) else (0, 41)
def pairN (l : List UInt8) (i : Nat) : Int := numL ((l.drop (2 * i)).take 2)
def daysL (m : Int) : Int := (([31, 29, 31, 30, 31, 30, 31, 31, 30, 31, 30, 31] : List Int)).getD (m - 1).toNat 0
/-- What When answers. -/
def whenR (l : List UInt8) : Bool := ofB l tenL 10 && decide (1 ≤ pairN l 0 ∧ pairN l 0 ≤ 12 ∧ 1 ≤ pairN l 1 ∧ pairN l 1 ≤ daysL (pairN l 0) ∧ pairN l 2 < 24 ∧ pairN l 3 < 60 ∧ pairN l 4 < 60)
end Go.Proofs.Ytcgfbdleapjigaa.fieldp
