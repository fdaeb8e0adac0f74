/- Plain words of layer 4: a number in digits. No program in sight. -/
import Derived.Test.YtcgfbdleapjigaaFieldPlain2
namespace Go.Proofs.Ytcgfbdleapjigaa.fieldp
open Go
/-- A number's last digits, so many. -/
def digL (n : Nat) : Nat → List UInt8
  | 0 => []
  | k + 1 => digL (n / 10) k ++ [(48 + n % 10).toUInt8]
theorem digL_length (n k : Nat) : (digL n k).length = k := by
  induction k generalizing n with
  | zero => rfl
  | succ k ih => simp [digL, ih]
/-- The front digit. -/
theorem digL_front (n : Nat) : ∀ k, digL n (k + 1) = (48 + n / 10 ^ k % 10).toUInt8 :: digL n k
  | 0 => by simp [digL]
  | k + 1 => by
    rw [show digL n (k + 1 + 1) = digL (n / 10) (k + 1) ++ [(48 + n % 10).toUInt8] from rfl, digL_front (n / 10) k]
    rw [Nat.div_div_eq_div_mul, show 10 * 10 ^ k = 10 ^ (k + 1) by rw [Nat.pow_succ, Nat.mul_comm]]
    rfl
theorem digL_zero : ∀ k, digL 0 k = List.replicate k 48
  | 0 => rfl
  | k + 1 => by
    rw [digL_front, digL_zero k, Nat.zero_div]
    rfl
theorem digL_pad (n j : Nat) : ∀ k, n / 10 ^ j = 0 → digL n (k + j) = List.replicate k 48 ++ digL n j
  | 0, _ => by simp
  | k + 1, h => by
    have hz : n / 10 ^ (k + j) = 0 := by
      rw [Nat.pow_add, Nat.mul_comm, ← Nat.div_div_eq_div_mul, h, Nat.zero_div]
    rw [show k + 1 + j = (k + j) + 1 by omega, digL_front, digL_pad n j k h, hz]
    rfl
/-- What Digits answers. -/
def digitsR (n size : Int) : ByteArray × Int :=
  if size < 1 ∨ 18 < size then (⟨#[]⟩, 40)
  else if n < 0 ∨ (10 : Int) ^ size.toNat ≤ n then (⟨#[]⟩, 41)
  else (⟨(digL n.toNat size.toNat).toArray⟩, 0)
end Go.Proofs.Ytcgfbdleapjigaa.fieldp
