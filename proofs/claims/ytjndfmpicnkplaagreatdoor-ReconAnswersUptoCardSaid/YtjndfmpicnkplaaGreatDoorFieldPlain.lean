/- Plain words of layer 4. No program in sight. -/
import Derived.Lib.Bytealg
import Derived.Lib.IndexLaws
namespace Go.Proofs.YtjndfmpicnkplaaGreatDoor.fieldp
open Go

/-- Each byte of one row as the one of another row. -/
def turnL (fr to : List UInt8) : List UInt8 → Option (List UInt8)
  | [] => some []
  | c :: cs => if Lib.indexByte fr c = -1 then none else (turnL fr to cs).map (to.getD (Lib.indexByte fr c).toNat 0 :: ·)

/-- The digits 0 to 9, a to f. -/
def hexL : List UInt8 := [48, 49, 50, 51, 52, 53, 54, 55, 56, 57, 97, 98, 99, 100, 101, 102]
def hexd (n : Nat) : UInt8 := hexL.getD n 0
def unpackL (l : List UInt8) : List UInt8 := l.flatMap fun c => [hexd (c.toNat / 16), hexd (c.toNat % 16)]
/-- What a digit says. -/
def hv (c : UInt8) : Nat := (Lib.indexByte hexL c).toNat
def isHex (c : UInt8) : Prop := Lib.indexByte hexL c ≠ -1
/-- Two digits a byte. -/
def packE : List UInt8 → List UInt8
  | a :: b :: r => (16 * hv a + hv b).toUInt8 :: packE r
  | _ => []
def evened (l : List UInt8) : List UInt8 := if l.length % 2 = 1 then 48 :: l else l
def packL (l : List UInt8) : List UInt8 := packE (evened l)
/-- Just bytes of a row, and so many. -/
def inRow (row : List UInt8) (c : UInt8) : Bool := decide (Lib.indexByte row c ≠ -1)
def ofB (l row : List UInt8) (n : Int) : Bool := l.all (inRow row) && decide ((l.length : Int) = n)
theorem all_snoc (row l : List UInt8) (c : UInt8) : (l ++ [c]).all (inRow row) = (l.all (inRow row) && inRow row c) := by simp
end Go.Proofs.YtjndfmpicnkplaaGreatDoor.fieldp

namespace Go.Proofs.YtjndfmpicnkplaaGreatDoor.fieldp
open Go
def tenL : List UInt8 := [48, 49, 50, 51, 52, 53, 54, 55, 56, 57]
def signsL : List UInt8 := [65, 66, 67, 68, 69, 70, 71, 72, 73, 74, 75, 76, 77, 78, 79, 80, 81, 82, 83, 84, 85, 86, 87, 88, 89, 90, 48, 49, 50, 51, 52, 53, 54, 55, 56, 57, 32]
def rightB (k n : Int) (l : List UInt8) : Bool :=
  if k = 5 then (match l with | [] => false | c :: r => (c == 67 || c == 68) && ofB r tenL n)
  else if k = 1 then ofB l tenL n
  else if k = 2 then decide (0 < l.length ∧ (l.length : Int) ≤ n) && ofB l tenL l.length
  else if k = 3 then ofB l signsL n
  else ofB l hexL (2 * n)
end Go.Proofs.YtjndfmpicnkplaaGreatDoor.fieldp

namespace Go.Proofs.YtjndfmpicnkplaaGreatDoor.fieldp
open Go
/-- A number's last digits, so many. -/
def digL (n : Nat) : Nat → List UInt8
  | 0 => []
  | k + 1 => digL (n / 10) k ++ [(48 + n % 10).toUInt8]
theorem digL_length (n k : Nat) : (digL n k).length = k := by
  induction k generalizing n with
  | zero => rfl
  | succ k ih => simp [digL, ih]
/-- The front digit. -/
theorem digL_front (n : Nat) : ∀ k, digL n (k + 1) = (48 + n / 10 ^ k % 10).toUInt8 :: digL n k
  | 0 => by simp [digL]
  | k + 1 => by
    rw [show digL n (k + 1 + 1) = digL (n / 10) (k + 1) ++ [(48 + n % 10).toUInt8] from rfl, digL_front (n / 10) k]
    rw [Nat.div_div_eq_div_mul, show 10 * 10 ^ k = 10 ^ (k + 1) by rw [Nat.pow_succ, Nat.mul_comm]]
    rfl
theorem digL_pad (n j : Nat) : ∀ k, n / 10 ^ j = 0 → digL n (k + j) = List.replicate k 48 ++ digL n j
  | 0, _ => by simp
  | k + 1, h => by
    have hz : n / 10 ^ (k + j) = 0 := by
      rw [Nat.pow_add, Nat.mul_comm, ← Nat.div_div_eq_div_mul, h, Nat.zero_div]
    rw [show k + 1 + j = (k + j) + 1 by omega, digL_front, digL_pad n j k h, hz]
    rfl
/-- What Digits answers. -/
def digitsR (n size : Int) : ByteArray × Int :=
  if size < 1 ∨ 18 < size then (⟨#[]⟩, 40)
  else if n < 0 ∨ (10 : Int) ^ size.toNat ≤ n then (⟨#[]⟩, 41)
  else (⟨(digL n.toNat size.toNat).toArray⟩, 0)
end Go.Proofs.YtjndfmpicnkplaaGreatDoor.fieldp

namespace Go.Proofs.YtjndfmpicnkplaaGreatDoor.fieldp
open Go
/-- Digits as a number. -/
def numL (l : List UInt8) : Int := l.foldl (fun a c => 10 * a + ((c.toNat : Int) - 48)) 0
theorem numL_snoc (l : List UInt8) (c : UInt8) : numL (l ++ [c]) = 10 * numL l + ((c.toNat : Int) - 48) := by simp [numL]
def isDig (c : UInt8) : Prop := 48 ≤ c.toNat ∧ c.toNat ≤ 57
set_option maxRecDepth 100000 in
theorem row_dig {c : UInt8} (h : inRow tenL c = true) : isDig c := by
  have : ∀ i : Fin 256, inRow tenL (UInt8.ofNat i.1) = true → 48 ≤ i.1 ∧ i.1 ≤ 57 := by decide
  have h2 := this ⟨c.toNat, c.toNat_lt⟩ (by rw [UInt8.ofNat_toNat]; exact h)
  exact h2
theorem numL_range : ∀ (n : Nat) (l : List UInt8), l.length = n → (∀ c ∈ l, isDig c) → 0 ≤ numL l ∧ numL l < 10 ^ n
  | 0, l, h, _ => by
    obtain rfl : l = [] := List.eq_nil_of_length_eq_zero h
    simp [numL]
  | n + 1, l, h, hd => by
    obtain ⟨l', c, rfl⟩ : ∃ l' c, l = l' ++ [c] := by
      have hne : l ≠ [] := by intro e; rw [e] at h; cases h
      exact ⟨l.dropLast, l.getLast hne, (List.dropLast_concat_getLast hne).symm⟩
    rw [numL_snoc]
    have hl : l'.length = n := by simpa using h
    have ih := numL_range n l' hl (fun c hc => hd c (List.mem_append_left _ hc))
    have hc := hd c (by simp)
    unfold isDig at hc
    have hp : (10 : Int) ^ (n + 1) = 10 * 10 ^ n := by rw [Int.pow_succ, Int.mul_comm]
    omega
/-- What Amount answers. -/
def amountR (l : List UInt8) : Int × Int := if l ≠ [] ∧ l.length ≤ 18 ∧ l.all (inRow tenL) = true then (numL l, 0) else (0, 41)
def pairN (l : List UInt8) (i : Nat) : Int := numL ((l.drop (2 * i)).take 2)
def daysL (m : Int) : Int := (([31, 29, 31, 30, 31, 30, 31, 31, 30, 31, 30, 31] : List Int)).getD (m - 1).toNat 0
/-- What When answers. -/
def whenR (l : List UInt8) : Bool := ofB l tenL 10 && decide (1 ≤ pairN l 0 ∧ pairN l 0 ≤ 12 ∧ 1 ≤ pairN l 1 ∧ pairN l 1 ≤ daysL (pairN l 0) ∧ pairN l 2 < 24 ∧ pairN l 3 < 60 ∧ pairN l 4 < 60)
end Go.Proofs.YtjndfmpicnkplaaGreatDoor.fieldp
