/- Plain words of layer 4. No program in sight. -/
import Derived.Lib.Bytealg
import Derived.Lib.IndexLaws
namespace Go.Proofs.YtommklkihjmgcaaGreatDoor.fieldp
open Go

/-- Each byte of one row as the one of another row. -/
def turnL (fr to : List UInt8) : List UInt8 → Option (List UInt8)
  | [] => some []
  | c :: cs => if Lib.indexByte fr c = -1 then none else (turnL fr to cs).map (to.getD (Lib.indexByte fr c).toNat 0 :: ·)

theorem turnL_append (fr to l m : List UInt8) : turnL fr to (l ++ m) = (turnL fr to l).bind fun a => (turnL fr to m).map (a ++ ·) := by
  induction l with
  | nil => cases h : turnL fr to m <;> simp [turnL, h]
  | cons c l ih =>
    simp only [List.cons_append, turnL, ih]
    by_cases e : Lib.indexByte fr c = -1
    · simp [e]
    · simp only [e, if_false]
      cases turnL fr to l <;> cases turnL fr to m <;> simp
theorem turnL_snoc_none (fr to l : List UInt8) (c : UInt8) (h : Lib.indexByte fr c = -1) : turnL fr to (l ++ [c]) = none := by
  rw [turnL_append]
  simp [turnL, h]
theorem turnL_snoc (fr to l a : List UInt8) (c : UInt8) (n : Nat) (hl : turnL fr to l = some a) (h : Lib.indexByte fr c = (n : Int)) : turnL fr to (l ++ [c]) = some (a ++ [to.getD n 0]) := by
  rw [turnL_append, hl]
  have : ¬ (n : Int) = -1 := by omega
  simp [turnL, h, this]
theorem turnL_none_of_prefix (fr to l m : List UInt8) (h : turnL fr to l = none) : turnL fr to (l ++ m) = none := by
  rw [turnL_append, h]; rfl
theorem turnL_length (fr to : List UInt8) : ∀ (l a : List UInt8), turnL fr to l = some a → a.length = l.length
  | [], a, h => by simp [turnL] at h; subst h; rfl
  | c :: l, a, h => by
    simp only [turnL] at h
    split at h
    · cases h
    · cases e : turnL fr to l with
      | none => rw [e] at h; cases h
      | some b => rw [e] at h; simp at h; subst h; simp [turnL_length fr to l b e]
/-- The digits 0 to 9, a to f. -/
def hexL : List UInt8 := [48, 49, 50, 51, 52, 53, 54, 55, 56, 57, 97, 98, 99, 100, 101, 102]
def hexd (n : Nat) : UInt8 := hexL.getD n 0
theorem hexd_at (n : Nat) (h : n < (⟨#[48, 49, 50, 51, 52, 53, 54, 55, 56, 57, 97, 98, 99, 100, 101, 102]⟩ : ByteArray).size) : (⟨#[48, 49, 50, 51, 52, 53, 54, 55, 56, 57, 97, 98, 99, 100, 101, 102]⟩ : ByteArray)[n] = hexd n := by
  have h' : n < hexL.length := h
  unfold hexd
  rw [List.getD_eq_getElem?_getD, List.getElem?_eq_getElem h']
  rfl
def unpackL (l : List UInt8) : List UInt8 := l.flatMap fun c => [hexd (c.toNat / 16), hexd (c.toNat % 16)]
theorem unpackL_snoc (l : List UInt8) (c : UInt8) : unpackL (l ++ [c]) = unpackL l ++ [hexd (c.toNat / 16)] ++ [hexd (c.toNat % 16)] := by simp [unpackL]
theorem unpackL_length (l : List UInt8) : (unpackL l).length = 2 * l.length := by
  induction l with
  | nil => rfl
  | cons c l ih => simp only [unpackL, List.flatMap_cons, List.length_append, List.length_cons, List.length_nil] at *; omega

/-- What a digit says. -/
def hv (c : UInt8) : Nat := (Lib.indexByte hexL c).toNat
def isHex (c : UInt8) : Prop := Lib.indexByte hexL c ≠ -1
theorem hv_index {c : UInt8} (h : isHex c) : Lib.indexByte hexL c = (hv c : Int) := by
  have := Lib.indexByte_ge hexL c
  unfold isHex at h
  unfold hv
  omega
theorem hv_lt {c : UInt8} (h : isHex c) : hv c < 16 := by
  have h1 := (Lib.indexByte_some (hv_index h)).1
  exact (List.getElem?_eq_some_iff.1 h1).1
/-- Two digits a byte. -/
def packE : List UInt8 → List UInt8
  | a :: b :: r => (16 * hv a + hv b).toUInt8 :: packE r
  | _ => []
def evened (l : List UInt8) : List UInt8 := if l.length % 2 = 1 then 48 :: l else l
def packL (l : List UInt8) : List UInt8 := packE (evened l)
theorem evened_even (l : List UInt8) : (evened l).length % 2 = 0 := by
  unfold evened; split
  · simp; omega
  · omega
theorem packE_snoc (a b : UInt8) : ∀ (n : Nat) (l : List UInt8), l.length = 2 * n → packE (l ++ [a, b]) = packE l ++ [(16 * hv a + hv b).toUInt8]
  | 0, [], _ => rfl
  | n + 1, c :: d :: l, h => by
    simp only [List.cons_append, packE]
    rw [packE_snoc a b n l (by simp at h; omega)]
  | n + 1, [_], h => by simp at h; omega
  | n + 1, [], h => by simp at h
theorem packE_length : ∀ (n : Nat) (l : List UInt8), l.length = 2 * n → (packE l).length = n
  | 0, [], _ => rfl
  | n + 1, c :: d :: l, h => by
    simp only [packE, List.length_cons]
    rw [packE_length n l (by simp at h; omega)]
  | n + 1, [_], h => by simp at h; omega
  | n + 1, [], h => by simp at h
/-- Just bytes of a row, and so many. -/
def inRow (row : List UInt8) (c : UInt8) : Bool := decide (Lib.indexByte row c ≠ -1)
def ofB (l row : List UInt8) (n : Int) : Bool := l.all (inRow row) && decide ((l.length : Int) = n)
theorem all_snoc (row l : List UInt8) (c : UInt8) : (l ++ [c]).all (inRow row) = (l.all (inRow row) && inRow row c) := by simp
end Go.Proofs.YtommklkihjmgcaaGreatDoor.fieldp

namespace Go.Proofs.YtommklkihjmgcaaGreatDoor.fieldp
open Go
def tenL : List UInt8 := [48, 49, 50, 51, 52, 53, 54, 55, 56, 57]
def signsL : List UInt8 := [65, 66, 67, 68, 69, 70, 71, 72, 73, 74, 75, 76, 77, 78, 79, 80, 81, 82, 83, 84, 85, 86, 87, 88, 89, 90, 48, 49, 50, 51, 52, 53, 54, 55, 56, 57, 32]
def rightB (k n : Int) (l : List UInt8) : Bool :=
  if k = 5 then (match l with | [] => false | c :: r => (c == 67 || c == 68) && ofB r tenL n)
  else if k = 1 then ofB l tenL n
  else if k = 2 then decide (0 < l.length ∧ (l.length : Int) ≤ n) && ofB l tenL l.length
  else if k = 3 then ofB l signsL n
  else ofB l hexL (2 * n)
end Go.Proofs.YtommklkihjmgcaaGreatDoor.fieldp

namespace Go.Proofs.YtommklkihjmgcaaGreatDoor.fieldp
open Go
/-- A number's last digits, so many. -/
def digL (n : Nat) : Nat → List UInt8
  | 0 => []
  | k + 1 => digL (n / 10) k ++ [(48 + n % 10).toUInt8]
/-- What Digits answers. -/
def digitsR (n size : Int) : ByteArray × Int :=
  if size < 1 ∨ 18 < size then (⟨#[]⟩, 40)
  else if n < 0 ∨ (10 : Int) ^ size.toNat ≤ n then (⟨#[]⟩, 41)
  else (⟨(digL n.toNat size.toNat).toArray⟩, 0)
end Go.Proofs.YtommklkihjmgcaaGreatDoor.fieldp

namespace Go.Proofs.YtommklkihjmgcaaGreatDoor.fieldp
open Go
/-- Digits as a number. -/
def numL (l : List UInt8) : Int := l.foldl (fun a c => 10 * a + ((c.toNat : Int) - 48)) 0
theorem numL_snoc (l : List UInt8) (c : UInt8) : numL (l ++ [c]) = 10 * numL l + ((c.toNat : Int) - 48) := by simp [numL]
def isDig (c : UInt8) : Prop := 48 ≤ c.toNat ∧ c.toNat ≤ 57
set_option maxRecDepth 100000 in
theorem row_dig {c : UInt8} (h : inRow tenL c = true) : isDig c := by
  have : ∀ i : Fin 256, inRow tenL (UInt8.ofNat i.1) = true → 48 ≤ i.1 ∧ i.1 ≤ 57 := by decide
  have h2 := this ⟨c.toNat, c.toNat_lt⟩ (by rw [UInt8.ofNat_toNat]; exact h)
  exact h2
theorem numL_range : ∀ (n : Nat) (l : List UInt8), l.length = n → (∀ c ∈ l, isDig c) → 0 ≤ numL l ∧ numL l < 10 ^ n
  | 0, l, h, _ => by
    obtain rfl : l = [] := List.eq_nil_of_length_eq_zero h
    simp [numL]
  | n + 1, l, h, hd => by
    obtain ⟨l', c, rfl⟩ : ∃ l' c, l = l' ++ [c] := by
      have hne : l ≠ [] := by intro e; rw [e] at h; cases h
      exact ⟨l.dropLast, l.getLast hne, (List.dropLast_concat_getLast hne).symm⟩
    rw [numL_snoc]
    have hl : l'.length = n := by simpa using h
    have ih := numL_range n l' hl (fun c hc => hd c (List.mem_append_left _ hc))
    have hc := hd c (by simp)
    unfold isDig at hc
    have hp : (10 : Int) ^ (n + 1) = 10 * 10 ^ n := by rw [Int.pow_succ, Int.mul_comm]
    omega
/-- What Amount answers. -/
def amountR (l : List UInt8) : Int × Int := if l ≠ [] ∧ l.length ≤ 18 ∧ l.all (inRow tenL) = true then (numL l, 0) else (0, 41)
def pairN (l : List UInt8) (i : Nat) : Int := numL ((l.drop (2 * i)).take 2)
def daysL (m : Int) : Int := (([31, 29, 31, 30, 31, 30, 31, 31, 30, 31, 30, 31] : List Int)).getD (m - 1).toNat 0
/-- What When answers. -/
def whenR (l : List UInt8) : Bool := ofB l tenL 10 && decide (1 ≤ pairN l 0 ∧ pairN l 0 ≤ 12 ∧ 1 ≤ pairN l 1 ∧ pairN l 1 ≤ daysL (pairN l 0) ∧ pairN l 2 < 24 ∧ pairN l 3 < 60 ∧ pairN l 4 < 60)
end Go.Proofs.YtommklkihjmgcaaGreatDoor.fieldp
