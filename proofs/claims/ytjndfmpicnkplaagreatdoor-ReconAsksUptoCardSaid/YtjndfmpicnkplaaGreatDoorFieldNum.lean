/- Plain laws of layer 4: a number in digits is read again. No walk. -/
import Derived.Test.YtjndfmpicnkplaaGreatDoorFieldPlain
import Derived.Test.YtjndfmpicnkplaaGreatDoorWWords
namespace Go.Proofs.YtjndfmpicnkplaaGreatDoor.fieldl
open Go Go.Proofs.YtjndfmpicnkplaaGreatDoor.fieldp

theorem digL_dig (n : Nat) : ∀ (k : Nat), ∀ c ∈ digL n k, isDig c := by
  intro k
  induction k generalizing n with
  | zero => intro c hc; cases hc
  | succ k ih =>
    intro c hc
    rw [digL, List.mem_append] at hc
    rcases hc with hc | hc
    · exact ih _ c hc
    · have : c = (48 + n % 10).toUInt8 := by simpa using hc
      subst this
      unfold isDig
      simp only [Nat.toUInt8, UInt8.toNat_ofNat']
      omega
theorem digL_all (n k : Nat) : (digL n k).all (inRow tenL) = true := List.all_eq_true.2 fun c hc => dig_row (digL_dig n k c hc)
theorem numL_digL : ∀ (k n : Nat), n < 10 ^ k → numL (digL n k) = (n : Int)
  | 0, n, h => by
    have : n = 0 := by simpa using h
    subst this
    rfl
  | k + 1, n, h => by
    rw [digL, numL_snoc, numL_digL k (n / 10) (by rw [Nat.div_lt_iff_lt_mul (by decide), ← Nat.pow_succ]; exact h)]
    have : (((48 + n % 10).toUInt8).toNat : Int) = 48 + (n % 10 : Nat) := by
      simp only [Nat.toUInt8, UInt8.toNat_ofNat']
      omega
    rw [this]
    omega
theorem numL_zero (l : List UInt8) : numL (48 :: l) = numL l := rfl
theorem digL_mod (n k : Nat) : digL n k = digL (n % 10 ^ k) k := by
  induction k generalizing n with
  | zero => rfl
  | succ k ih =>
    rw [digL, digL, ih (n / 10), ih (n % 10 ^ (k + 1) / 10)]
    rw [Nat.pow_succ, Nat.mul_comm, Nat.mod_mul_right_div_self, Nat.mod_mul_right_mod, Nat.mod_mod]
theorem byte_lt (a b : Nat) (ha : a < 10) (hb : b < 10) : ((48 + a).toUInt8 < (48 + b).toUInt8) ↔ a < b := by
  rw [UInt8.lt_iff_toNat_lt]
  simp only [Nat.toUInt8, UInt8.toNat_ofNat']
  omega
theorem byte_eq (a b : Nat) (ha : a < 10) (hb : b < 10) : ((48 + a).toUInt8 = (48 + b).toUInt8) ↔ a = b := by
  constructor
  · intro h
    have := congrArg UInt8.toNat h
    simp only [Nat.toUInt8, UInt8.toNat_ofNat'] at this
    omega
  · intro h; rw [h]
theorem digL_eq {a b k : Nat} (ha : a < 10 ^ k) (hb : b < 10 ^ k) (h : digL a k = digL b k) : a = b := by
  have h1 := numL_digL k a ha
  rw [h, numL_digL k b hb] at h1
  omega
theorem amount_digL {n k : Nat} (hk : 1 ≤ k) (hk2 : k ≤ 18) (h : n < 10 ^ k) : amountR (digL n k) = ((n : Int), 0) := by
  unfold amountR
  rw [if_pos ⟨by intro e; have := digL_length n k; rw [e] at this; simp at this; omega, by rw [digL_length]; exact hk2, digL_all n k⟩, numL_digL k n h]
theorem amount_zero {n k : Nat} (hk2 : k < 18) (h : n < 10 ^ k) : amountR (48 :: digL n k) = ((n : Int), 0) := by
  unfold amountR
  rw [if_pos ⟨by simp, by rw [List.length_cons, digL_length]; omega, by rw [List.all_cons, digL_all n k]; decide⟩, numL_zero, numL_digL k n h]
theorem less_cons (a b : UInt8) (x y : List UInt8) : Op.bytesLess (a :: x) (b :: y) = (decide (a < b) || (a == b && Op.bytesLess x y)) := by
  simp [Op.bytesLess]
theorem less_digL : ∀ (k a b : Nat), a < 10 ^ k → b < 10 ^ k → Op.bytesLess (digL a k) (digL b k) = decide (a < b)
  | 0, a, b, ha, hb => by
    have h1 : a = 0 := by simpa using ha
    have h2 : b = 0 := by simpa using hb
    subst h1 h2
    rfl
  | k + 1, a, b, ha, hb => by
    have hp : 0 < 10 ^ k := Nat.pow_pos (by decide)
    have hp1 : 10 ^ (k + 1) = 10 * 10 ^ k := by rw [Nat.pow_succ, Nat.mul_comm]
    have qa : a / 10 ^ k < 10 := by rw [Nat.div_lt_iff_lt_mul hp]; omega
    have qb : b / 10 ^ k < 10 := by rw [Nat.div_lt_iff_lt_mul hp]; omega
    rw [digL_front, digL_front, less_cons, digL_mod a k, digL_mod b k, less_digL k _ _ (Nat.mod_lt _ hp) (Nat.mod_lt _ hp), Nat.mod_eq_of_lt qa, Nat.mod_eq_of_lt qb]
    have ea := Nat.div_add_mod a (10 ^ k)
    have eb := Nat.div_add_mod b (10 ^ k)
    have ra := Nat.mod_lt a hp
    have rb := Nat.mod_lt b hp
    generalize a / 10 ^ k = x at *
    generalize b / 10 ^ k = y at *
    generalize a % 10 ^ k = u at *
    generalize b % 10 ^ k = v at *
    generalize 10 ^ k = m at *
    by_cases h1 : x < y
    · have : a < b := by
        have : m * (x + 1) ≤ m * y := Nat.mul_le_mul_left _ h1
        rw [Nat.mul_add] at this
        omega
      rw [decide_eq_true ((byte_lt x y qa qb).2 h1), decide_eq_true this]
      rfl
    · rw [decide_eq_false (fun h => h1 ((byte_lt x y qa qb).1 h)), Bool.false_or]
      by_cases h2 : x = y
      · subst h2
        rw [beq_self_eq_true, Bool.true_and]
        rw [Bool.eq_iff_iff, decide_eq_true_iff, decide_eq_true_iff]
        omega
      · have hne : ((48 + x).toUInt8 == (48 + y).toUInt8) = false := beq_eq_false_iff_ne.2 (fun h => h2 ((byte_eq x y qa qb).1 h))
        have : ¬ a < b := by
          have : m * (y + 1) ≤ m * x := Nat.mul_le_mul_left _ (by omega)
          rw [Nat.mul_add] at this
          omega
        rw [hne, decide_eq_false this]
        rfl
end Go.Proofs.YtjndfmpicnkplaaGreatDoor.fieldl
