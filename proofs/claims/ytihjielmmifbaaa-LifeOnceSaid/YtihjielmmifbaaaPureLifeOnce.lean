/- For every list of numbers the law LifeOnce answers true. Conditions: none but that they are of 64 bits. -/
import Derived.Test.YtihjielmmifbaaaPLifeOncex3
namespace Go.Proofs.Ytihjielmmifbaaa.Pure
open Go.RowKit Go.Proofs.Ytihjielmmifbaaa.PLifeOnce Go.Proofs.YtihjielmmifbaaaW.PrintWords Go.Proofs.YtihjielmmifbaaaW.PrintLast

theorem shown_true : groatlaw14_shown.f 30 = some true := by decide +kernel

/-- What the code's table says, as one function. -/
def nx (s d : Int) : Int × Int × Int :=
  if s = 0 then (if d = 1 then (1, 0, 0) else if d = 7 then (2, 1, 0) else if d = 8 then (2, 1, 0) else if d = 9 then (0, 0, 0) else if d = 6 then (5, 0, 0) else (0, 0, 160))
  else if s = 1 then (if d = 3 then (2, 1, 0) else if d = 4 then (3, 0, 0) else if d = 5 then (4, 0, 0) else if d = 6 then (5, 0, 0) else if d = 2 then (1, 0, 0) else (0, 0, 160))
  else if s = 2 then (if d = 6 then (5, -1, 0) else if d = 2 then (2, 0, 0) else (0, 0, 160))
  else if s = 3 ∨ s = 4 ∨ s = 5 then (if d = 2 then (s, 0, 0) else if d = 6 then (s, 0, 0) else (0, 0, 160))
  else (0, 0, 160)

theorem next_nx (n : Nat) (s d : Int) : life_Next.f (n + 5) s d = some (nx s d) := by
  by_cases h6 : d = 6
  · subst h6
    simp only [life_Next.f, life_Next.j0, if_true]
    by_cases h2 : s = 2
    · subst h2; simp [life_Next.j1, life_Next.j3, nx]
    · have e : (s == 2) = false := by simpa using h2
      rw [e]
      simp only [life_Next.j1, life_Next.j3, nx]
      by_cases h0 : s = 0
      · subst h0; simp [life_Next.j2]
      by_cases h1 : s = 1
      · subst h1; simp
      by_cases h3 : s = 3
      · subst h3; simp
      by_cases h4 : s = 4
      · subst h4; simp
      by_cases h5 : s = 5
      · subst h5; simp
      simp [h0, h1, h2, h3, h4, h5]
  · simp only [life_Next.f, life_Next.j0, if_neg h6]
    simp only [life_Next.j1, life_Next.j3, nx]
    by_cases h0 : s = 0
    · subst h0
      by_cases d1 : d = 1
      · subst d1; simp
      by_cases d7 : d = 7
      · subst d7; simp [life_Next.j2]
      by_cases d8 : d = 8
      · subst d8; simp [life_Next.j2]
      by_cases d9 : d = 9
      · subst d9; simp [life_Next.j2]
      simp [life_Next.j2, d1, d7, d8, d9, h6]
    by_cases h1 : s = 1
    · subst h1
      simp only [h6, if_false]
      simp
      (repeat' split) <;> simp_all
    by_cases h2 : s = 2
    · subst h2
      simp only [h6, if_false]
      simp
      (repeat' split) <;> simp_all
    by_cases h3 : s = 3
    · subst h3
      simp
      (repeat' split) <;> simp_all
    by_cases h4 : s = 4
    · subst h4
      simp
      (repeat' split) <;> simp_all
    by_cases h5 : s = 5
    · subst h5
      simp
      (repeat' split) <;> simp_all
    simp [h0, h1, h2, h3, h4, h5]

theorem vals0 (d : Int) : nx 0 d = (1, 0, 0) ∨ nx 0 d = (2, 1, 0) ∨ nx 0 d = (0, 0, 0) ∨ nx 0 d = (5, 0, 0) ∨ nx 0 d = (0, 0, 160) := by
  simp only [nx, if_true]
  (repeat' split) <;> simp
theorem vals1 (d : Int) : nx 1 d = (2, 1, 0) ∨ nx 1 d = (3, 0, 0) ∨ nx 1 d = (4, 0, 0) ∨ nx 1 d = (5, 0, 0) ∨ nx 1 d = (1, 0, 0) ∨ nx 1 d = (0, 0, 160) := by
  simp only [nx, show ¬ (1 : Int) = 0 by omega, if_false, if_true]
  (repeat' split) <;> simp
theorem vals2 (d : Int) : nx 2 d = (5, -1, 0) ∨ nx 2 d = (2, 0, 0) ∨ nx 2 d = (0, 0, 160) := by
  simp only [nx, show ¬ (2 : Int) = 0 by omega, show ¬ (2 : Int) = 1 by omega, if_false, if_true]
  (repeat' split) <;> simp
theorem vals3 (d : Int) : nx 3 d = (3, 0, 0) ∨ nx 3 d = (0, 0, 160) := by
  have e : nx 3 d = if d = 2 then (3, 0, 0) else if d = 6 then (3, 0, 0) else (0, 0, 160) := by
    unfold nx
    rw [if_neg (by omega), if_neg (by omega), if_neg (by omega), if_pos (by omega)]
  rw [e]
  (repeat' split) <;> simp
theorem vals4 (d : Int) : nx 4 d = (4, 0, 0) ∨ nx 4 d = (0, 0, 160) := by
  have e : nx 4 d = if d = 2 then (4, 0, 0) else if d = 6 then (4, 0, 0) else (0, 0, 160) := by
    unfold nx
    rw [if_neg (by omega), if_neg (by omega), if_neg (by omega), if_pos (by omega)]
  rw [e]
  (repeat' split) <;> simp
theorem vals5 (d : Int) : nx 5 d = (5, 0, 0) ∨ nx 5 d = (0, 0, 160) := by
  have e : nx 5 d = if d = 2 then (5, 0, 0) else if d = 6 then (5, 0, 0) else (0, 0, 160) := by
    unfold nx
    rw [if_neg (by omega), if_neg (by omega), if_neg (by omega), if_pos (by omega)]
  rw [e]
  (repeat' split) <;> simp


def Inv (s p t : Int) : Prop :=
  (s = 0 ∧ p = 0 ∧ t = 0) ∨ (s = 1 ∧ p = 0 ∧ t = 0) ∨ (s = 2 ∧ p = 1 ∧ t = 0) ∨ (s = 3 ∧ p = 0 ∧ t = 0) ∨ (s = 4 ∧ p = 0 ∧ t = 0) ∨ (s = 5 ∧ p = 1 ∧ t = 1) ∨ (s = 5 ∧ p = 0 ∧ t = 0)

theorem wrap_next {i : Int} {n : Nat} (h0 : 0 ≤ i) (h : i < (n : Int)) (hn : n ≤ maxLen) : wrap64 (i + 1) = i + 1 := by
  unfold maxLen at hn
  unfold wrap64
  omega

theorem once_loop (l : List Int) (hn : l.length ≤ maxLen) (d : Nat) : ∀ (k : Nat) (s p t i : Int), Inv s p t → 0 ≤ i → i ≤ l.length → (l.length : Int) - i = d → 4 * d + 10 ≤ k →
    groatlaw14_LifeOnce.l0 k l true s p t i = some true := by
  induction d with
  | zero =>
    intro k s p t i inv h0 h1 hd hk
    obtain ⟨k, rfl⟩ : ∃ m, k = m + 1 := ⟨k - 1, by omega⟩
    simp only [groatlaw14_LifeOnce.l0]
    rw [if_neg (by omega)]
    simp only [if_true]
    rcases inv with ⟨_, rfl, rfl⟩ | ⟨_, rfl, rfl⟩ | ⟨_, rfl, rfl⟩ | ⟨_, rfl, rfl⟩ | ⟨_, rfl, rfl⟩ | ⟨_, rfl, rfl⟩ | ⟨_, rfl, rfl⟩ <;> simp
  | succ d ih =>
    intro k s p t i inv h0 h1 hd hk
    obtain ⟨m, rfl⟩ : ∃ m, k = m + 14 := ⟨k - 14, by omega⟩
    have hlt : i < (l.length : Int) := by omega
    have ih' : ∀ (k' : Nat) (s' p' t' : Int), Inv s' p' t' → m + 10 ≤ k' → groatlaw14_LifeOnce.l0 k' l true s' p' t' (wrap64 (i + 1)) = some true := by
      intro k' s' p' t' inv' hk'
      rw [wrap_next h0 hlt hn]
      exact ih k' s' p' t' (i + 1) inv' (by omega) (by omega) (by omega) (by omega)
    rw [groatlaw14_LifeOnce.l0, if_pos hlt, if_pos h0, next_nx (m + 8)]
    simp only [Option.bind_some]
    generalize rd l i = x
    have w01 : wrap64 1 = 1 := by unfold wrap64; omega
    rcases inv with ⟨rfl, rfl, rfl⟩ | ⟨rfl, rfl, rfl⟩ | ⟨rfl, rfl, rfl⟩ | ⟨rfl, rfl, rfl⟩ | ⟨rfl, rfl, rfl⟩ | ⟨rfl, rfl, rfl⟩ | ⟨rfl, rfl, rfl⟩
    · rcases vals0 x with h | h | h | h | h <;> rw [h] <;> simp [groatlaw14_LifeOnce.j1, groatlaw14_LifeOnce.j2, groatlaw14_LifeOnce.j3, w01] <;> exact ih' _ _ _ _ (by simp [Inv]) (by omega)
    · rcases vals1 x with h | h | h | h | h | h <;> rw [h] <;> simp [groatlaw14_LifeOnce.j1, groatlaw14_LifeOnce.j2, groatlaw14_LifeOnce.j3, w01] <;> exact ih' _ _ _ _ (by simp [Inv]) (by omega)
    · rcases vals2 x with h | h | h <;> rw [h] <;> simp [groatlaw14_LifeOnce.j1, groatlaw14_LifeOnce.j2, groatlaw14_LifeOnce.j3, w01] <;> exact ih' _ _ _ _ (by simp [Inv]) (by omega)
    · rcases vals3 x with h | h <;> rw [h] <;> simp [groatlaw14_LifeOnce.j1, groatlaw14_LifeOnce.j2, groatlaw14_LifeOnce.j3] <;> exact ih' _ _ _ _ (by simp [Inv]) (by omega)
    · rcases vals4 x with h | h <;> rw [h] <;> simp [groatlaw14_LifeOnce.j1, groatlaw14_LifeOnce.j2, groatlaw14_LifeOnce.j3] <;> exact ih' _ _ _ _ (by simp [Inv]) (by omega)
    · rcases vals5 x with h | h <;> rw [h] <;> simp [groatlaw14_LifeOnce.j1, groatlaw14_LifeOnce.j2, groatlaw14_LifeOnce.j3] <;> exact ih' _ _ _ _ (by simp [Inv]) (by omega)
    · rcases vals5 x with h | h <;> rw [h] <;> simp [groatlaw14_LifeOnce.j1, groatlaw14_LifeOnce.j2, groatlaw14_LifeOnce.j3] <;> exact ih' _ _ _ _ (by simp [Inv]) (by omega)

theorem LifeOnce : groatlaw14_LifeOnce.Pure := by
  intro l hn _ _
  refine ⟨4 * l.length + 30, ?_⟩
  unfold groatlaw14_LifeOnce.f
  have e : groatlaw14_shown.f (4 * l.length + 30) = some true := by
    rw [Nat.add_comm]
    induction 4 * l.length with
    | zero => exact shown_true
    | succ m ih => exact groatlaw14_shown.mono (30 + m) _ ih
  rw [e]
  simp only [Option.bind_some]
  exact once_loop l hn l.length _ 0 0 0 0 (by simp [Inv]) (by omega) (by omega) (by omega) (by omega)

end Go.Proofs.Ytihjielmmifbaaa.Pure
