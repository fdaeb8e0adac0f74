/- For every number the law LifeStays answers true. Conditions: none but that it is of 64 bits. -/
import Derived.Test.YtihjielmmifbaaaPLifeStaysx2
namespace Go.Proofs.Ytihjielmmifbaaa.Pure
open Go.RowKit Go.Proofs.Ytihjielmmifbaaa.PLifeStays Go.Proofs.YtihjielmmifbaaaW.PrintWords Go.Proofs.YtihjielmmifbaaaW.PrintLast

theorem shown_true : groatlaw14_shown.f 30 = some true := by decide +kernel

/-- What the code's table says, as one function. -/
def nx (s d : Int) : Int × Int × Int :=
  if s = 0 then (if d = 1 then (1, 0, 0) else if d = 7 then (2, 1, 0) else if d = 8 then (2, 1, 0) else if d = 9 then (0, 0, 0) else if d = 6 then (5, 0, 0) else (0, 0, 160))
  else if s = 1 then (if d = 3 then (2, 1, 0) else if d = 4 then (3, 0, 0) else if d = 5 then (4, 0, 0) else if d = 6 then (5, 0, 0) else if d = 2 then (1, 0, 0) else (0, 0, 160))
  else if s = 2 then (if d = 6 then (5, -1, 0) else if d = 2 then (2, 0, 0) else (0, 0, 160))
  else if s = 3 ∨ s = 4 ∨ s = 5 then (if d = 2 then (s, 0, 0) else if d = 6 then (s, 0, 0) else (0, 0, 160))
  else (0, 0, 160)

theorem next_nx (n : Nat) (s d : Int) : life_Next.f (n + 5) s d = some (nx s d) := by
  by_cases h6 : d = 6
  · subst h6
    simp only [life_Next.f, life_Next.j0, if_true]
    by_cases h2 : s = 2
    · subst h2; simp [life_Next.j1, life_Next.j3, nx]
    · have e : (s == 2) = false := by simpa using h2
      rw [e]
      simp only [life_Next.j1, life_Next.j3, nx]
      by_cases h0 : s = 0
      · subst h0; simp [life_Next.j2]
      by_cases h1 : s = 1
      · subst h1; simp
      by_cases h3 : s = 3
      · subst h3; simp
      by_cases h4 : s = 4
      · subst h4; simp
      by_cases h5 : s = 5
      · subst h5; simp
      simp [h0, h1, h2, h3, h4, h5]
  · simp only [life_Next.f, life_Next.j0, if_neg h6]
    simp only [life_Next.j1, life_Next.j3, nx]
    by_cases h0 : s = 0
    · subst h0
      by_cases d1 : d = 1
      · subst d1; simp
      by_cases d7 : d = 7
      · subst d7; simp [life_Next.j2]
      by_cases d8 : d = 8
      · subst d8; simp [life_Next.j2]
      by_cases d9 : d = 9
      · subst d9; simp [life_Next.j2]
      simp [life_Next.j2, d1, d7, d8, d9, h6]
    by_cases h1 : s = 1
    · subst h1
      simp only [h6, if_false]
      simp
      (repeat' split) <;> simp_all
    by_cases h2 : s = 2
    · subst h2
      simp only [h6, if_false]
      simp
      (repeat' split) <;> simp_all
    by_cases h3 : s = 3
    · subst h3
      simp
      (repeat' split) <;> simp_all
    by_cases h4 : s = 4
    · subst h4
      simp
      (repeat' split) <;> simp_all
    by_cases h5 : s = 5
    · subst h5
      simp
      (repeat' split) <;> simp_all
    simp [h0, h1, h2, h3, h4, h5]

theorem vals0 (d : Int) : nx 0 d = (1, 0, 0) ∨ nx 0 d = (2, 1, 0) ∨ nx 0 d = (0, 0, 0) ∨ nx 0 d = (5, 0, 0) ∨ nx 0 d = (0, 0, 160) := by
  simp only [nx, if_true]
  (repeat' split) <;> simp
theorem vals1 (d : Int) : nx 1 d = (2, 1, 0) ∨ nx 1 d = (3, 0, 0) ∨ nx 1 d = (4, 0, 0) ∨ nx 1 d = (5, 0, 0) ∨ nx 1 d = (1, 0, 0) ∨ nx 1 d = (0, 0, 160) := by
  simp only [nx, show ¬ (1 : Int) = 0 by omega, if_false, if_true]
  (repeat' split) <;> simp
theorem vals2 (d : Int) : nx 2 d = (5, -1, 0) ∨ nx 2 d = (2, 0, 0) ∨ nx 2 d = (0, 0, 160) := by
  simp only [nx, show ¬ (2 : Int) = 0 by omega, show ¬ (2 : Int) = 1 by omega, if_false, if_true]
  (repeat' split) <;> simp
theorem vals3 (d : Int) : nx 3 d = (3, 0, 0) ∨ nx 3 d = (0, 0, 160) := by
  have e : nx 3 d = if d = 2 then (3, 0, 0) else if d = 6 then (3, 0, 0) else (0, 0, 160) := by
    unfold nx
    rw [if_neg (by omega), if_neg (by omega), if_neg (by omega), if_pos (by omega)]
  rw [e]
  (repeat' split) <;> simp
theorem vals4 (d : Int) : nx 4 d = (4, 0, 0) ∨ nx 4 d = (0, 0, 160) := by
  have e : nx 4 d = if d = 2 then (4, 0, 0) else if d = 6 then (4, 0, 0) else (0, 0, 160) := by
    unfold nx
    rw [if_neg (by omega), if_neg (by omega), if_neg (by omega), if_pos (by omega)]
  rw [e]
  (repeat' split) <;> simp
theorem vals5 (d : Int) : nx 5 d = (5, 0, 0) ∨ nx 5 d = (0, 0, 160) := by
  have e : nx 5 d = if d = 2 then (5, 0, 0) else if d = 6 then (5, 0, 0) else (0, 0, 160) := by
    unfold nx
    rw [if_neg (by omega), if_neg (by omega), if_neg (by omega), if_pos (by omega)]
  rw [e]
  (repeat' split) <;> simp


theorem LifeStays : groatlaw14_LifeStays.Pure := by
  intro d _
  refine ⟨30, ?_⟩
  unfold groatlaw14_LifeStays.f
  rw [shown_true]
  simp only [Option.bind_some]
  have s3 : ∀ n, groatlaw14_LifeStays.l0 (n + 1) d true [3, 4, 5] 3 = some true := by
    intro n
    rw [groatlaw14_LifeStays.l0, if_neg (by decide)]
  have s2 : ∀ n, groatlaw14_LifeStays.l0 (n + 5 + 1) d true [3, 4, 5] 2 = some true := by
    intro n
    rw [groatlaw14_LifeStays.l0, if_pos (by decide), if_pos (by decide), show rd [3, 4, 5] 2 = 5 from rfl, next_nx n, show wrap64 (2 + 1) = 3 from by unfold wrap64; omega, s3 (n + 4)]
    rcases vals5 d with h | h <;> rw [h] <;> simp
  have s1 : ∀ n, groatlaw14_LifeStays.l0 (n + 5 + 1 + 1) d true [3, 4, 5] 1 = some true := by
    intro n
    rw [groatlaw14_LifeStays.l0, if_pos (by decide), if_pos (by decide), show rd [3, 4, 5] 1 = 4 from rfl, next_nx (n + 1), show wrap64 (1 + 1) = 2 from by unfold wrap64; omega, s2 n]
    rcases vals4 d with h | h <;> rw [h] <;> simp
  show groatlaw14_LifeStays.l0 (22 + 5 + 1 + 1 + 1) d true [3, 4, 5] 0 = some true
  rw [groatlaw14_LifeStays.l0, if_pos (by decide), if_pos (by decide), show rd [3, 4, 5] 0 = 3 from rfl, next_nx 24, show wrap64 (0 + 1) = 1 from by unfold wrap64; omega, s1 22]
  rcases vals3 d with h | h <;> rw [h] <;> simp

end Go.Proofs.Ytihjielmmifbaaa.Pure
