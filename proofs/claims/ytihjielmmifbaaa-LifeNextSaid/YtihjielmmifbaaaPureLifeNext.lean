/- For all two numbers the law LifeNext answers true. Conditions: none but that they are of 64 bits. -/
import Derived.Test.YtihjielmmifbaaaPLifeNextx3
namespace Go.Proofs.Ytihjielmmifbaaa.Pure
open Go.RowKit Go.Proofs.Ytihjielmmifbaaa.PLifeNext Go.Proofs.YtihjielmmifbaaaW.PrintWords Go.Proofs.YtihjielmmifbaaaW.PrintLast

theorem shown_true : groatlaw14_shown.f 30 = some true := by decide +kernel

/-- What the code's table says, as one function. -/
def nx (s d : Int) : Int × Int × Int :=
  if s = 0 then (if d = 1 then (1, 0, 0) else if d = 7 then (2, 1, 0) else if d = 8 then (2, 1, 0) else if d = 9 then (0, 0, 0) else if d = 6 then (5, 0, 0) else (0, 0, 160))
  else if s = 1 then (if d = 3 then (2, 1, 0) else if d = 4 then (3, 0, 0) else if d = 5 then (4, 0, 0) else if d = 6 then (5, 0, 0) else if d = 2 then (1, 0, 0) else (0, 0, 160))
  else if s = 2 then (if d = 6 then (5, -1, 0) else if d = 2 then (2, 0, 0) else (0, 0, 160))
  else if s = 3 ∨ s = 4 ∨ s = 5 then (if d = 2 then (s, 0, 0) else if d = 6 then (s, 0, 0) else (0, 0, 160))
  else (0, 0, 160)

theorem next_nx (n : Nat) (s d : Int) : life_Next.f (n + 5) s d = some (nx s d) := by
  by_cases h6 : d = 6
  · subst h6
    simp only [life_Next.f, life_Next.j0, if_true]
    by_cases h2 : s = 2
    · subst h2; simp [life_Next.j1, life_Next.j3, nx]
    · have e : (s == 2) = false := by simpa using h2
      rw [e]
      simp only [life_Next.j1, life_Next.j3, nx]
      by_cases h0 : s = 0
      · subst h0; simp [life_Next.j2]
      by_cases h1 : s = 1
      · subst h1; simp
      by_cases h3 : s = 3
      · subst h3; simp
      by_cases h4 : s = 4
      · subst h4; simp
      by_cases h5 : s = 5
      · subst h5; simp
      simp [h0, h1, h2, h3, h4, h5]
  · simp only [life_Next.f, life_Next.j0, if_neg h6]
    simp only [life_Next.j1, life_Next.j3, nx]
    by_cases h0 : s = 0
    · subst h0
      by_cases d1 : d = 1
      · subst d1; simp
      by_cases d7 : d = 7
      · subst d7; simp [life_Next.j2]
      by_cases d8 : d = 8
      · subst d8; simp [life_Next.j2]
      by_cases d9 : d = 9
      · subst d9; simp [life_Next.j2]
      simp [life_Next.j2, d1, d7, d8, d9, h6]
    by_cases h1 : s = 1
    · subst h1
      simp only [h6, if_false]
      simp
      (repeat' split) <;> simp_all
    by_cases h2 : s = 2
    · subst h2
      simp only [h6, if_false]
      simp
      (repeat' split) <;> simp_all
    by_cases h3 : s = 3
    · subst h3
      simp
      (repeat' split) <;> simp_all
    by_cases h4 : s = 4
    · subst h4
      simp
      (repeat' split) <;> simp_all
    by_cases h5 : s = 5
    · subst h5
      simp
      (repeat' split) <;> simp_all
    simp [h0, h1, h2, h3, h4, h5]

theorem cell_nx (n : Nat) (s d : Int) (h0 : 0 ≤ s) (h5 : s ≤ 5) (h1 : 1 ≤ d) (h9 : d ≤ 9) :
    ∃ x y b, groatref14_cell.f (n + 1) s d = some (x, y, b) ∧ (if b = true then (x, y, 0) else (0, 0, 160)) = nx s d := by
  have hs : s = 0 ∨ s = 1 ∨ s = 2 ∨ s = 3 ∨ s = 4 ∨ s = 5 := by omega
  have hd : d = 1 ∨ d = 2 ∨ d = 3 ∨ d = 4 ∨ d = 5 ∨ d = 6 ∨ d = 7 ∨ d = 8 ∨ d = 9 := by omega
  rcases hs with rfl | rfl | rfl | rfl | rfl | rfl <;> rcases hd with rfl | rfl | rfl | rfl | rfl | rfl | rfl | rfl | rfl <;> exact ⟨_, _, _, rfl, by decide⟩

theorem ref_nx (n : Nat) (s d : Int) : groatref14_Next.f (n + 2) s d = some (nx s d) := by
  unfold groatref14_Next.f
  by_cases h0 : s < 0
  · rw [if_pos h0]; simp only [groatref14_Next.j0, if_true]
    simp [nx, show ¬ s = 0 by omega, show ¬ s = 1 by omega, show ¬ s = 2 by omega, show ¬ s = 3 by omega, show ¬ s = 4 by omega, show ¬ s = 5 by omega]
  rw [if_neg h0]
  by_cases h5 : s > 5
  · rw [if_pos h5]; simp only [groatref14_Next.j0, if_true]
    simp [nx, show ¬ s = 0 by omega, show ¬ s = 1 by omega, show ¬ s = 2 by omega, show ¬ s = 3 by omega, show ¬ s = 4 by omega, show ¬ s = 5 by omega]
  rw [if_neg h5]
  have none_of : (d < 1 ∨ 9 < d) → nx s d = (0, 0, 160) := by
    intro h
    simp [nx, show ¬ d = 1 by omega, show ¬ d = 2 by omega, show ¬ d = 3 by omega, show ¬ d = 4 by omega, show ¬ d = 5 by omega, show ¬ d = 6 by omega, show ¬ d = 7 by omega, show ¬ d = 8 by omega, show ¬ d = 9 by omega]
  by_cases h1 : d < 1
  · rw [if_pos h1]; simp only [groatref14_Next.j0, if_true]
    rw [none_of (.inl h1)]
  rw [if_neg h1]
  by_cases h9 : d > 9
  · simp only [groatref14_Next.j0, h9, decide_true, if_true]
    rw [none_of (.inr h9)]
  · obtain ⟨x, y, b, hc, e⟩ := cell_nx n s d (by omega) (by omega) (by omega) (by omega)
    simp only [groatref14_Next.j0, h9, decide_false, hc, Option.bind_some]
    rw [← e]
    cases b <;> simp

theorem LifeNext : groatlaw14_LifeNext.Pure := by
  intro s d _ _
  refine ⟨30, ?_⟩
  unfold groatlaw14_LifeNext.f
  rw [shown_true, next_nx 25, ref_nx 28]
  simp

end Go.Proofs.Ytihjielmmifbaaa.Pure
