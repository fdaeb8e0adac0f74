/- For all two numbers the law LifePosts answers true, in any memory: the walk of its Go code. Conditions: none but that the numbers are of 64 bits. -/
import Derived.Test.YtihjielmmifbaaaPLifeStaysx2
import Derived.Outline
namespace Go.Proofs.Ytihjielmmifbaaa.posts
open Go.RowKit Go.Proofs.Ytihjielmmifbaaa.PLifeStays Go.Proofs.YtihjielmmifbaaaW.PrintWords Go.Proofs.YtihjielmmifbaaaW.PrintLast

theorem shown_true : groatlaw14_shown.f 30 = some true := by decide +kernel

/-- What the code's table says, as one function. -/
def nx (s d : Int) : Int × Int × Int :=
  if s = 0 then (if d = 1 then (1, 0, 0) else if d = 7 then (2, 1, 0) else if d = 8 then (2, 1, 0) else if d = 9 then (0, 0, 0) else if d = 6 then (5, 0, 0) else (0, 0, 160))
  else if s = 1 then (if d = 3 then (2, 1, 0) else if d = 4 then (3, 0, 0) else if d = 5 then (4, 0, 0) else if d = 6 then (5, 0, 0) else if d = 2 then (1, 0, 0) else (0, 0, 160))
  else if s = 2 then (if d = 6 then (5, -1, 0) else if d = 2 then (2, 0, 0) else (0, 0, 160))
  else if s = 3 ∨ s = 4 ∨ s = 5 then (if d = 2 then (s, 0, 0) else if d = 6 then (s, 0, 0) else (0, 0, 160))
  else (0, 0, 160)

theorem next_nx (n : Nat) (s d : Int) : life_Next.f (n + 5) s d = some (nx s d) := by
  by_cases h6 : d = 6
  · subst h6
    simp only [life_Next.f, life_Next.j0, if_true]
    by_cases h2 : s = 2
    · subst h2; simp [life_Next.j1, life_Next.j3, nx]
    · have e : (s == 2) = false := by simpa using h2
      rw [e]
      simp only [life_Next.j1, life_Next.j3, nx]
      by_cases h0 : s = 0
      · subst h0; simp [life_Next.j2]
      by_cases h1 : s = 1
      · subst h1; simp
      by_cases h3 : s = 3
      · subst h3; simp
      by_cases h4 : s = 4
      · subst h4; simp
      by_cases h5 : s = 5
      · subst h5; simp
      simp [h0, h1, h2, h3, h4, h5]
  · simp only [life_Next.f, life_Next.j0, if_neg h6]
    simp only [life_Next.j1, life_Next.j3, nx]
    by_cases h0 : s = 0
    · subst h0
      by_cases d1 : d = 1
      · subst d1; simp
      by_cases d7 : d = 7
      · subst d7; simp [life_Next.j2]
      by_cases d8 : d = 8
      · subst d8; simp [life_Next.j2]
      by_cases d9 : d = 9
      · subst d9; simp [life_Next.j2]
      simp [life_Next.j2, d1, d7, d8, d9, h6]
    by_cases h1 : s = 1
    · subst h1
      simp only [h6, if_false]
      simp
      (repeat' split) <;> simp_all
    by_cases h2 : s = 2
    · subst h2
      simp only [h6, if_false]
      simp
      (repeat' split) <;> simp_all
    by_cases h3 : s = 3
    · subst h3
      simp
      (repeat' split) <;> simp_all
    by_cases h4 : s = 4
    · subst h4
      simp
      (repeat' split) <;> simp_all
    by_cases h5 : s = 5
    · subst h5
      simp
      (repeat' split) <;> simp_all
    simp [h0, h1, h2, h3, h4, h5]
theorem vals0 (d : Int) : nx 0 d = (1, 0, 0) ∨ nx 0 d = (2, 1, 0) ∨ nx 0 d = (0, 0, 0) ∨ nx 0 d = (5, 0, 0) ∨ nx 0 d = (0, 0, 160) := by
  simp only [nx, if_true]
  (repeat' split) <;> simp
theorem vals1 (d : Int) : nx 1 d = (2, 1, 0) ∨ nx 1 d = (3, 0, 0) ∨ nx 1 d = (4, 0, 0) ∨ nx 1 d = (5, 0, 0) ∨ nx 1 d = (1, 0, 0) ∨ nx 1 d = (0, 0, 160) := by
  simp only [nx, show ¬ (1 : Int) = 0 by omega, if_false, if_true]
  (repeat' split) <;> simp
theorem vals2 (d : Int) : nx 2 d = (5, -1, 0) ∨ nx 2 d = (2, 0, 0) ∨ nx 2 d = (0, 0, 160) := by
  simp only [nx, show ¬ (2 : Int) = 0 by omega, show ¬ (2 : Int) = 1 by omega, if_false, if_true]
  (repeat' split) <;> simp
theorem vals3 (d : Int) : nx 3 d = (3, 0, 0) ∨ nx 3 d = (0, 0, 160) := by
  have e : nx 3 d = if d = 2 then (3, 0, 0) else if d = 6 then (3, 0, 0) else (0, 0, 160) := by
    unfold nx
    rw [if_neg (by omega), if_neg (by omega), if_neg (by omega), if_pos (by omega)]
  rw [e]
  (repeat' split) <;> simp
theorem vals4 (d : Int) : nx 4 d = (4, 0, 0) ∨ nx 4 d = (0, 0, 160) := by
  have e : nx 4 d = if d = 2 then (4, 0, 0) else if d = 6 then (4, 0, 0) else (0, 0, 160) := by
    unfold nx
    rw [if_neg (by omega), if_neg (by omega), if_neg (by omega), if_pos (by omega)]
  rw [e]
  (repeat' split) <;> simp
theorem vals5 (d : Int) : nx 5 d = (5, 0, 0) ∨ nx 5 d = (0, 0, 160) := by
  have e : nx 5 d = if d = 2 then (5, 0, 0) else if d = 6 then (5, 0, 0) else (0, 0, 160) := by
    unfold nx
    rw [if_neg (by omega), if_neg (by omega), if_neg (by omega), if_pos (by omega)]
  rw [e]
  (repeat' split) <;> simp



theorem key (s d : Int) : (nx s d = (0, 0, 160)) ∨ (s ≠ 2 ∧ nx s d = (2, 1, 0)) ∨ (s = 2 ∧ (nx s d = (5, -1, 0) ∨ nx s d = (2, 0, 0))) ∨ (s ≠ 2 ∧ ∃ x, x ≠ 2 ∧ nx s d = (x, 0, 0)) := by
  by_cases h0 : s = 0
  · subst h0
    rcases vals0 d with h | h | h | h | h <;> simp [h]
  by_cases h1 : s = 1
  · subst h1
    rcases vals1 d with h | h | h | h | h | h <;> simp [h]
  by_cases h2 : s = 2
  · subst h2
    rcases vals2 d with h | h | h <;> simp [h]
  by_cases h3 : s = 3
  · subst h3
    rcases vals3 d with h | h <;> simp [h]
  by_cases h4 : s = 4
  · subst h4
    rcases vals4 d with h | h <;> simp [h]
  by_cases h5 : s = 5
  · subst h5
    rcases vals5 d with h | h <;> simp [h]
  left
  simp [nx, h0, h1, h2, h3, h4, h5]

theorem shown_c (w : World) : Calls Try.prog 9 #[] w fun e w' => e = .returned (.bool true) ∧ Below w.heap.size w w' :=
  groatlaw14_shown.calls 30 true w shown_true
theorem next_c (s d : Int) (w : World) : Calls Try.prog 10 #[.int .i64 s, .int .i64 d] w fun e w' => e = .returned (.tuple #[.int .i64 (nx s d).1, .int .i64 (nx s d).2.1, .int .i64 (nx s d).2.2]) ∧ Below w.heap.size w w' := by
  refine (life_Next.calls 30 s d _ _ _ w (next_nx 25 s d)).mono ?_
  rintro e w' ⟨rfl, h⟩
  obtain ⟨n, rfl⟩ := h.out
  exact ⟨rfl, pw_below_drewN (Below.refl _ _) n⟩

set_option maxHeartbeats 1000000 in
set_option maxRecDepth 100000 in
theorem walk (s d : Int) (w : World) :
    Calls Try.prog 6 #[.int .i64 s, .int .i64 d] w fun e w' => e = .returned (.bool true) ∧ Below w.heap.size w w' := by
  have hk := key s d
  have hn := next_c s d
  generalize nx s d = r at hk hn
  rcases hk with rfl | ⟨hs, rfl⟩ | ⟨rfl, rfl | rfl⟩ | ⟨hs, x, hx, rfl⟩
  case inl =>
    have HN := Aside0.mk hn
    clear hn
    go_enter Try.func6, Try.ntmps6
    go_wp2_with (first | (go_at_call 9; refine (shown_c _).mono ?_; rintro e w1 ⟨rfl, hb1⟩; have HB1 := Aside0.mk hb1; clear hb1) | (go_at_call 10; refine (HN.out _).mono ?_; rintro e w2 ⟨rfl, hb2⟩; have HB2 := Aside0.mk hb2; clear hb2))
    go_ret
    exact ⟨rfl, below_step HB1.out HB2.out⟩
  case inr.inl =>
    have hs1 : (s == 2) = false := beq_eq_false_iff_ne.mpr hs
    have hs2 : (s != 2) = true := bne_iff_ne.mpr hs
    clear hs
    have HN := Aside0.mk hn
    clear hn
    go_enter Try.func6, Try.ntmps6
    go_wp2_with (first | (go_at_call 9; refine (shown_c _).mono ?_; rintro e w1 ⟨rfl, hb1⟩; have HB1 := Aside0.mk hb1; clear hb1) | (go_at_call 10; refine (HN.out _).mono ?_; rintro e w2 ⟨rfl, hb2⟩; have HB2 := Aside0.mk hb2; clear hb2))
    go_ret
    exact ⟨rfl, below_step HB1.out HB2.out⟩
  case inr.inr.inr =>
    have hs1 : (s == 2) = false := beq_eq_false_iff_ne.mpr hs
    have hs2 : (s != 2) = true := bne_iff_ne.mpr hs
    have hx1 : (x == 2) = false := beq_eq_false_iff_ne.mpr hx
    have hx2 : (x != 2) = true := bne_iff_ne.mpr hx
    clear hs hx
    have HN := Aside0.mk hn
    clear hn
    go_enter Try.func6, Try.ntmps6
    go_wp2_with (first | (go_at_call 9; refine (shown_c _).mono ?_; rintro e w1 ⟨rfl, hb1⟩; have HB1 := Aside0.mk hb1; clear hb1) | (go_at_call 10; refine (HN.out _).mono ?_; rintro e w2 ⟨rfl, hb2⟩; have HB2 := Aside0.mk hb2; clear hb2))
    go_ret
    exact ⟨rfl, below_step HB1.out HB2.out⟩
  all_goals
    have HN := Aside0.mk hn
    clear hn
    go_enter Try.func6, Try.ntmps6
    go_wp2_with (first | (go_at_call 9; refine (shown_c _).mono ?_; rintro e w1 ⟨rfl, hb1⟩; have HB1 := Aside0.mk hb1; clear hb1) | (go_at_call 10; refine (HN.out _).mono ?_; rintro e w2 ⟨rfl, hb2⟩; have HB2 := Aside0.mk hb2; clear hb2))
    go_ret
    exact ⟨rfl, below_step HB1.out HB2.out⟩
end Go.Proofs.Ytihjielmmifbaaa.posts
