/- Layer 11's statements: what came in, as the walks want it. Conditions: as each theorem says. -/
import Derived.Test.YthfncbnokjikfaaDoorRtH
import Derived.Test.YthfncbnokjikfaaDoorOpens
namespace Go.Proofs.YthfncbnokjikfaaDoor.routew
open Go.RowKit Go.Proofs.YthfncbnokjikfaaDoorW.PrintWords Go.Proofs.YthfncbnokjikfaaDoor.opens
open Go.Proofs.YthfncbnokjikfaaDoor.routep
open Go.Proofs.YthfncbnokjikfaaDoor.buf
theorem intsIn {w : World} {A : Option Addr} {a : List Int} {c : Nat} (h : (Kd.int .i64).C w A a.length a) (hc : a.length ≤ c) : IntsAt w (.slice A a.length c) a := by
  by_cases h0 : a.length = 0
  · obtain rfl : a = [] := List.eq_nil_of_length_eq_zero h0
    exact ⟨by decide, .inl ⟨rfl, A, c, rfl⟩⟩
  · have get : ∀ i (h : i < a.length), ∃ ad, A = some ad ∧ w.cell? (ad.add i) = some (.int .i64 a[i]) := fun i hi => by
      obtain ⟨ad, c, h1, h2, h3, h4⟩ := Kd.C_get h 0 (i : Int) (by omega) (by omega)
      have e : a.getD (i : Int).toNat 0 = a[i] := by simp [List.getD_eq_getElem?_getD, hi]
      rw [e] at h3
      obtain rfl : c = [.int .i64 a[i]] := h3
      have := h4 0 _ rfl
      have hs : (Kd.int .i64).sz = 1 := rfl
      simp only [Int.toNat_natCast, hs, Nat.mul_one, Nat.add_zero] at this
      exact ⟨ad, h1, this⟩
    obtain ⟨⟨b, o, s⟩, rfl, hz⟩ := get 0 (by omega)
    have hsp : s = none := by
      cases s with
      | none => rfl
      | some s => simp [Addr.add, World.cell?] at hz; split at hz <;> simp_all
    subst hsp
    refine ⟨by have := Kd.C_max h; exact this, .inr ⟨b, o, c, rfl, ?_, hc, fun i hi => ?_⟩⟩
    · exact World.block_lt_of_cell? w ((⟨b, o, none⟩ : Addr).add 0) hz
    · obtain ⟨ad, h1, h2⟩ := get i hi
      cases h1
      rw [show (⟨b, o, none⟩ : Addr).add i = ⟨b, o + i, none⟩ by unfold Addr.add; split <;> simp_all] at h2
      exact h2
end Go.Proofs.YthfncbnokjikfaaDoor.routew
