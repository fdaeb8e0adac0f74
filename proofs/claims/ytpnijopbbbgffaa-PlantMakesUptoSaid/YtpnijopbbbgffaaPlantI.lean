/- Layer 3's statements: what came in, as the walks want it. Conditions: as each theorem says. -/
import Derived.Test.YtpnijopbbbgffaaPlantH
import Derived.Test.YtpnijopbbbgffaaOpens
namespace Go.Proofs.Ytpnijopbbbgffaa.plantw
open Go.RowKit Go.Proofs.YtpnijopbbbgffaaW.PrintWords Go.Proofs.Ytpnijopbbbgffaa.opens
open Go.Proofs.Ytpnijopbbbgffaa.plantp
open Go.Proofs.Ytpnijopbbbgffaa.buf
/-- Numbers below 256 as bytes. -/
def toSec (l : List Int) : Sec := l.map fun x => UInt8.ofNat x.toNat
theorem toSec_len (l : List Int) : (toSec l).length = l.length := by simp [toSec]
theorem toSec_at {x : Int} (h : (Lit.int .u8 x).wf = true) : ((UInt8.ofNat x.toNat).toNat : Int) = x := by
  have : IntKind.u8.min ≤ x ∧ x ≤ IntKind.u8.max := by simpa [Lit.wf] using h
  have e1 : IntKind.u8.min = 0 := by decide
  have e2 : IntKind.u8.max = 255 := by decide
  simp
  omega
theorem bytesIn {w : World} {A : Option Addr} {a : List Int} (ha : ∀ x ∈ a, (Lit.int .u8 x).wf = true) (h : (Kd.int .u8).C w A a.length a) : BytesIn w A (toSec a) := by
  intro i hi
  have hi' : i < a.length := by rwa [toSec_len] at hi
  obtain ⟨ad, c, h1, h2, h3, h4⟩ := Kd.C_get h 0 (i : Int) (by omega) (by omega)
  refine ⟨ad, h1, ?_⟩
  have e : a.getD (i : Int).toNat 0 = a[i] := by simp [List.getD_eq_getElem?_getD, hi']
  rw [e] at h3
  obtain rfl : c = [.int .u8 a[i]] := h3
  have := h4 0 _ rfl
  simp only [Int.toNat_natCast] at this
  have hs : (Kd.int .u8).sz = 1 := rfl
  rw [hs] at this
  simp only [Nat.mul_one, Nat.add_zero] at this
  rw [this]
  simp only [toSec, List.getElem_map, u8v]
  rw [toSec_at (ha _ (List.getElem_mem hi'))]
theorem intsIn {w : World} {A : Option Addr} {a : List Int} {c : Nat} (h : (Kd.int .i64).C w A a.length a) : IntsAt w (.slice A a.length c) a := by
  by_cases h0 : a.length = 0
  · obtain rfl : a = [] := List.eq_nil_of_length_eq_zero h0
    exact ⟨by decide, .inl ⟨rfl, A, c, rfl⟩⟩
  · have get : ∀ i (h : i < a.length), ∃ ad, A = some ad ∧ w.cell? (ad.add i) = some (.int .i64 a[i]) := fun i hi => by
      obtain ⟨ad, c, h1, h2, h3, h4⟩ := Kd.C_get h 0 (i : Int) (by omega) (by omega)
      have e : a.getD (i : Int).toNat 0 = a[i] := by simp [List.getD_eq_getElem?_getD, hi]
      rw [e] at h3
      obtain rfl : c = [.int .i64 a[i]] := h3
      have := h4 0 _ rfl
      have hs : (Kd.int .i64).sz = 1 := rfl
      simp only [Int.toNat_natCast, hs, Nat.mul_one, Nat.add_zero] at this
      exact ⟨ad, h1, this⟩
    obtain ⟨⟨b, o, s⟩, rfl, hz⟩ := get 0 (by omega)
    have hsp : s = none := by
      cases s with
      | none => rfl
      | some s => simp [Addr.add, World.cell?] at hz; split at hz <;> simp_all
    subst hsp
    refine ⟨by have := Kd.C_max h; exact this, .inr ⟨b, o, c, rfl, ?_, fun i hi => ?_⟩⟩
    · exact World.block_lt_of_cell? w ((⟨b, o, none⟩ : Addr).add 0) hz
    · obtain ⟨ad, h1, h2⟩ := get i hi
      cases h1
      rw [show (⟨b, o, none⟩ : Addr).add i = ⟨b, o + i, none⟩ by unfold Addr.add; split <;> simp_all] at h2
      exact h2
end Go.Proofs.Ytpnijopbbbgffaa.plantw
