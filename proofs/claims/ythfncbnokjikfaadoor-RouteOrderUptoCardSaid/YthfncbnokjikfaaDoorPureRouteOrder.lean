/- The order in which prefixes were added is not seen: the law's walk, as the row wants it. No condition but the bulk. -/
import Derived.Test.YthfncbnokjikfaaDoorOpsRouteOrder
import Derived.Test.YthfncbnokjikfaaDoorRtI
import Derived.Test.YthfncbnokjikfaaDoorRtM
namespace Go.Proofs.YthfncbnokjikfaaDoor.Pure
open Go.RowKit Go.Proofs.YthfncbnokjikfaaDoor.routew Go.Proofs.YthfncbnokjikfaaDoorW.PrintWords Go.Proofs.YthfncbnokjikfaaDoor.opens Go.Proofs.YthfncbnokjikfaaDoor.routep
theorem routes_in {w : World} {A : Option Addr} {a0 : List opsRouteOrder.S25} (hb : ∀ a ∈ a0, opsRouteOrder.μ25 a ≤ 1048576) (h : opsRouteOrder.k25.C w A a0.length a0) : ∃ rs : List RtV, rs.length = a0.length ∧ RoutesIn w A rs := by
  have get : ∀ i, i < a0.length → ∃ v : RtV, v.Ok w ∧ ∃ ad, A = some ad ∧ w.cell? (ad.add (i * 2)) = some (.string v.k) ∧ w.cell? (ad.add (i * 2 + 1)) = some v.v := fun i hi => by
    obtain ⟨ad, c, h1, h2, h3, h4⟩ := Kd.C_get h opsRouteOrder.z25 (i : Int) (by omega) (by omega)
    have e : a0.getD (i : Int).toNat opsRouteOrder.z25 = a0[i] := by simp [List.getD_eq_getElem?_getD, hi]
    rw [e] at h3
    have hm := hb _ (List.getElem_mem hi)
    obtain ⟨x, hx⟩ : ∃ x, a0[i] = x := ⟨_, rfl⟩
    rw [hx] at h3 hm
    obtain ⟨c0, r0, rfl, rfl, q0⟩ := h3
    obtain ⟨A5, n5, rfl, l5, C5⟩ := q0
    have hs : opsRouteOrder.k25.sz = 2 := rfl
    have hlen : x.f1.length ≤ sumOf (fun _ => 1) x.f1 := sumOf_length (fun _ => 1) (fun _ => Nat.le_refl _) x.f1
    unfold opsRouteOrder.μ25 at hm
    refine ⟨⟨x.f0, x.f1, .slice A5 x.f1.length n5⟩, ⟨by simp only [maxLen]; omega, by show x.f1.length ≤ 1048576; omega, intsIn C5 l5⟩, ad, h1, ?_, ?_⟩
    · have := h4 0 _ rfl
      simpa [hs] using this
    · have := h4 1 _ rfl
      simpa [hs] using this
  have : Inhabited RtV := ⟨⟨⟨#[]⟩, [], .bool false⟩⟩
  obtain ⟨f, hf⟩ := Go.Deep.choose_lt get
  refine ⟨(List.range a0.length).map f, by simp, fun i hi => ?_⟩
  have hi' : i < a0.length := by simpa using hi
  obtain ⟨h1, ⟨b, o, s⟩, h3, h4, h5⟩ := hf i hi'
  have hsp : s = none := by
    obtain ⟨_, ad, g3, g4, _⟩ := hf 0 (by omega)
    rw [h3] at g3
    injection g3 with g3
    rw [← g3] at g4
    cases s with
    | none => rfl
    | some s => simp [Addr.add, World.cell?] at g4; split at g4 <;> simp_all
  subst hsp
  rw [show (⟨b, o, none⟩ : Addr).add (i * 2) = ⟨b, o + i * 2, none⟩ by unfold Addr.add; split <;> simp_all] at h4
  rw [show (⟨b, o, none⟩ : Addr).add (i * 2 + 1) = ⟨b, o + i * 2 + 1, none⟩ by unfold Addr.add; split <;> simp_all; omega] at h5
  have hlt := World.block_lt_of_cell? w ⟨b, o + i * 2, none⟩ h4
  rw [List.getElem_map, List.getElem_range]
  exact ⟨b, o, h3, hlt, h1, h4, h5⟩
theorem pans_in {w : World} {A : Option Addr} {a : List ByteArray} (hb : ∀ x ∈ a, x.size ≤ maxLen) (h : Kd.string.C w A a.length a) : PansIn w A a := by
  have get : ∀ i (hi : i < a.length), ∃ ad, A = some ad ∧ w.cell? (ad.add i) = some (.string a[i]) := fun i hi => by
    obtain ⟨ad, c, h1, h2, h3, h4⟩ := Kd.C_get h ByteArray.empty (i : Int) (by omega) (by omega)
    have e : a.getD (i : Int).toNat ByteArray.empty = a[i] := by simp [List.getD_eq_getElem?_getD, hi]
    rw [e] at h3
    obtain rfl : c = [.string a[i]] := h3
    have := h4 0 _ rfl
    have hs : Kd.string.sz = 1 := rfl
    simp only [Int.toNat_natCast, hs, Nat.mul_one, Nat.add_zero] at this
    exact ⟨ad, h1, this⟩
  intro i hi
  obtain ⟨⟨b, o, s⟩, h1, h2⟩ := get i hi
  have hsp : s = none := by
    obtain ⟨ad, g3, g4⟩ := get 0 (by omega)
    rw [h1] at g3
    injection g3 with g3
    rw [← g3] at g4
    cases s with
    | none => rfl
    | some s => simp [Addr.add, World.cell?] at g4; split at g4 <;> simp_all
  subst hsp
  rw [show (⟨b, o, none⟩ : Addr).add i = ⟨b, o + i, none⟩ by unfold Addr.add; split <;> simp_all] at h2
  exact ⟨b, o, h1, hb _ (List.getElem_mem hi), h2⟩
theorem RouteOrder : opsRouteOrder.Pure2 := by
  intro a0 a1 a2 _ _ _ hb w A0 c0 A2 c2 C0 l0 C2 l2
  obtain ⟨rs, hl, hin⟩ := routes_in (fun a ha => by have := sumOf_mem opsRouteOrder.μ25 ha; omega) C0
  have hlen : a0.length ≤ sumOf opsRouteOrder.μ25 a0 := sumOf_length opsRouteOrder.μ25 (fun a => by unfold opsRouteOrder.μ25; omega) a0
  have hlen2 : a2.length ≤ sumOf (fun a : ByteArray => a.size + 1) a2 := sumOf_length (fun a : ByteArray => a.size + 1) (fun a => by omega) a2
  have := order_walk w c0 c2 hin (by omega) a1 (pans_in (fun x hx => by have := sumOf_mem (fun a : ByteArray => a.size + 1) hx; simp only [maxLen]; omega) C2) (by omega)
  rwa [hl] at this
end Go.Proofs.YthfncbnokjikfaaDoor.Pure
