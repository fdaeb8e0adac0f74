/- Each route is found by its own prefix, whatever longer or shorter ones there are; and a card that begins with none is found by none: the law's walk, as the row wants it. No condition but the bulk. -/
import Derived.Test.YthfncbnokjikfaaDoorOpsRouteOwn
import Derived.Test.YthfncbnokjikfaaDoorRtI
import Derived.Test.YthfncbnokjikfaaDoorRtL
namespace Go.Proofs.YthfncbnokjikfaaDoor.Pure
open Go.RowKit Go.Proofs.YthfncbnokjikfaaDoor.routew Go.Proofs.YthfncbnokjikfaaDoorW.PrintWords Go.Proofs.YthfncbnokjikfaaDoor.opens Go.Proofs.YthfncbnokjikfaaDoor.routep
theorem routes_in {w : World} {A : Option Addr} {a0 : List opsRouteOwn.S25} (hb : ∀ a ∈ a0, opsRouteOwn.μ25 a ≤ 1048576) (h : opsRouteOwn.k25.C w A a0.length a0) : ∃ rs : List RtV, rs.length = a0.length ∧ RoutesIn w A rs := by
  have get : ∀ i, i < a0.length → ∃ v : RtV, v.Ok w ∧ ∃ ad, A = some ad ∧ w.cell? (ad.add (i * 2)) = some (.string v.k) ∧ w.cell? (ad.add (i * 2 + 1)) = some v.v := fun i hi => by
    obtain ⟨ad, c, h1, h2, h3, h4⟩ := Kd.C_get h opsRouteOwn.z25 (i : Int) (by omega) (by omega)
    have e : a0.getD (i : Int).toNat opsRouteOwn.z25 = a0[i] := by simp [List.getD_eq_getElem?_getD, hi]
    rw [e] at h3
    have hm := hb _ (List.getElem_mem hi)
    obtain ⟨x, hx⟩ : ∃ x, a0[i] = x := ⟨_, rfl⟩
    rw [hx] at h3 hm
    obtain ⟨c0, r0, rfl, rfl, q0⟩ := h3
    obtain ⟨A5, n5, rfl, l5, C5⟩ := q0
    have hs : opsRouteOwn.k25.sz = 2 := rfl
    have hlen : x.f1.length ≤ sumOf (fun _ => 1) x.f1 := sumOf_length (fun _ => 1) (fun _ => Nat.le_refl _) x.f1
    unfold opsRouteOwn.μ25 at hm
    refine ⟨⟨x.f0, x.f1, .slice A5 x.f1.length n5⟩, ⟨by simp only [maxLen]; omega, by show x.f1.length ≤ 1048576; omega, intsIn C5 l5⟩, ad, h1, ?_, ?_⟩
    · have := h4 0 _ rfl
      simpa [hs] using this
    · have := h4 1 _ rfl
      simpa [hs] using this
  have : Inhabited RtV := ⟨⟨⟨#[]⟩, [], .bool false⟩⟩
  obtain ⟨f, hf⟩ := Go.Deep.choose_lt get
  refine ⟨(List.range a0.length).map f, by simp, fun i hi => ?_⟩
  have hi' : i < a0.length := by simpa using hi
  obtain ⟨h1, ⟨b, o, s⟩, h3, h4, h5⟩ := hf i hi'
  have hsp : s = none := by
    obtain ⟨_, ad, g3, g4, _⟩ := hf 0 (by omega)
    rw [h3] at g3
    injection g3 with g3
    rw [← g3] at g4
    cases s with
    | none => rfl
    | some s => simp [Addr.add, World.cell?] at g4; split at g4 <;> simp_all
  subst hsp
  rw [show (⟨b, o, none⟩ : Addr).add (i * 2) = ⟨b, o + i * 2, none⟩ by unfold Addr.add; split <;> simp_all] at h4
  rw [show (⟨b, o, none⟩ : Addr).add (i * 2 + 1) = ⟨b, o + i * 2 + 1, none⟩ by unfold Addr.add; split <;> simp_all; omega] at h5
  have hlt := World.block_lt_of_cell? w ⟨b, o + i * 2, none⟩ h4
  rw [List.getElem_map, List.getElem_range]
  exact ⟨b, o, h3, hlt, h1, h4, h5⟩
theorem RouteOwn : opsRouteOwn.Pure2 := by
  intro a0 a1 _ hb w A0 c0 C0 l0
  obtain ⟨rs, hl, hin⟩ := routes_in (fun a ha => by have := sumOf_mem opsRouteOwn.μ25 ha; omega) C0
  have hlen : a0.length ≤ sumOf opsRouteOwn.μ25 a0 := sumOf_length opsRouteOwn.μ25 (fun a => by unfold opsRouteOwn.μ25; omega) a0
  have := own_walk w c0 hin (by omega) a1 (by simp only [maxLen]; omega)
  rwa [hl] at this
end Go.Proofs.YthfncbnokjikfaaDoor.Pure
