/- A sector reads as it was written last, waiting or flushed: the law's walk, as the row wants it. No condition but the bulk. -/
import Derived.Test.YtpnijopbbbgffaaOpsPlantLast
import Derived.Test.YtpnijopbbbgffaaPlantI
namespace Go.Proofs.Ytpnijopbbbgffaa.Pure
open Go.RowKit Go.Proofs.Ytpnijopbbbgffaa.plantw Go.Proofs.YtpnijopbbbgffaaW.PrintWords Go.Proofs.Ytpnijopbbbgffaa.opens Go.Proofs.Ytpnijopbbbgffaa.plantp
theorem ops_in {w : World} {A : Option Addr} {a0 : List opsPlantLast.S39} (hG : ∀ a ∈ a0, opsPlantLast.G39 a) (h : opsPlantLast.k39.C w A a0.length a0) : ∃ l : List OpV, l.length = a0.length ∧ OpsIn w A l := by
  by_cases h0 : a0.length = 0
  · exact ⟨[], by simp [h0], .inl rfl⟩
  · have get : ∀ i, i < a0.length → ∃ v : OpV, v.Ok ∧ IntsAt w v.kv v.keep ∧ ∃ ad, A = some ad ∧ ∀ j u, (opL v)[j]? = some u → w.cell? (ad.add (i * 6 + j)) = some u := fun i hi => by
      obtain ⟨ad, c, h1, h2, h3, h4⟩ := Kd.C_get h opsPlantLast.z39 (i : Int) (by omega) (by omega)
      have e : a0.getD (i : Int).toNat opsPlantLast.z39 = a0[i] := by simp [List.getD_eq_getElem?_getD, hi]
      rw [e] at h3
      have g := hG _ (List.getElem_mem hi)
      obtain ⟨x, hx⟩ : ∃ x, a0[i] = x := ⟨_, rfl⟩
      rw [hx] at h3 g
      obtain ⟨c0, r0, rfl, rfl, q0⟩ := h3
      obtain ⟨c1, r1, rfl, rfl, q1⟩ := q0
      obtain ⟨c2, r2, rfl, rfl, q2⟩ := q1
      obtain ⟨c3, r3, rfl, rfl, q3⟩ := q2
      obtain ⟨c4, r4, rfl, rfl, q4⟩ := q3
      obtain ⟨A5, n5, rfl, _, C5⟩ := q4
      obtain ⟨g0, g1, g2, g3, g4, _⟩ := g
      have hw : ∀ y : Int, (Lit.int .i64 y).wf = true → -9223372036854775808 ≤ y ∧ y ≤ 9223372036854775807 := fun y hy => by
        have : IntKind.i64.min ≤ y ∧ y ≤ IntKind.i64.max := by simpa [Lit.wf] using hy
        exact this
      refine ⟨⟨x.f0, x.f1, x.f2, x.f3, UInt8.ofNat x.f4.toNat, x.f5, .slice A5 x.f5.length n5⟩, ?_, intsIn C5, ad, h1, fun j u hu => ?_⟩
      · intro y hy
        simp only [List.mem_cons, List.not_mem_nil, or_false] at hy
        rcases hy with rfl | rfl | rfl | rfl
        · exact hw _ g0
        · exact hw _ g1
        · exact hw _ g2
        · exact hw _ g3
      · have := h4 j u (by
          rw [← hu]
          simp only [opL]
          rw [toSec_at g4]
          rfl)
        have hs : opsPlantLast.k39.sz = 6 := rfl
        simpa [hs] using this
    have : Inhabited OpV := ⟨⟨0, 0, 0, 0, 0, [], .bool false⟩⟩
    obtain ⟨f, hf⟩ := Go.Deep.choose_lt get
    obtain ⟨_, _, ⟨b, o, s⟩, rfl, hz⟩ := hf 0 (by omega)
    have hz0 := hz 0 _ rfl
    have hsp : s = none := by
      cases s with
      | none => rfl
      | some s => simp [Addr.add, World.cell?] at hz0; split at hz0 <;> simp_all
    subst hsp
    refine ⟨(List.range a0.length).map f, by simp, .inr ⟨b, o, rfl, World.block_lt_of_cell? w ((⟨b, o, none⟩ : Addr).add (0 * 6 + 0)) hz0, fun i hi => ?_⟩⟩
    have hi' : i < a0.length := by simpa using hi
    obtain ⟨h1, h2, ad, h3, h4⟩ := hf i hi'
    cases h3
    rw [List.getElem_map, List.getElem_range]
    refine ⟨h1, h2, fun j u hu => ?_⟩
    have := h4 j u hu
    rwa [show (⟨b, o, none⟩ : Addr).add (i * 6 + j) = ⟨b, o + (i * 6 + j), none⟩ by unfold Addr.add; split <;> simp_all] at this
theorem PlantLast : opsPlantLast.Pure2 := by
  intro a0 h0 hb w A0 c0 C0 _
  obtain ⟨l, hl, hin⟩ := ops_in h0 C0
  have hlen : a0.length ≤ sumOf opsPlantLast.μ39 a0 := sumOf_length opsPlantLast.μ39 (fun a => by unfold opsPlantLast.μ39; omega) a0
  have := last_walk (c := c0) w (l := l) (by omega) hin
  rwa [hl] at this
end Go.Proofs.Ytpnijopbbbgffaa.Pure
