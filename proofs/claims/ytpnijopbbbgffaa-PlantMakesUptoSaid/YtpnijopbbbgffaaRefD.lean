/- Walks of layer 3's statements: PlantMakes. Conditions: as each theorem says. -/
import Derived.Test.YtpnijopbbbgffaaRefC
namespace Go.Proofs.Ytpnijopbbbgffaa.plantw
open Go.RowKit
open Go.Proofs.Ytpnijopbbbgffaa.plantp
open Go.Proofs.Ytpnijopbbbgffaa.mapfn
open Go.Proofs.Ytpnijopbbbgffaa.buf
/-- A row of one's own, of numbers. -/
theorem IntsAt.ofBuf {w : World} {g n c : Nat} {c' : Array Value} {zs : List Int} (h : w.heap[g]? = some (.cells c' 3 (0, 0))) (hn : zs.length = n) (h63 : n ≤ maxLen) (hc : ∀ i (hi : i < zs.length), c'[i]? = some (.int .i64 zs[i])) : IntsAt w (.slice (some ⟨g, 0, none⟩) n c) zs := by
  subst hn
  exact ⟨h63, .inr ⟨g, 0, c, rfl, (Array.getElem?_eq_some_iff.1 h).1, fun i hi => by rw [Nat.zero_add, cells_at h]; exact hc i hi⟩⟩
/-- A copy of numbers that came in: append([]int{}, sectors...). -/
theorem own_made {w : World} {v : Value} {zs : List Int} (h : IntsAt w v zs) (hz : zs.length ≤ 1048576) (ty : TypeId) : ∃ B cap w', (Builtin.append_ #[28, 28] ty #[.slice (some ⟨w.heap.size, 0, none⟩) 0 0, v]).run Try.prog (w.alloc (.cells #[] 3)) = .ok (.slice (some ⟨B, 0, none⟩) zs.length cap) w' ∧ Below w.heap.size w w' ∧ w.heap.size ≤ B ∧ zs.length ≤ cap ∧ IntsAt w' (.slice (some ⟨B, 0, none⟩) zs.length cap) zs ∧ (zs ≠ [] → ∃ cur, w'.heap[B]? = some (.cells cur 3 (0, 0)) ∧ zs.length ≤ cur.size) := by
  have b1 : Below w.heap.size w (w.alloc (.cells #[] 3)) := (Below.refl _ _).alloc (Nat.le_refl _) _
  by_cases h0 : zs = []
  · subst h0
    obtain ⟨p, c, rfl⟩ := h.shape
    refine ⟨w.heap.size, 0, w.alloc (.cells #[] 3), ?_, b1, Nat.le_refl _, Nat.le_refl _, ⟨by decide, .inl ⟨rfl, _, _, rfl⟩⟩, fun h => absurd rfl h⟩
    obtain ⟨i, hi, hz, hsz, hby⟩ := info_parts info3f
    cases p <;> simp [Builtin.append_, run_underlying Try.underlying28, sizeOf, typeInfo, hi, Builtin.lenOf, Builtin.firstCells, loadCells, loadCellsFrom, storeCells, Sem.run_bind]
  · obtain ⟨h63, ⟨h1, _⟩ | ⟨b, o, c, rfl, hb, hc⟩⟩ := h
    · exact absurd h1 h0
    · have hn : 0 < zs.length := List.length_pos_iff.2 h0
      obtain ⟨g, cap, w', hr, hB, hg, hc1, hc2, hat, hlt⟩ := run_append_buf (P := Try.prog) (w := w.alloc (.cells #[] 3)) 28 ty 3 (.int .i64 0) 1 8 Try.underlying28 info3f rfl (by omega) (.slice (some ⟨w.heap.size, 0, none⟩) 0 0) 0 [] ⟨rfl, .inl ⟨rfl, .inr ⟨_, rfl⟩⟩⟩ ⟨b, o, none⟩ zs.length c (zs.map (Value.int .i64)) (by simp) (fun j u hu => by
        have hj : j < zs.length := by have := (List.getElem?_eq_some_iff.1 hu).1; simpa using this
        rw [show (⟨b, o, none⟩ : Addr).add j = ⟨b, o + j, none⟩ by unfold Addr.add; split <;> simp_all]
        refine ((b1.cell (p := ⟨b, o + j, none⟩) hb).trans (hc j hj)).trans ?_
        rw [← hu]; simp [hj]) (by intro u hu; simp at hu; obtain ⟨z, _, rfl⟩ := hu; rfl) hn (by rw [Nat.zero_add]; exact h63) (by omega)
      simp only [Nat.zero_add, List.nil_append] at hr hB hc1 hg
      have hb0 : bufBlock (.slice (some ⟨w.heap.size, 0, none⟩) 0 0) = none := rfl
      rw [hb0] at hg hat
      have hgB : w.heap.size ≤ g := by
        rcases hat with h | h
        · cases h
        · rw [h]; exact b1.size
      have hbel : Below w.heap.size w w' := ⟨hg.os.trans b1.os, hg.tape.trans b1.tape, hg.output.trans b1.output, Nat.le_trans b1.size hg.size, fun j hj => (hg.block j (by have := b1.size; omega) (by simp)).trans (b1.block j hj)⟩
      obtain ⟨q1, ⟨q2, _⟩ | ⟨g', cap', cur, hv, q3, q4, q5, q6, q7, q8⟩⟩ := hB
      · omega
      · simp only [Value.slice.injEq, Option.some.injEq, Addr.mk.injEq, and_true, true_and] at hv
        obtain ⟨rfl, rfl⟩ := hv
        have hcs : zs.length ≤ cur.size := by rw [q7]; omega
        refine ⟨g, cap, w', hr, hbel, hgB, hc1, IntsAt.ofBuf q3 rfl h63 (fun i hi => ?_), fun _ => ⟨cur, q3, hcs⟩⟩
        rw [take_get q8 (by omega)]
        simp [hi]
end Go.Proofs.Ytpnijopbbbgffaa.plantw
