/- Layer 5's laws: a message's fields copied into a row of one's own; the steps of such a region. Conditions: as each theorem says. -/
import Derived.Test.YtommklkihjmgcaaGreatDoorLawX
namespace Go.Proofs.YtommklkihjmgcaaGreatDoor.msgw
open Go.RowKit
open Go.Proofs.YtommklkihjmgcaaGreatDoor.msgp
open Go.Proofs.YtommklkihjmgcaaGreatDoor.buf
section
variable {ops : Array Oper} {K : Act → World → Prop} {Q : Exit → Act → World → Prop} {Er : Prop} {o : Oper} {a : Act} {W : World}
theorem exec_bs (ho : o.op = .buildSlice 22 0 #[]) : (execOp a.eval o).run Tryz.prog W = .ok (.value (.slice (some ⟨W.heap.size, 0, none⟩) 0 0)) (W.alloc (.cells #[] 28)) := by
  obtain ⟨ie, h1, _⟩ := info_parts (P := Tryz.prog) info45f
  unfold execOp
  simp [ho, Instr.buildSlice, run_underlying Tryz.underlying22, sizeOf, typeInfo, h1, newRow, Instr.fill]
  rw [show Array.range 0 = #[] from Array.eq_empty_of_size_eq_zero (by simp), Array.map_empty]
theorem step_bs (hgd : o.guard = none) (ho : o.op = .buildSlice 22 0 #[]) (h : ∀ E w', Below W.heap.size W w' → K (a.put o.dst (.slice (some ⟨E, 0, none⟩) 0 0)) w') :
    if Region.wanted o (yielded ops a.tmps) = true then Oper.wp Tryz.prog o a W K Q else Er :=
  step_run hgd _ (exec_bs ho) (h _ _ (alloc_below _ _))
theorem zero32 (w : World) : (zeroValue 24).run Tryz.prog w = .ok (.agg #[.int .i64 0, .slice none 0 0]) w := (zero_of_info (P := Tryz.prog) (t := 24) (v := .agg #[.int .i64 0, .slice none 0 0]) (n := 2) (by kernel_rfl)).1 w
theorem step_al (hgd : o.guard = none) (ho : o.op = .alloc 24) (h : ∀ k w', Below W.heap.size W w' → W.heap.size ≤ k → w'.heap[k]? = some (.cells #[.int .i64 0, .slice none 0 0] 24 (0, 0)) → K (a.put o.dst (.pointer (some ⟨k, 0, none⟩))) w') :
    if Region.wanted o (yielded ops a.tmps) = true then Oper.wp Tryz.prog o a W K Q else Er :=
  step_run hgd _ (exec_alloc 24 ho #[.int .i64 0, .slice none 0 0] (zero32 W)) (h _ _ (alloc_below _ _) (Nat.le_refl _) (heap_alloc_last _ _))
theorem step_own (hgd : o.guard = none) (s x : Operand) (ho : o.op = .call { callee := .builtin .append, args := #[s, x], argTypes := #[22, 22] }) {E : Nat} {p : Option Addr} {c : Nat} {F : Flds} (hs : a.eval s = .slice (some ⟨E, 0, none⟩) 0 0) (hx : a.eval x = .slice p F.length c) (hF : FsAt W (.slice p F.length c) F) (hl : F.length ≤ 2097152)
    (h : ∀ p' c' w', FBuf W.heap.size w' (.slice p' F.length c') F → Below W.heap.size W w' → K (a.put o.dst (.slice p' F.length c')) w') :
    if Region.wanted o (yielded ops a.tmps) = true then Oper.wp Tryz.prog o a W K Q else Er := by
  by_cases h0 : F.length = 0
  · obtain rfl := List.eq_nil_of_length_eq_zero h0
    exact step_run hgd _ (exec_append_no s x 22 ho 28 _ 2 24 Tryz.underlying22 info45f hs hx (Nat.le_refl _)) (h _ _ _ ⟨⟨rfl, .inl ⟨rfl, .inr ⟨_, rfl⟩⟩⟩, fun g h => by simp [bufBlock] at h⟩ (Below.refl _ _))
  · obtain ⟨b, q, rfl, _, _⟩ := hF.get 0 (by omega)
    have hB0 : Buf W 28 2 (.slice (some ⟨E, 0, none⟩) 0 0) 0 [] := ⟨rfl, .inl ⟨rfl, .inr ⟨_, rfl⟩⟩⟩
    have hnews : ∀ j u, (F.flatMap fCells)[j]? = some u → W.cell? ((⟨b, q, none⟩ : Addr).add j) = some u := fun j u hu => by
      have hadd : (⟨b, q, none⟩ : Addr).add j = ⟨b, q + j, none⟩ := by unfold Addr.add; split <;> simp_all
      have hj : j < F.length * 2 := by rw [← fCells_len]; exact (List.getElem?_eq_some_iff.1 hu).1
      obtain ⟨b', o', e, q0, q1⟩ := hF.get (j / 2) (by omega)
      simp only [Option.some.injEq, Addr.mk.injEq, and_true] at e
      obtain ⟨rfl, rfl⟩ := e
      obtain ⟨f0, f1⟩ := fCells_at F (j / 2) (by omega)
      rw [hadd]
      rcases Nat.mod_two_eq_zero_or_one j with hm | hm
      · have ej : j / 2 * 2 = j := by omega
        rw [ej] at f0 q0
        rw [f0] at hu
        rw [q0, hu]
      · have ej : j / 2 * 2 + 1 = j := by omega
        rw [ej] at f1
        rw [show q + j / 2 * 2 + 1 = q + j by omega] at q1
        rw [f1] at hu
        rw [q1, hu]
    refine step_append_buf hgd s x 22 ho 28 _ 2 24 Tryz.underlying22 info45f rfl (by omega) (.slice (some ⟨E, 0, none⟩) 0 0) 0 [] hs hB0 ⟨b, q, none⟩ F.length c hx (F.flatMap fCells) (fCells_len F) hnews (fCells_one F) (by omega) (by simp only [maxLen]; omega) (by omega) (fun g cap w' hB hg h1 h2 hat hlt => ?_)
    have hg' : W.grownBy w' none := hg
    have hat' : g = W.heap.size := by rcases hat with hat | hat
                                      · cases hat
                                      · exact hat
    have hb : Below W.heap.size W w' := ⟨hg'.os, hg'.tape, hg'.output, hg'.size, fun k hk => hg'.block k hk (by simp)⟩
    have e0 : 0 + F.length = F.length := by omega
    rw [e0] at hB ⊢
    refine h _ _ _ ⟨by simpa using hB, fun k hk => ?_⟩ hb
    have : k = g := by
      unfold bufBlock at hk
      simp only at hk
      split at hk
      · cases hk
      · injection hk with hk; exact hk.symm
    omega
end
theorem below_setRow {B K : Nat} {a w : World} (h : Below B a w) (hK : B ≤ K) (cs : Array Value) : Below B a (w.setRow K cs) :=
  ⟨h.os, h.tape, h.output, by simpa using h.size, fun q hq => (setRow_other _ _ q _ (by omega)).trans (h.block q hq)⟩
theorem fbuf_setRow {B K : Nat} {w : World} {v : Value} {F : Flds} {cur : Array Value} (h : FBuf B w v F) (hK : w.heap[K]? = some (.cells cur 24 (0, 0))) (cs : Array Value) : FBuf B (w.setRow K cs) v F := by
  refine ⟨h.buf.kept fun k hk => setRow_other _ _ k _ fun e => ?_, h.new⟩
  subst e
  obtain ⟨⟨_, ⟨_, rfl | ⟨g, rfl⟩⟩ | ⟨g, cap, cur2, rfl, h3, _⟩⟩, _⟩ := h
  · simp [bufBlock] at hk
  · simp [bufBlock] at hk
  · have : k = g := by
      unfold bufBlock at hk
      simp only at hk
      split at hk
      · cases hk
      · injection hk with hk; exact hk.symm
    subst this
    rw [hK] at h3
    cases h3
theorem fbuf_lower {B B' : Nat} {w : World} {v : Value} {F : Flds} (h : FBuf B w v F) (hb : B' ≤ B) : FBuf B' w v F := ⟨h.buf, fun g hg => Nat.le_trans hb (h.new g hg)⟩
end Go.Proofs.YtommklkihjmgcaaGreatDoor.msgw
