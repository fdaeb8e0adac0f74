/- Walks of layer 3's statements: bytes that came in. Conditions: as each theorem says. -/
import Derived.Test.YtpnijopbbbgffaaPlantG
namespace Go.Proofs.Ytpnijopbbbgffaa.plantw
open Go.RowKit
open Go.Proofs.Ytpnijopbbbgffaa.plantp
open Go.Proofs.Ytpnijopbbbgffaa.mapfn
open Go.Proofs.Ytpnijopbbbgffaa.buf
/-- Bytes that came in. -/
def BytesIn (w : World) (A : Option Addr) (l : Sec) : Prop := ∀ i (h : i < l.length), ∃ ad, A = some ad ∧ w.cell? (ad.add i) = some (u8v l[i])
theorem BytesIn.below {w w' : World} {A : Option Addr} {l : Sec} (h : BytesIn w A l) (hb : Below w.heap.size w w') : BytesIn w' A l := fun i hi => by
  obtain ⟨ad, h1, h2⟩ := h i hi
  exact ⟨ad, h1, (hb.cell (World.block_lt_of_cell? w _ h2)).trans h2⟩
/-- As many of them as a sector takes, noughts behind. -/
def fit (l : Sec) : Sec := (l ++ List.replicate 64 0).take 64
theorem fit_len (l : Sec) : (fit l).length = 64 := by simp [fit]
theorem copy_arg {w : World} {g : Nat} {A : Option Addr} {l : Sec} {c : Nat} (hg : w.heap[g]? = some (.cells (secA zeroS) 5 (0, 0))) (h : BytesIn w A l) :
    (Builtin.copy_ #[22, 22] 3 #[.slice (some ⟨g, 0, none⟩) 64 64, .slice A l.length c]).run Try.prog w = .ok (.int .i64 (Nat.min l.length 64 : Nat)) (w.setRow g (secA (fit l))) := by
  by_cases h0 : l.length = 0
  · obtain rfl : l = [] := List.eq_nil_of_length_eq_zero h0
    have := run_copy_none (P := Try.prog) w 22 22 3 5 (some ⟨g, 0, none⟩) A 64 64 0 c Try.underlying22 (by kernel_rfl) (by decide)
    rw [show ([] : Sec).length = 0 from rfl, this]
    have e : fit [] = zeroS := by rfl
    rw [e, setRow_self w g _ _ _ hg]
    rfl
  · obtain ⟨ad, rfl, _⟩ := h 0 (by omega)
    have hl : ((secA (l.take 64)).toList).length = Nat.min l.length 64 := by simp [secA, Nat.min_comm]
    have := run_copy_row (P := Try.prog) w 22 22 3 5 g 0 64 64 ad l.length c _ _ (secA (l.take 64)).toList Try.underlying22 (by kernel_rfl) hg hl (fun j v hv => by
      simp only [secA, List.toList_toArray, List.map_take, List.getElem?_take] at hv
      split at hv
      · have hj : j < l.length := by
          have := (List.getElem?_eq_some_iff.1 hv).1
          simpa using this
        obtain ⟨ad', h1, h2⟩ := h j hj
        cases h1
        rw [h2]
        simp [hj] at hv
        rw [← hv]
      · cases hv) (by rw [hl, secA_size]; show 0 + Nat.min l.length 64 ≤ 64; rw [Nat.zero_add]; exact Nat.min_le_right _ _) (fun v hv => (Array.all_eq_true_iff_forall_mem.1 (secA_one _)) v (by simpa using hv))
    rw [this, hl]
    congr 2
    apply Array.ext'
    have hz : (secA zeroS).toList = List.replicate 64 (u8v 0) := rfl
    rw [hz]
    simp only [List.take_zero, List.nil_append, List.drop_replicate, secA, fit, List.map_take, List.map_append, List.map_replicate, Nat.zero_add, List.toList_toArray]
    rw [List.take_append, List.length_map, List.take_replicate]
    congr 2
    have e : Nat.min l.length 64 = min l.length 64 := rfl
    omega
theorem PS.write_ok {p : PS} {d k : Nat} {s : Sec} (ho : p.off = false) (ht : p.thereB d k = true) (hl : s.length = 64) (hf : p.fuse = -1) : p.write d k s = (PS.wait { p with steps := p.steps + 1 } d k s, 0) := by
  have h1 : p.step.1 = { p with steps := p.steps + 1 } := by simp [PS.step, hf]
  have h2 : ¬ p.fuse = 0 := by omega
  simp [PS.write, ho, ht, hl, h2, h1]
theorem PS.flush_ok {p : PS} {d : Nat} (ho : p.off = false) (hd : d < p.most.length) (hf : p.fuse = -1) : p.flushAt d = (PS.flush { p with steps := p.steps + 1 } d, 0) := by
  have h1 : p.step.1 = { p with steps := p.steps + 1 } := by simp [PS.step, hf]
  have h2 : ¬ p.fuse = 0 := by omega
  have h3 : ¬ ((d : Int) < 0 ∨ (p.most.length : Int) ≤ d) := by omega
  simp only [PS.flushAt, ho, if_neg h3, if_neg h2, h1]
  simp
theorem step_run' {P : Program} {w w' : World} {ops : Array Oper} {o : Oper} {a : Act} {K : Act → World → Prop} {Q : Exit → Act → World → Prop} {E : Prop} (hw : Region.wanted o (yielded ops a.tmps) = true) (v : Value) (hr : (execOp a.eval o).run P w = .ok (.value v) w') (h : K (a.put o.dst v) w') :
    if Region.wanted o (yielded ops a.tmps) = true then Oper.wp P o a w K Q else E := by
  rw [if_pos hw]
  unfold Oper.wp
  rw [hr]
  exact h
theorem make64' (w : World) : (Instr.makeSlice 22 (.int .i64 64) (.int .i64 64)).run Try.prog w = .ok (.slice (some ⟨w.heap.size, 0, none⟩) 64 64) (w.alloc (.cells (secA zeroS) 5)) := make64 w
theorem exec_makeSlice {P : Program} {w w' : World} {o : Oper} {a : Act} (t : TypeId) (x y : Operand) (ho : o.op = .makeSlice t x y) (V V' v : Value) (hx : a.eval x = V) (hy : a.eval y = V') (hr : (Instr.makeSlice t V V').run P w = .ok v w') : (execOp a.eval o).run P w = .ok (.value v) w' := by
  unfold execOp
  simp only [ho, hx, hy, Sem.run_bind, hr, Result.andThen_ok, Sem.run_pure]
/-- A plant of one's own, and sectors beside it. -/
def Mine (w : World) (g : Nat) (p : PS) (F : List (Nat × Sec)) (W : World) : Prop := ∃ O, IsP W g p O ∧ Below w.heap.size w W ∧ (∀ k ∈ O, w.heap.size ≤ k) ∧ ∀ x ∈ F, x.1 ∉ O ∧ W.heap[x.1]? = some (.cells (secA x.2) 5 (0, 0))
theorem Own.mine {w W : World} {g : Nat} {p : PS} (h : Own w g p W) : Mine w g p [] W := by
  obtain ⟨O, h1, h2, h3⟩ := h
  exact ⟨O, h1, h2, h3, fun x hx => by simp at hx⟩
theorem Mine.base {w W : World} {g : Nat} {p : PS} {F : List (Nat × Sec)} (h : Mine w g p F W) : Below w.heap.size w W := by
  obtain ⟨O, h1, h2, h3, h4⟩ := h
  exact h2
theorem Mine.at {w W : World} {g : Nat} {p : PS} {F : List (Nat × Sec)} (h : Mine w g p F W) {H : Nat} {s : Sec} (hm : (H, s) ∈ F) : W.heap[H]? = some (.cells (secA s) 5 (0, 0)) := by
  obtain ⟨O, h1, h2, h3, h4⟩ := h
  exact (h4 _ hm).2
theorem Mine.below {w W W' : World} {g : Nat} {p : PS} {F : List (Nat × Sec)} (h : Mine w g p F W) (hb : Below W.heap.size W W') : Mine w g p F W' := by
  obtain ⟨O, h1, h2, h3, h4⟩ := h
  exact ⟨O, h1.below hb, h2.trans (hb.mono h2.size), h3, fun x hx => ⟨(h4 x hx).1, (hb.block _ (Array.getElem?_eq_some_iff.1 (h4 x hx).2).1).trans (h4 x hx).2⟩⟩
theorem Mine.drop {w W : World} {g : Nat} {p : PS} {F G : List (Nat × Sec)} (h : Mine w g p F W) (hs : ∀ x ∈ G, x ∈ F) : Mine w g p G W := by
  obtain ⟨O, h1, h2, h3, h4⟩ := h
  exact ⟨O, h1, h2, h3, fun x hx => h4 x (hs x hx)⟩
theorem Mine.adds {w W W' : World} {g : Nat} {p : PS} {F : List (Nat × Sec)} (h : Mine w g p F W) (hb : Below W.heap.size W W') (G : List (Nat × Sec)) (hG : ∀ x ∈ G, W.heap.size ≤ x.1 ∧ W'.heap[x.1]? = some (.cells (secA x.2) 5 (0, 0))) : Mine w g p (G ++ F) W' := by
  obtain ⟨O, h1, h2, h3, h4⟩ := h.below hb
  obtain ⟨O0, k1, k2, k3, k4⟩ := h
  refine ⟨O0, k1.below hb, h2, k3, fun x hx => ?_⟩
  rcases List.mem_append.1 hx with hx | hx
  · exact ⟨fun hm => by have := k1.lt _ hm; have := (hG x hx).1; omega, (hG x hx).2⟩
  · exact ⟨(k4 x hx).1, (hb.block _ (Array.getElem?_eq_some_iff.1 (k4 x hx).2).1).trans (k4 x hx).2⟩
theorem Mine.add {w W W' : World} {g : Nat} {p : PS} {F : List (Nat × Sec)} (h : Mine w g p F W) (hb : Below W.heap.size W W') {H : Nat} {s : Sec} (hH : W.heap.size ≤ H) (hs : W'.heap[H]? = some (.cells (secA s) 5 (0, 0))) : Mine w g p ((H, s) :: F) W' :=
  h.adds hb [(H, s)] (fun x hx => by obtain rfl := List.mem_singleton.1 hx; exact ⟨hH, hs⟩)
theorem Mine.left {w W W' : World} {g : Nat} {p' : PS} {O : List Nat} {F : List (Nat × Sec)} (hb : Below w.heap.size w W) (hO : ∀ k ∈ O, w.heap.size ≤ k) (hF : ∀ x ∈ F, x.1 ∉ O ∧ W.heap[x.1]? = some (.cells (secA x.2) 5 (0, 0))) (h : Left W g p' O W') : Mine w g p' F W' := by
  obtain ⟨O', h1, h2, h3⟩ := h
  refine ⟨O', h1, hb.trans (h2.below hb.size hO), fun k hk => ?_, fun x hx => ?_⟩
  · rcases h3 k hk with h | h
    · exact hO k h
    · have := hb.size; omega
  · have hl := (Array.getElem?_eq_some_iff.1 (hF x hx).2).1
    refine ⟨fun hm => ?_, (h2.block _ hl (hF x hx).1).trans (hF x hx).2⟩
    rcases h3 _ hm with h | h
    · exact (hF x hx).1 h
    · omega
theorem write_mine {w W : World} {g H n : Nat} {p : PS} {s : Sec} {cb : Nat} {F : List (Nat × Sec)} (hn : s.length = n) (h : Mine w g p F W) (hm : (H, s) ∈ F) (hst : p.steps < 1099511627776) (dev place : Int) {q : PS} {r : Int} (hq : p.write dev place s = (q, r)) :
    Calls Try.prog 12 #[.pointer (some ⟨g, 0, none⟩), .int .i64 dev, .int .i64 place, .slice (some ⟨H, 0, none⟩) n cb] W fun e w' => e = .returned (.int .i64 r) ∧ Mine w g q F w' := by
  subst hn
  obtain ⟨O, h1, h2, h3, h4⟩ := h
  refine (write_any h1 dev place s H cb (h4 _ hm).2 (h4 _ hm).1 hst).mono ?_
  rintro e w' ⟨rfl, hl⟩
  rw [hq] at hl ⊢
  exact ⟨rfl, Mine.left h2 h3 h4 hl⟩
theorem flush_mine {w W : World} {g : Nat} {p : PS} {F : List (Nat × Sec)} (h : Mine w g p F W) (hst : p.steps < 1099511627776) (dev : Int) {q : PS} {r : Int} (hq : p.flushAt dev = (q, r)) :
    Calls Try.prog 13 #[.pointer (some ⟨g, 0, none⟩), .int .i64 dev] W fun e w' => e = .returned (.int .i64 r) ∧ Mine w g q F w' := by
  obtain ⟨O, h1, h2, h3, h4⟩ := h
  refine (flush_any h1 dev hst).mono fun e w' ⟨he, hl⟩ => ?_
  rw [hq] at he hl
  exact ⟨he, Mine.left h2 h3 h4 hl⟩
theorem boot_mine {w W : World} {g : Nat} {p : PS} {F : List (Nat × Sec)} (h : Mine w g p F W) (hst : p.steps < 1099511627776) {vk : Value} {keep : List Int} (hk : IntsAt W vk keep) :
    Calls Try.prog 14 #[.pointer (some ⟨g, 0, none⟩), vk] W fun e w' => e = .returned (.tuple #[]) ∧ Mine w g (p.boot keep) F w' := by
  obtain ⟨O, h1, h2, h3, h4⟩ := h
  exact (boot_any h1 hk hst).mono fun e w' ⟨he, hl⟩ => ⟨he, Mine.left h2 h3 h4 hl⟩
theorem fuse_mine {w W : World} {g : Nat} {p : PS} {F : List (Nat × Sec)} (h : Mine w g p F W) (n : Int) (hn : n ≤ 9223372036854775807) :
    Calls Try.prog 23 #[.pointer (some ⟨g, 0, none⟩), .int .i64 n] W fun e w' => e = .returned (.tuple #[]) ∧ Mine w g (p.fuseAt n) F w' := by
  obtain ⟨O, h1, h2, h3, h4⟩ := h
  exact (fuse_is h1 n hn).mono fun e w' ⟨he, hl⟩ => ⟨he, Mine.left h2 h3 h4 hl⟩
theorem Mine.own {w W : World} {g : Nat} {p : PS} {F : List (Nat × Sec)} (h : Mine w g p F W) : Own w g p W := by
  obtain ⟨O, h1, h2, h3, h4⟩ := h
  exact ⟨O, h1, h2, h3⟩
/-- A sector that is read: a new one beside. -/
theorem read_mine {w W : World} {g : Nat} {p : PS} {F : List (Nat × Sec)} (h : Mine w g p F W) (dev place : Int) (hr : p.readE dev place = 0) {s : Sec} (hs : p.sec dev.toNat place.toNat = s) : Calls Try.prog 15 #[.pointer (some ⟨g, 0, none⟩), .int .i64 dev, .int .i64 place] W fun e w' => ∃ H, e = .returned (.tuple #[.slice (some ⟨H, 0, none⟩) 64 64, .int .i64 0]) ∧ Below W.heap.size W w' ∧ Mine w g p ((H, s) :: F) w' := by
  refine (read_own h.own dev place).mono ?_
  rintro e w' ⟨hb, ⟨n, _⟩ | ⟨_, H, rfl, h1, h2⟩⟩
  · exact absurd hr n
  · rw [hs] at h2
    exact ⟨H, rfl, hb, h.add hb h1 h2⟩
theorem Mine.drew {w W : World} {g : Nat} {p : PS} {F : List (Nat × Sec)} (h : Mine w g p F W) : Mine w g p F W.drew := h.below ⟨rfl, rfl, rfl, Nat.le_refl _, fun _ _ => rfl⟩
/-- A region that draws goes on. -/
theorem want_if {P : Program} {ops : Array Oper} {o : Oper} {a : Act} {w : World} {K : Act → World → Prop} {Q : Exit → Act → World → Prop} {E : Prop} (hw : Region.wanted o (yielded ops a.tmps) = true) (h : Oper.wp P o a w K Q) : if Region.wanted o (yielded ops a.tmps) = true then Oper.wp P o a w K Q else E := by rw [if_pos hw]; exact h
/-- Two disks of four. -/
def mk4 (has : Nat → Nat → Sec) (l : List Wt) (n : Int) : PS := { most := [4, 4], has := has, waits := l, off := false, fuse := -1, steps := n }
theorem st3 : ∀ n : Int, n ≤ 100 → n < 1099511627776 := fun n h => by omega
theorem mk4_boot (has : Nat → Nat → Sec) (l : List Wt) (n : Int) : (mk4 has l n).boot [] = mk4 has [] n := by unfold PS.boot mk4; rw [boot_none]
end Go.Proofs.Ytpnijopbbbgffaa.plantw
