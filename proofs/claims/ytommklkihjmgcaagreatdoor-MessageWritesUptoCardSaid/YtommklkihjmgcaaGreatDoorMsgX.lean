/- Rows that grow, of whatever elements; whole values out of and into blocks; single steps of a region by their own run. Rows that grow, more. Layer 5 in plain words: a message's fields. No program in sight. Layer 5: how a message's fields lie in memory; Get. Layer 5: copies of fields; where a field goes. Layer 5: where a field goes: the closures of Set, slices.IndexFunc. Layer 5: fields of a number taken away: slices.DeleteFunc. Layer 5: a field put into its place: slices.Insert. Layer 5: a field put into its place where there is room: slices.Insert. Layer 5: Set. Conditions: as each theorem says. -/
import Derived.Laws.AppendOwn
import Derived.Maps.AppendAt
import Derived.Deep.AppendLies
import Derived.Deep.RegionLaw
import Derived.Deep.WholeRow
import Derived.Great.BuildSlice
import Derived.OwnWalk
import Derived.Below
import Derived.Laws.CopyOwn
import Derived.WalkKit
import Derived.StillTailTactics
import Derived.Deep.Draws
import Derived.KernelRfl
import Derived.Test.YtommklkihjmgcaaGreatDoorProg
import Derived.Carry
import Derived.Deep.QuietTactic
import Derived.BigQuiet
import Derived.Lib.Hide
import Derived.Lib.SliceRun
import Derived.Lib.AppendZerosOnto
import Derived.Shelf.Spec.SlicesInsert
import Derived.Deep.RegionHeld3
namespace Go.Proofs.YtommklkihjmgcaaGreatDoor.buf
open Go.RowKit

theorem cells_at {w : World} {g : Nat} {cs : Array Value} {t : TypeId} {fr : Nat × Nat} (h : w.heap[g]? = some (.cells cs t fr)) (o : Nat) : w.cell? ⟨g, o, none⟩ = cs[o]? := by
  unfold World.cell?
  rw [h]
  rfl
theorem frozen_at {w : World} {g : Nat} {cs : Array Value} {t : TypeId} (h : w.heap[g]? = some (.cells cs t (0, 0))) (o : Nat) : w.frozen? ⟨g, o, none⟩ = false := by
  unfold World.frozen?
  rw [h]
  simp
theorem setRow_block {w : World} {g : Nat} {cs cs' : Array Value} {t : TypeId} {fr : Nat × Nat} (h : w.heap[g]? = some (.cells cs t fr)) : (w.setRow g cs').heap[g]? = some (.cells cs' t fr) := setRow_heap w g cs cs' t fr h
/-- A store of a whole value, by its own run. -/
theorem wpList_store_at {P : Program} {ops : Array Oper} {rest : List Oper} {o : Oper} {a : Act} {w w' : World} {Q : Exit → Act → World → Prop} (hgd : o.guard = none) (ty : TypeId) (x y : Operand) (ho : o.op = .store ty x y)
    (p : Addr) (hx : a.eval x = .pointer (some p)) (v : Value) (hy : a.eval y = v) (hr : (storeVar ty p v).run P w = .ok () w')
    (h : wpList P ops Q rest (a.put o.dst undef) w') : wpList P ops Q (o :: rest) a w :=
  wpList_plain hgd fun _ hK => by
    unfold Oper.wp execOp
    simp only [ho, hx, hy, Instr.storeAt, Instr.sureAddr, Sem.run_bind, Sem.run_pure, Result.andThen_ok, hr]
    exact hK _ _ h
/-- A row of writes: n of them; its own block, if it has room for any. -/
def Buf (w : World) (e size : Nat) (v : Value) (n : Nat) (xs : List Value) : Prop :=
  xs.length = n * size ∧ ((n = 0 ∧ (v = .slice none 0 0 ∨ ∃ g, v = .slice (some ⟨g, 0, none⟩) 0 0)) ∨
    ∃ g cap cur, v = .slice (some ⟨g, 0, none⟩) n cap ∧ w.heap[g]? = some (.cells cur e (0, 0)) ∧ n ≤ cap ∧ 0 < cap ∧ cap ≤ maxLen ∧ cur.size = cap * size ∧ cur.toList.take (n * size) = xs)
/-- The block that a row may be written into. -/
def bufBlock : Value → Option Nat
  | .slice (some a) _ c => if c = 0 then none else some a.block
  | _ => none
theorem Buf.kept {w w' : World} {e size : Nat} {v : Value} {n : Nat} {xs : List Value} (h : Buf w e size v n xs) (hb : ∀ k, bufBlock v = some k → w'.heap[k]? = w.heap[k]?) : Buf w' e size v n xs := by
  obtain ⟨h1, h2 | ⟨g, cap, cur, rfl, h3, h4, h5, h6⟩⟩ := h
  · exact ⟨h1, .inl h2⟩
  · exact ⟨h1, .inr ⟨g, cap, cur, rfl, (hb g (by simp [bufBlock]; omega)).trans h3, h4, h5, h6⟩⟩
theorem Buf.lt {w : World} {e size : Nat} {v : Value} {n : Nat} {xs : List Value} (h : Buf w e size v n xs) : ∀ k, bufBlock v = some k → k < w.heap.size := by
  intro k hk
  obtain ⟨h1, h2 | ⟨g, cap, cur, rfl, h3, h4, h5, h6⟩⟩ := h
  · obtain ⟨_, rfl | ⟨g, rfl⟩⟩ := h2 <;> simp [bufBlock] at hk
  · simp [bufBlock] at hk
    obtain ⟨_, rfl⟩ := hk
    exact (Array.getElem?_eq_some_iff.1 h3).1
theorem take_get {cur : Array Value} {n : Nat} {xs : List Value} (h : cur.toList.take n = xs) {j : Nat} (hj : j < n) : cur[j]? = xs[j]? := by
  rw [← h, List.getElem?_take, if_pos hj, Array.getElem?_toList]
theorem Buf.shape {w : World} {e size : Nat} {v : Value} {n : Nat} {xs : List Value} (h : Buf w e size v n xs) : ∃ p cap, v = .slice p n cap ∧ n ≤ cap ∧ cap ≤ maxLen := by
  obtain ⟨h1, ⟨rfl, rfl | ⟨g, rfl⟩⟩ | ⟨g, cap, cur, rfl, h3, h4, h5, h6, h7, h8⟩⟩ := h
  · exact ⟨_, _, rfl, by omega, by simp [maxLen]⟩
  · exact ⟨_, _, rfl, by omega, by simp [maxLen]⟩
  · exact ⟨_, _, rfl, h4, h6⟩
/-- Nothing but what is O's has turned. -/
structure Turn (O : List Nat) (w w' : World) : Prop where
  os : w'.os = w.os
  tape : w'.tape = w.tape
  output : w'.output = w.output
  size : w.heap.size ≤ w'.heap.size
  block : ∀ k, k < w.heap.size → k ∉ O → w'.heap[k]? = w.heap[k]?
theorem Turn.refl (O : List Nat) (w : World) : Turn O w w := ⟨rfl, rfl, rfl, Nat.le_refl _, fun _ _ _ => rfl⟩
theorem Turn.trans {O : List Nat} {a b c : World} (h : Turn O a b) (k : Turn O b c) : Turn O a c :=
  ⟨k.os.trans h.os, k.tape.trans h.tape, k.output.trans h.output, Nat.le_trans h.size k.size, fun i hi hn => (k.block i (Nat.lt_of_lt_of_le hi h.size) hn).trans (h.block i hi hn)⟩
theorem Turn.of_below {O : List Nat} {w w' : World} (h : Below w.heap.size w w') : Turn O w w' := ⟨h.os, h.tape, h.output, h.size, fun k hk _ => h.block k hk⟩
theorem Turn.mono {O O' : List Nat} {w w' : World} (h : Turn O w w') (hs : ∀ k ∈ O, k ∈ O') : Turn O' w w' := ⟨h.os, h.tape, h.output, h.size, fun k hk hn => h.block k hk fun hm => hn (hs k hm)⟩
theorem Turn.below {O : List Nat} {B : Nat} {w w' : World} (h : Turn O w w') (hB : B ≤ w.heap.size) (hO : ∀ k ∈ O, B ≤ k) : Below B w w' := ⟨h.os, h.tape, h.output, h.size, fun k hk => h.block k (by omega) fun hm => by have := hO k hm; omega⟩

theorem Turn.alloc {O : List Nat} {a w : World} (h : Turn O a w) (o : Obj) : Turn O a (w.alloc o) := h.trans (Turn.of_below ((Below.refl _ _).alloc (Nat.le_refl _) o))
theorem Turn.drew {O : List Nat} {a w : World} (h : Turn O a w) : Turn O a w.drew := ⟨h.os, h.tape, h.output, h.size, h.block⟩
theorem Turn.drewN {O : List Nat} {a w : World} (h : Turn O a w) (n : Nat) : Turn O a (w.drewN n) := ⟨h.os, h.tape, h.output, h.size, h.block⟩
theorem Turn.set {O : List Nat} {a w : World} (h : Turn O a w) {b : Nat} (hb : b ∈ O ∨ a.heap.size ≤ b) (j : Nat) (u : Value) : Turn O a (w.setCell ⟨b, j, none⟩ u) :=
  ⟨h.os, h.tape, h.output, by simpa [World.setCell] using h.size, fun k hk hn => (Below.heap_setCell _ _ _ _ (by rcases hb with hb | hb; exact fun e => hn (by rw [e]; exact hb); simp; omega)).trans (h.block k hk hn)⟩
theorem Turn.setRow {O : List Nat} {a w : World} (h : Turn O a w) {b : Nat} (hb : b ∈ O ∨ a.heap.size ≤ b) (cs : Array Value) : Turn O a (w.setRow b cs) :=
  ⟨h.os, h.tape, h.output, by simpa using h.size, fun k hk hn => (setRow_other _ _ k _ (by rcases hb with hb | hb; exact fun e => hn (by rw [e]; exact hb); omega)).trans (h.block k hk hn)⟩
theorem Turn.grown {O : List Nat} {a w w' : World} {row : Option Nat} (h : Turn O a w) (hg : w.grownBy w' row) (hr : ∀ k, row = some k → k ∈ O ∨ a.heap.size ≤ k) : Turn O a w' :=
  ⟨hg.os.trans h.os, hg.tape.trans h.tape, hg.output.trans h.output, Nat.le_trans h.size hg.size, fun k hk hn => (hg.block k (by have := h.size; omega) (fun e => by rcases hr k e.symm with h' | h'; exact hn h'; omega)).trans (h.block k hk hn)⟩
section
variable {P : Program} {w w' : World} {ops : Array Oper} {rest : List Oper} {o : Oper} {a : Act} {K : Act → World → Prop} {Q : Exit → Act → World → Prop} {E : Prop}
/-- A step of a region that draws, by its own run. -/
theorem step_run (hgd : o.guard = none) (v : Value) (hr : (execOp a.eval o).run P w = .ok (.value v) w') (h : K (a.put o.dst v) w') :
    if Region.wanted o (yielded ops a.tmps) = true then Oper.wp P o a w K Q else E := by
  have hw : Region.wanted o (yielded ops a.tmps) = true := by simp [Region.wanted, hgd]
  rw [if_pos hw]
  unfold Oper.wp
  rw [hr]
  exact h
theorem step_nov (hgd : o.guard = none) (hr : (execOp a.eval o).run P w = .ok .skip w') (h : K (a.put o.dst undef) w') :
    if Region.wanted o (yielded ops a.tmps) = true then Oper.wp P o a w K Q else E := by
  have hw : Region.wanted o (yielded ops a.tmps) = true := by simp [Region.wanted, hgd]
  rw [if_pos hw]
  unfold Oper.wp
  rw [hr]
  exact h
theorem exec_store (ty : TypeId) (x y : Operand) (ho : o.op = .store ty x y) (p : Addr) (hx : a.eval x = .pointer (some p)) (v : Value) (hy : a.eval y = v) (hr : (storeVar ty p v).run P w = .ok () w') : (execOp a.eval o).run P w = .ok .skip w' := by
  unfold execOp
  simp only [ho, hx, hy, Instr.storeAt, Instr.sureAddr, Sem.run_bind, Sem.run_pure, Result.andThen_ok, hr]
/-- append to a row of one's own. -/
theorem run_append_buf (t ty : TypeId) (e : TypeId) (z : Value) (size bytes : Nat) (ht : P.underlying t = some (.slice e)) (hie : (P.info? e).map (fun i => (i.zero, i.size, i.bytes)) = some (some z, size, bytes)) (hzs : z.cells.size = size) (hsz : 0 < size)
    (v : Value) (n : Nat) (xs : List Value) (hb : Buf w e size v n xs) (ad : Addr) (m c : Nat) (news : List Value) (hl : news.length = m * size) (hnews : ∀ j u, news[j]? = some u → w.cell? (ad.add j) = some u) (h1 : ∀ u ∈ news, u.oneCell' = true)
    (hm : 0 < m) (h63 : n + m ≤ maxLen) (hbytes : (n + m) * bytes ≤ 140737488355328) :
    ∃ g cap w', (Builtin.append_ #[t, t] ty #[v, .slice (some ad) m c]).run P w = .ok (.slice (some ⟨g, 0, none⟩) (n + m) cap) w' ∧ Buf w' e size (.slice (some ⟨g, 0, none⟩) (n + m) cap) (n + m) (xs ++ news) ∧ w.grownBy w' (bufBlock v) ∧ n + m ≤ cap ∧ cap ≤ maxLen ∧
      (bufBlock v = some g ∨ g = w.heap.size) ∧ g < w'.heap.size := by
  obtain ⟨i, hi, hz, hs, hby⟩ := info_parts hie
  have conv : ∀ {w : World} {v : Value} {n : Nat} {xs : List Value}, 0 < n → w.ownsRow 0 e size v n xs → Buf w e size v n xs := by
    intro w v n xs hn h
    obtain ⟨a1, ⟨_, a2⟩ | ⟨g, cap, cur, rfl, b1, b2, b3, b4, b5, b6⟩⟩ := h
    · omega
    · exact ⟨a1, .inr ⟨g, cap, cur, rfl, b2, b3, by omega, b4, b5, b6⟩⟩
  obtain ⟨q1, ⟨rfl, rfl | ⟨g0, rfl⟩⟩ | ⟨g, cap, cur, rfl, b2, b3, b4, b5, b6, b7⟩⟩ := hb
  · obtain rfl : xs = [] := List.eq_nil_of_length_eq_zero (by simpa using q1)
    obtain ⟨g, cap, w', hr, h2, h3, h4, h5⟩ := run_append_lies (P := P) w t ty 0 e i z size bytes ht hi hz hs hby hzs hsz (.slice none 0 0) 0 [] (World.ownsRow_nil w 0 e size) ad m c news hl hnews h1 hm h63 hbytes (Nat.zero_le _) _ rfl
    have hB := conv (by omega) h2
    obtain ⟨p, c', hv, hc1, hc2⟩ := hB.shape
    simp at hv
    refine ⟨g, cap, w', hr, hB, by simpa [bufBlock, Value.ownBlock] using h3, by omega, by omega, .inr ?_, h5⟩
    rcases h4 with h4 | h4
    · simp [Value.ownBlock] at h4
    · exact h4
  · obtain rfl : xs = [] := List.eq_nil_of_length_eq_zero (by simpa using q1)
    have hr := run_append_grow (P := P) w t ty e i z ht hi hz ⟨g0, 0, none⟩ 0 0 [] (by simp) (by simp) ad m c news (by rw [hs]; exact hl) hnews (by omega) (by simp only [maxLen] at h63; omega) (by rw [hby]; exact growslice_fits (by omega) hbytes)
    have hge := grownCap_ge w (0 + m) 0 e
    have hcm := grownCap_le_maxLen w (0 + m) 0 e h63
    refine ⟨_, _, _, hr, ⟨by simp [hl], .inr ⟨w.heap.size, _, _, rfl, heap_alloc_new w.drew _, hge, by omega, hcm, ?_, ?_⟩⟩, ⟨rfl, rfl, rfl, by simp, fun k hk _ => Below.heap_alloc w.drew _ k hk⟩, hge, hcm, .inr rfl, by simp⟩
    · simp only [Array.size_append, List.size_toArray, size_zeroCells, hzs, hl, List.length_nil]
      rw [Nat.zero_add, ← Nat.add_mul]
      congr 1
      omega
    · have e : (0 + m) * size = news.length := by rw [hl, Nat.zero_add]
      rw [e]
      simp
  · obtain ⟨g', cap', w', hr, h2, h3, h4, h5⟩ := run_append_lies (P := P) w t ty 0 e i z size bytes ht hi hz hs hby hzs hsz (.slice (some ⟨g, 0, none⟩) n cap) n xs ⟨q1, .inr ⟨g, cap, cur, rfl, Nat.zero_le _, b2, b3, b5, b6, b7⟩⟩ ad m c news hl hnews h1 hm h63 hbytes (Nat.zero_le _) _ rfl
    have hB := conv (by omega) h2
    obtain ⟨p, c', hv, hc1, hc2⟩ := hB.shape
    simp at hv
    have eb : bufBlock (.slice (some ⟨g, 0, none⟩) n cap) = some g := by simp [bufBlock]; omega
    refine ⟨g', cap', w', hr, hB, by rw [eb]; exact h3, by omega, by omega, ?_, h5⟩
    rw [eb]
    simpa [Value.ownBlock] using h4
theorem exec_append_buf (s x : Operand) (t : TypeId) (ho : o.op = .call { callee := .builtin .append, args := #[s, x], argTypes := #[t, t] })
    (e : TypeId) (z : Value) (size bytes : Nat) (ht : P.underlying t = some (.slice e)) (hie : (P.info? e).map (fun i => (i.zero, i.size, i.bytes)) = some (some z, size, bytes)) (hzs : z.cells.size = size) (hsz : 0 < size)
    (v : Value) (n : Nat) (xs : List Value) (hs : a.eval s = v) (hb : Buf w e size v n xs) (ad : Addr) (m c : Nat) (hx : a.eval x = .slice (some ad) m c) (news : List Value) (hl : news.length = m * size) (hnews : ∀ j u, news[j]? = some u → w.cell? (ad.add j) = some u) (h1 : ∀ u ∈ news, u.oneCell' = true)
    (hm : 0 < m) (h63 : n + m ≤ maxLen) (hbytes : (n + m) * bytes ≤ 140737488355328) :
    ∃ g cap w', (execOp a.eval o).run P w = .ok (.value (.slice (some ⟨g, 0, none⟩) (n + m) cap)) w' ∧ Buf w' e size (.slice (some ⟨g, 0, none⟩) (n + m) cap) (n + m) (xs ++ news) ∧ w.grownBy w' (bufBlock v) ∧ n + m ≤ cap ∧ cap ≤ maxLen ∧
      (bufBlock v = some g ∨ g = w.heap.size) ∧ g < w'.heap.size := by
  obtain ⟨g, cap, w', hr, rest⟩ := run_append_buf (P := P) (w := w) t o.type e z size bytes ht hie hzs hsz v n xs hb ad m c news hl hnews h1 hm h63 hbytes
  refine ⟨g, cap, w', ?_, rest⟩
  unfold execOp
  simp only [ho, resolve, invoke, builtin, Sem.run_bind, Sem.run_pure, Result.andThen_ok, List.map_toArray, List.map_cons, List.map_nil, hs, hx, hr]
theorem step_append_buf (hgd : o.guard = none) (s x : Operand) (t : TypeId) (ho : o.op = .call { callee := .builtin .append, args := #[s, x], argTypes := #[t, t] })
    (e : TypeId) (z : Value) (size bytes : Nat) (ht : P.underlying t = some (.slice e)) (hie : (P.info? e).map (fun i => (i.zero, i.size, i.bytes)) = some (some z, size, bytes)) (hzs : z.cells.size = size) (hsz : 0 < size)
    (v : Value) (n : Nat) (xs : List Value) (hs : a.eval s = v) (hb : Buf w e size v n xs) (ad : Addr) (m c : Nat) (hx : a.eval x = .slice (some ad) m c) (news : List Value) (hl : news.length = m * size) (hnews : ∀ j u, news[j]? = some u → w.cell? (ad.add j) = some u) (h1 : ∀ u ∈ news, u.oneCell' = true)
    (hm : 0 < m) (h63 : n + m ≤ maxLen) (hbytes : (n + m) * bytes ≤ 140737488355328)
    (h : ∀ g cap w', Buf w' e size (.slice (some ⟨g, 0, none⟩) (n + m) cap) (n + m) (xs ++ news) → w.grownBy w' (bufBlock v) → n + m ≤ cap → cap ≤ maxLen → (bufBlock v = some g ∨ g = w.heap.size) → g < w'.heap.size → K (a.put o.dst (.slice (some ⟨g, 0, none⟩) (n + m) cap)) w') :
    if Region.wanted o (yielded ops a.tmps) = true then Oper.wp P o a w K Q else E := by
  obtain ⟨g, cap, w', hr, h2, h3, h4, h5, h6, h7⟩ := exec_append_buf (P := P) (w := w) (o := o) (a := a) s x t ho e z size bytes ht hie hzs hsz v n xs hs hb ad m c hx news hl hnews h1 hm h63 hbytes
  exact step_run hgd _ hr (h g cap w' h2 h3 h4 h5 h6 h7)
theorem wpList_append_buf (hgd : o.guard = none) (s x : Operand) (t : TypeId) (ho : o.op = .call { callee := .builtin .append, args := #[s, x], argTypes := #[t, t] })
    (e : TypeId) (z : Value) (size bytes : Nat) (ht : P.underlying t = some (.slice e)) (hie : (P.info? e).map (fun i => (i.zero, i.size, i.bytes)) = some (some z, size, bytes)) (hzs : z.cells.size = size) (hsz : 0 < size)
    (v : Value) (n : Nat) (xs : List Value) (hs : a.eval s = v) (hb : Buf w e size v n xs) (ad : Addr) (m c : Nat) (hx : a.eval x = .slice (some ad) m c) (news : List Value) (hl : news.length = m * size) (hnews : ∀ j u, news[j]? = some u → w.cell? (ad.add j) = some u) (h1 : ∀ u ∈ news, u.oneCell' = true)
    (hm : 0 < m) (h63 : n + m ≤ maxLen) (hbytes : (n + m) * bytes ≤ 140737488355328)
    (h : ∀ g cap w', Buf w' e size (.slice (some ⟨g, 0, none⟩) (n + m) cap) (n + m) (xs ++ news) → w.grownBy w' (bufBlock v) → n + m ≤ cap → cap ≤ maxLen → (bufBlock v = some g ∨ g = w.heap.size) → g < w'.heap.size → wpList P ops Q rest (a.put o.dst (.slice (some ⟨g, 0, none⟩) (n + m) cap)) w') :
    wpList P ops Q (o :: rest) a w := by
  obtain ⟨g, cap, w', hr, h2, h3, h4, h5, h6, h7⟩ := exec_append_buf (P := P) (w := w) (o := o) (a := a) s x t ho e z size bytes ht hie hzs hsz v n xs hs hb ad m c hx news hl hnews h1 hm h63 hbytes
  exact wpList_plain hgd fun _ hK => by
    unfold Oper.wp
    rw [hr]
    exact hK _ _ (h g cap w' h2 h3 h4 h5 h6 h7)
theorem exec_alloc (t : TypeId) (ho : o.op = .alloc t) (cs : Array Value) (hz : (zeroValue t).run P w = .ok (.agg cs) w) : (execOp a.eval o).run P w = .ok (.value (.pointer (some ⟨w.heap.size, 0, none⟩))) (w.alloc (.cells cs t)) := by
  unfold execOp
  simp [ho, Instr.alloc, newVar, newRow, hz, Value.cells]
/-- Cells stored into the middle of a row. -/
theorem run_storeVar_mid' {ty : TypeId} {g o' n : Nat} {t : TypeId} {cur cs : Array Value} (hg : w.heap[g]? = some (.cells cur t (0, 0))) (hi : (P.info? ty).map (·.size) = some n) (hn : cs.size = n) (hfit : o' + n ≤ cur.size) (h1 : cs.all (·.oneCell') = true) :
    (storeVar ty ⟨g, o', none⟩ (.agg cs)).run P w = .ok () (w.setRow g (cur.toList.take o' ++ cs.toList ++ cur.toList.drop (o' + n)).toArray) := by
  have := run_storeCells_at P g o' t cs.toList 0 cur w hg (by simp; omega) (fun v hv => (Array.all_eq_true_iff_forall_mem.1 h1) v (by simpa using hv))
  cases hq : P.info? ty with
  | none => simp [hq] at hi
  | some i =>
    have hs : i.size = n := by simpa [hq] using hi
    simp only [Nat.add_zero, Array.length_toList, hn] at this
    simp [storeVar, sizeOf, typeInfo, hq, Value.cells, hs, hn, this]
end
end Go.Proofs.YtommklkihjmgcaaGreatDoor.buf
namespace Go.Proofs.YtommklkihjmgcaaGreatDoor.buf
open Go.RowKit
section
variable {P : Program} {w w' : World} {ops : Array Oper} {rest : List Oper} {o : Oper} {a : Act} {K : Act → World → Prop} {Q : Exit → Act → World → Prop} {E : Prop}
/-- Nothing appended. -/
theorem exec_append_no (s x : Operand) (t : TypeId) (ho : o.op = .call { callee := .builtin .append, args := #[s, x], argTypes := #[t, t] }) (e : TypeId) (z : Value) (size bytes : Nat) (ht : P.underlying t = some (.slice e)) (hie : (P.info? e).map (fun i => (i.zero, i.size, i.bytes)) = some (some z, size, bytes))
    {g o' n c : Nat} {q : Option Addr} {c2 : Nat} (hs : a.eval s = .slice (some ⟨g, o', none⟩) n c) (hx : a.eval x = .slice q 0 c2) (hn : n ≤ c) : (execOp a.eval o).run P w = .ok (.value (.slice (some ⟨g, o', none⟩) n c)) w := by
  obtain ⟨i, hi, hz, hsz, hby⟩ := info_parts hie
  unfold execOp
  cases q <;> simp [ho, resolve, invoke, builtin, hs, hx, Builtin.append_, run_underlying ht, sizeOf, typeInfo, hi, Builtin.lenOf, Builtin.firstCells, loadCells, loadCellsFrom, hn, storeCells]
end
end Go.Proofs.YtommklkihjmgcaaGreatDoor.buf
namespace Go.Proofs.YtommklkihjmgcaaGreatDoor.msgp
/-- A field: its number, its text. -/
abbrev Fld := Int × ByteArray
abbrev Flds := List Fld
def getM (F : Flds) (no : Int) : Option ByteArray := (F.find? fun x => decide (x.1 = no)).map (·.2)
def delM (F : Flds) (no : Int) : Flds := F.filter fun x => !decide (x.1 = no)
/-- Where a field goes: ahead of the first one of a greater number. -/
def spot (F : Flds) (no : Int) : Nat := F.findIdx fun x => decide (no < x.1)
def insM (F : Flds) (no : Int) (t : ByteArray) : Flds := F.take (spot F no) ++ (no, t) :: F.drop (spot F no)
def setM (F : Flds) (no : Int) (t : ByteArray) : Flds := insM (delM F no) no t
end Go.Proofs.YtommklkihjmgcaaGreatDoor.msgp
namespace Go.Proofs.YtommklkihjmgcaaGreatDoor.msgw
open Go.RowKit
open Go.Proofs.YtommklkihjmgcaaGreatDoor.msgp
open Go.Proofs.YtommklkihjmgcaaGreatDoor.buf
/-- Fields in a slice. -/
def FsAt (w : World) (v : Value) (F : Flds) : Prop :=
  F.length ≤ maxLen ∧ ∃ p c, v = .slice p F.length c ∧ F.length ≤ c ∧ ∀ i (hi : i < F.length), ∃ b o, p = some ⟨b, o, none⟩ ∧ w.cell? ⟨b, o + i * 2, none⟩ = some (.int .i64 F[i].1) ∧ w.cell? ⟨b, o + i * 2 + 1, none⟩ = some (.string F[i].2)
theorem _root_.Go.RowKit.Below.keptCell {w w' : World} {x i : Nat} {u : Value} (t : Below w.heap.size w w') (h : w.cell? ⟨x, i, none⟩ = some u) : w'.cell? ⟨x, i, none⟩ = some u :=
  (t.cell (p := ⟨x, i, none⟩) (World.block_lt_of_cell? w ⟨x, i, none⟩ h)).trans h
theorem FsAt.below {w w' : World} {v : Value} {F : Flds} (h : FsAt w v F) (hb : Below w.heap.size w w') : FsAt w' v F := by
  obtain ⟨h0, p, c, h1, h2, h3⟩ := h
  refine ⟨h0, p, c, h1, h2, fun i hi => ?_⟩
  obtain ⟨b, o, h4, h5, h6⟩ := h3 i hi
  exact ⟨b, o, h4, hb.keptCell h5, hb.keptCell h6⟩
theorem FsAt.shape {w : World} {v : Value} {F : Flds} (h : FsAt w v F) : ∃ p c, v = .slice p F.length c := by
  obtain ⟨_, p, c, h1, _⟩ := h
  exact ⟨p, c, h1⟩
theorem FsAt.get {w : World} {p : Option Addr} {n c : Nat} {F : Flds} (h : FsAt w (.slice p n c) F) : ∀ i (hi : i < F.length), ∃ b o, p = some ⟨b, o, none⟩ ∧ w.cell? ⟨b, o + i * 2, none⟩ = some (.int .i64 F[i].1) ∧ w.cell? ⟨b, o + i * 2 + 1, none⟩ = some (.string F[i].2) := by
  obtain ⟨_, p', c', h1, _, h3⟩ := h
  simp only [Value.slice.injEq] at h1
  obtain ⟨rfl, _, _⟩ := h1
  exact h3
theorem drewN_base {B : Nat} (w : World) (n : Nat) : Below B w (w.drewN n) := ⟨rfl, rfl, rfl, Nat.le_refl _, fun _ _ => rfl⟩
theorem getM_step (F : Flds) (no : Int) (k : Nat) (hk : k < F.length) : getM (F.drop k) no = if F[k].1 = no then some F[k].2 else getM (F.drop (k + 1)) no := by
  rw [List.drop_eq_getElem_cons hk]
  unfold getM
  by_cases e : F[k].1 = no
  · rw [if_pos e, List.find?_cons_of_pos (by simpa using e)]
    rfl
  · rw [if_neg e, List.find?_cons_of_neg (by simpa using e)]
theorem get_any {w : World} {v : Value} {F : Flds} (h : FsAt w v F) (ty no : Int) :
    Calls Tryz.prog 15 #[.agg #[.int .i64 ty, v], .int .i64 no] w fun e w' => e = .returned (.tuple #[.string ((getM F no).getD ⟨#[]⟩), .bool (getM F no).isSome]) ∧ Below w.heap.size w w' := by
  obtain ⟨p, c, rfl⟩ := h.shape
  have hl := h.1
  simp only [maxLen] at hl
  have H := Lib.hid h
  clear h
  go_enter Tryz.func15, Tryz.ntmps15
  go_wp2_with fail
  obtain ⟨w1, e1⟩ : ∃ W, w.alloc (.cells #[.int .i64 ty, .slice p F.length c] 24) = W := ⟨_, rfl⟩
  have b1 : Below w.heap.size w w1 := by rw [← e1]; exact (Below.refl _ _).alloc (Nat.le_refl _) _
  rw [e1]
  have B1 := Lib.hid b1
  clear e1 b1
  go_loopw [11] (fun i wr => Below w.heap.size w wr ∧ ∃ k : Nat, k ≤ F.length ∧ i = .int .i64 k ∧ getM F no = getM (F.drop k) no) (fun i _ => F.length - (intOf i).toNat)
  case atStart => exact ⟨B1.out, 0, by omega, rfl, by simp⟩
  case round =>
    obtain ⟨hbw, k, hk, rfl, he⟩ := hrel
    by_cases hlt : k < F.length
    · have hlt' : (k : Int) < F.length := by omega
      obtain ⟨b, o, rfl, q0, q1⟩ := (H.out.below hbw).get k hlt
      have hst := getM_step F no k hlt
      obtain ⟨x, ex⟩ : ∃ x, x = F[k] := ⟨_, rfl⟩
      rw [← ex] at q0 q1 hst
      obtain ⟨n, s⟩ := x
      rw [hst] at he
      have HE := Lib.hid he
      have HB := Lib.hid (hbw.trans (((Below.refl wr.heap.size wr).alloc (Nat.le_refl _) (.cells #[.int .i64 n, .string s] 28)).mono hbw.size))
      clear he hst ex hbw
      by_cases hn : n = no
      · subst hn
        have HE2 := Lib.hid (show getM F n = some s by rw [HE.out, if_pos rfl])
        go_wp2_with fail
        go_ret2
        exact ⟨by rw [HE2.out]; rfl, HB.out⟩
      · have HE2 := Lib.hid (show getM F no = getM (F.drop (k + 1)) no by rw [HE.out, if_neg hn])
        go_wp2_with fail
        go_roundw
        case rel => exact ⟨HB.out, k + 1, by omega, by go_num, HE2.out⟩
        case measure => simp [intOf]; omega
    · obtain rfl : k = F.length := by omega
      have hlt' : ¬ (F.length : Int) < F.length := by omega
      have HE := Lib.hid (show getM F no = none by rw [he, List.drop_length]; rfl)
      have HB := Lib.hid hbw
      clear he hbw
      go_wp2_with fail
      go_ret2
      exact ⟨by rw [HE.out]; rfl, HB.out⟩
end Go.Proofs.YtommklkihjmgcaaGreatDoor.msgw
namespace Go.Proofs.YtommklkihjmgcaaGreatDoor.msgw
open Go.RowKit
open Go.Proofs.YtommklkihjmgcaaGreatDoor.msgp
open Go.Proofs.YtommklkihjmgcaaGreatDoor.buf
def fCells (x : Fld) : List Value := [.int .i64 x.1, .string x.2]
/-- Fields in a row of one's own. -/
structure FBuf (B : Nat) (W : World) (v : Value) (F : Flds) : Prop where
  buf : Buf W 28 2 v F.length (F.flatMap fCells)
  new : ∀ g, bufBlock v = some g → B ≤ g
theorem fCells_len (F : Flds) : (F.flatMap fCells).length = F.length * 2 := by
  induction F with
  | nil => rfl
  | cons x F ih => rw [List.flatMap_cons, List.length_append, ih, List.length_cons]; simp [fCells]; omega
theorem fCells_at : ∀ (F : Flds) i (h : i < F.length), (F.flatMap fCells)[i * 2]? = some (.int .i64 F[i].1) ∧ (F.flatMap fCells)[i * 2 + 1]? = some (.string F[i].2)
  | [], i, h => by simp at h
  | x :: F, 0, _ => by simp [fCells]
  | x :: F, i + 1, h => by
    have := fCells_at F i (by simpa using h)
    rw [List.flatMap_cons, show (i + 1) * 2 = i * 2 + 2 by omega, show i * 2 + 2 + 1 = i * 2 + 1 + 2 by omega, List.getElem?_append_right (by simp [fCells]), List.getElem?_append_right (by simp [fCells])]
    simpa [fCells] using this
theorem fCells_one (F : Flds) : ∀ u ∈ F.flatMap fCells, u.oneCell' = true := by
  intro u hu
  simp only [List.mem_flatMap, fCells] at hu
  obtain ⟨x, _, hu⟩ := hu
  simp at hu
  rcases hu with rfl | rfl <;> rfl
theorem FBuf.below {B : Nat} {W W' : World} {v : Value} {F : Flds} (h : FBuf B W v F) (hb : Below W.heap.size W W') : FBuf B W' v F :=
  ⟨h.buf.kept fun k hk => hb.block k (h.buf.lt k hk), h.new⟩
theorem FBuf.fs {B : Nat} {W : World} {v : Value} {F : Flds} (h : FBuf B W v F) (hF : F.length ≤ maxLen) : FsAt W v F := by
  obtain ⟨⟨h1, ⟨h2, h3⟩ | ⟨g, cap, cur, rfl, h3, h4, h5, h6, h7, h8⟩⟩, h9⟩ := h
  · obtain rfl := List.eq_nil_of_length_eq_zero h2
    rcases h3 with rfl | ⟨g, rfl⟩
    · exact ⟨hF, _, _, rfl, Nat.le_refl _, fun i hi => by simp at hi⟩
    · exact ⟨hF, _, _, rfl, Nat.le_refl _, fun i hi => by simp at hi⟩
  · refine ⟨hF, _, cap, rfl, h4, fun i hi => ⟨g, 0, rfl, ?_, ?_⟩⟩
    · rw [cells_at h3, Nat.zero_add, take_get h8 (by omega)]
      exact (fCells_at F i hi).1
    · rw [cells_at h3, Nat.zero_add, take_get h8 (by omega)]
      exact (fCells_at F i hi).2
theorem info45f : (Tryz.prog.info? 28).map (fun i => (i.zero, i.size, i.bytes)) = some (some (.agg #[.int .i64 0, .string ⟨#[]⟩]), 2, 24) := by kernel_rfl
end Go.Proofs.YtommklkihjmgcaaGreatDoor.msgw
namespace Go.Proofs.YtommklkihjmgcaaGreatDoor.msgw
open Go.RowKit
open Go.Proofs.YtommklkihjmgcaaGreatDoor.msgp
open Go.Proofs.YtommklkihjmgcaaGreatDoor.buf
end Go.Proofs.YtommklkihjmgcaaGreatDoor.msgw
namespace Go.Proofs.YtommklkihjmgcaaGreatDoor.msgw
open Go.RowKit
open Go.Proofs.YtommklkihjmgcaaGreatDoor.msgp
open Go.Proofs.YtommklkihjmgcaaGreatDoor.buf
theorem take_put {α : Type} (L t : List α) (o m : Nat) (h : o + t.length ≤ m) : (L.take o ++ t ++ L.drop (o + t.length)).take m = (L.take m).take o ++ t ++ (L.take m).drop (o + t.length) ∨ L.length < o + t.length := by
  by_cases hL : o + t.length ≤ L.length
  · left
    apply List.ext_getElem?
    intro i
    rw [List.getElem?_take]
    have l1 : (L.take o).length = o := by rw [List.length_take]; omega
    have l2 : ((L.take m).take o).length = o := by rw [List.length_take, List.length_take]; omega
    by_cases h1 : i < o
    · rw [if_pos (by omega), List.append_assoc, List.append_assoc, List.getElem?_append_left (by omega), List.getElem?_append_left (by omega), List.getElem?_take, List.getElem?_take, List.getElem?_take, if_pos h1, if_pos h1, if_pos (by omega)]
    · by_cases h2 : i < o + t.length
      · have e1 : (L.take o ++ t ++ L.drop (o + t.length))[i]? = t[i - o]? := by
          rw [List.append_assoc, List.getElem?_append_right (by omega), l1, List.getElem?_append_left (by omega)]
        have e2 : ((L.take m).take o ++ t ++ (L.take m).drop (o + t.length))[i]? = t[i - o]? := by
          rw [List.append_assoc, List.getElem?_append_right (by omega), l2, List.getElem?_append_left (by omega)]
        rw [if_pos (by omega), e1, e2]
      · rw [List.getElem?_append_right (by rw [List.length_append]; omega), List.getElem?_append_right (by rw [List.length_append]; omega), List.length_append, List.length_append, l1, l2, List.getElem?_drop, List.getElem?_drop, List.getElem?_take]
        have e : o + t.length + (i - (o + t.length)) = i := by omega
        rw [e]
  · right
    omega
end Go.Proofs.YtommklkihjmgcaaGreatDoor.msgw
namespace Go.Proofs.YtommklkihjmgcaaGreatDoor.msgw
open Go.RowKit
open Go.Proofs.YtommklkihjmgcaaGreatDoor.msgp
open Go.Proofs.YtommklkihjmgcaaGreatDoor.buf
theorem add_at (b o j : Nat) : (⟨b, o, none⟩ : Addr).add j = ⟨b, o + j, none⟩ := by unfold Addr.add; split <;> simp_all
/-- A field in a block of its own, as it is handed to Insert. -/
def OneAt (w : World) (vb : Nat) (x : Fld) : Prop := w.heap[vb]? = some (.cells #[.int .i64 x.1, .string x.2] 28 (0, 0))
def InsAt (B : Nat) (F : Flds) (i : Nat) (x : Fld) (v : Value) (w : World) (e : Ending) (w' : World) : Prop :=
  ∃ v', e = .returned v' ∧ FBuf B w' v' (F.take i ++ x :: F.drop i) ∧ Turn (bufBlock v).toList w w'
end Go.Proofs.YtommklkihjmgcaaGreatDoor.msgw
namespace Go.Proofs.YtommklkihjmgcaaGreatDoor.msgw
open Go.RowKit
open Go.Proofs.YtommklkihjmgcaaGreatDoor.msgp
open Go.Proofs.YtommklkihjmgcaaGreatDoor.buf
end Go.Proofs.YtommklkihjmgcaaGreatDoor.msgw
namespace Go.Proofs.YtommklkihjmgcaaGreatDoor.msgw
open Go.RowKit
open Go.Proofs.YtommklkihjmgcaaGreatDoor.msgp
open Go.Proofs.YtommklkihjmgcaaGreatDoor.buf
theorem info32s : (Tryz.prog.info? 24).map (·.size) = some 2 := by kernel_rfl
theorem _root_.Go.Proofs.YtommklkihjmgcaaGreatDoor.buf.Turn.keptCell {O : List Nat} {w w' : World} (t : Turn O w w') {x i : Nat} {u : Value} (h : w.cell? ⟨x, i, none⟩ = some u) (hx : x ∉ O) : w'.cell? ⟨x, i, none⟩ = some u :=
  (World.cell?_of_block (a := ⟨x, i, none⟩) (t.block x (World.block_lt_of_cell? w ⟨x, i, none⟩ h) hx)).trans h
end Go.Proofs.YtommklkihjmgcaaGreatDoor.msgw
