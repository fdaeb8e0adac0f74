/- Rows that grow, of whatever elements; whole values out of and into blocks; single steps of a region by their own run. Rows that grow, more. Layer 5 in plain words: a message's fields. No program in sight. Layer 5: how a message's fields lie in memory; Get. Layer 5: copies of fields; where a field goes. Layer 5: where a field goes: the closures of Set, slices.IndexFunc. Layer 5: fields of a number taken away: slices.DeleteFunc. Layer 5: a field put into its place: slices.Insert. Layer 5: a field put into its place where there is room: slices.Insert. Layer 5: Set. Conditions: as each theorem says. -/
import Derived.Laws.AppendOwn
import Derived.Maps.AppendAt
import Derived.Deep.AppendLies
import Derived.Deep.RegionLaw
import Derived.Deep.WholeRow
import Derived.Great.BuildSlice
import Derived.OwnWalk
import Derived.Below
import Derived.Laws.CopyOwn
import Derived.WalkKit
import Derived.StillTailTactics
import Derived.Deep.Draws
import Derived.KernelRfl
import Derived.Test.YtommklkihjmgcaaGreatDoorProg
import Derived.Carry
import Derived.Deep.QuietTactic
import Derived.BigQuiet
import Derived.Lib.Hide
import Derived.Lib.SliceRun
import Derived.Lib.AppendZerosOnto
import Derived.Shelf.Spec.SlicesInsert
import Derived.Deep.RegionHeld3
namespace Go.Proofs.YtommklkihjmgcaaGreatDoor.buf
open Go.RowKit

theorem cells_at {w : World} {g : Nat} {cs : Array Value} {t : TypeId} {fr : Nat × Nat} (h : w.heap[g]? = some (.cells cs t fr)) (o : Nat) : w.cell? ⟨g, o, none⟩ = cs[o]? := by
  unfold World.cell?
  rw [h]
  rfl
theorem frozen_at {w : World} {g : Nat} {cs : Array Value} {t : TypeId} (h : w.heap[g]? = some (.cells cs t (0, 0))) (o : Nat) : w.frozen? ⟨g, o, none⟩ = false := by
  unfold World.frozen?
  rw [h]
  simp
theorem setRow_block {w : World} {g : Nat} {cs cs' : Array Value} {t : TypeId} {fr : Nat × Nat} (h : w.heap[g]? = some (.cells cs t fr)) : (w.setRow g cs').heap[g]? = some (.cells cs' t fr) := setRow_heap w g cs cs' t fr h
/-- A store of a whole value, by its own run. -/
theorem wpList_store_at {P : Program} {ops : Array Oper} {rest : List Oper} {o : Oper} {a : Act} {w w' : World} {Q : Exit → Act → World → Prop} (hgd : o.guard = none) (ty : TypeId) (x y : Operand) (ho : o.op = .store ty x y)
    (p : Addr) (hx : a.eval x = .pointer (some p)) (v : Value) (hy : a.eval y = v) (hr : (storeVar ty p v).run P w = .ok () w')
    (h : wpList P ops Q rest (a.put o.dst undef) w') : wpList P ops Q (o :: rest) a w :=
  wpList_plain hgd fun _ hK => by
    unfold Oper.wp execOp
    simp only [ho, hx, hy, Instr.storeAt, Instr.sureAddr, Sem.run_bind, Sem.run_pure, Result.andThen_ok, hr]
    exact hK _ _ h
/-- A row of writes: n of them; its own block, if it has room for any. -/
def Buf (w : World) (e size : Nat) (v : Value) (n : Nat) (xs : List Value) : Prop :=
  xs.length = n * size ∧ ((n = 0 ∧ (v = .slice none 0 0 ∨ ∃ g, v = .slice (some ⟨g, 0, none⟩) 0 0)) ∨
    ∃ g cap cur, v = .slice (some ⟨g, 0, none⟩) n cap ∧ w.heap[g]? = some (.cells cur e (0, 0)) ∧ n ≤ cap ∧ 0 < cap ∧ cap ≤ maxLen ∧ cur.size = cap * size ∧ cur.toList.take (n * size) = xs)
/-- The block that a row may be written into. -/
def bufBlock : Value → Option Nat
  | .slice (some a) _ c => if c = 0 then none else some a.block
  | _ => none
theorem Buf.kept {w w' : World} {e size : Nat} {v : Value} {n : Nat} {xs : List Value} (h : Buf w e size v n xs) (hb : ∀ k, bufBlock v = some k → w'.heap[k]? = w.heap[k]?) : Buf w' e size v n xs := by
  obtain ⟨h1, h2 | ⟨g, cap, cur, rfl, h3, h4, h5, h6⟩⟩ := h
  · exact ⟨h1, .inl h2⟩
  · exact ⟨h1, .inr ⟨g, cap, cur, rfl, (hb g (by simp [bufBlock]; omega)).trans h3, h4, h5, h6⟩⟩
theorem Buf.lt {w : World} {e size : Nat} {v : Value} {n : Nat} {xs : List Value} (h : Buf w e size v n xs) : ∀ k, bufBlock v = some k → k < w.heap.size := by
  intro k hk
  obtain ⟨h1, h2 | ⟨g, cap, cur, rfl, h3, h4, h5, h6⟩⟩ := h
  · obtain ⟨_, rfl | ⟨g, rfl⟩⟩ := h2 <;> simp [bufBlock] at hk
  · simp [bufBlock] at hk
    obtain ⟨_, rfl⟩ := hk
    exact (Array.getElem?_eq_some_iff.1 h3).1
theorem take_get {cur : Array Value} {n : Nat} {xs : List Value} (h : cur.toList.take n = xs) {j : Nat} (hj : j < n) : cur[j]? = xs[j]? := by
  rw [← h, List.getElem?_take, if_pos hj, Array.getElem?_toList]
theorem Buf.shape {w : World} {e size : Nat} {v : Value} {n : Nat} {xs : List Value} (h : Buf w e size v n xs) : ∃ p cap, v = .slice p n cap ∧ n ≤ cap ∧ cap ≤ maxLen := by
  obtain ⟨h1, ⟨rfl, rfl | ⟨g, rfl⟩⟩ | ⟨g, cap, cur, rfl, h3, h4, h5, h6, h7, h8⟩⟩ := h
  · exact ⟨_, _, rfl, by omega, by simp [maxLen]⟩
  · exact ⟨_, _, rfl, by omega, by simp [maxLen]⟩
  · exact ⟨_, _, rfl, h4, h6⟩
/-- Nothing but what is O's has turned. -/
structure Turn (O : List Nat) (w w' : World) : Prop where
  os : w'.os = w.os
  tape : w'.tape = w.tape
  output : w'.output = w.output
  size : w.heap.size ≤ w'.heap.size
  block : ∀ k, k < w.heap.size → k ∉ O → w'.heap[k]? = w.heap[k]?
theorem Turn.refl (O : List Nat) (w : World) : Turn O w w := ⟨rfl, rfl, rfl, Nat.le_refl _, fun _ _ _ => rfl⟩
theorem Turn.trans {O : List Nat} {a b c : World} (h : Turn O a b) (k : Turn O b c) : Turn O a c :=
  ⟨k.os.trans h.os, k.tape.trans h.tape, k.output.trans h.output, Nat.le_trans h.size k.size, fun i hi hn => (k.block i (Nat.lt_of_lt_of_le hi h.size) hn).trans (h.block i hi hn)⟩
theorem Turn.of_below {O : List Nat} {w w' : World} (h : Below w.heap.size w w') : Turn O w w' := ⟨h.os, h.tape, h.output, h.size, fun k hk _ => h.block k hk⟩
theorem Turn.mono {O O' : List Nat} {w w' : World} (h : Turn O w w') (hs : ∀ k ∈ O, k ∈ O') : Turn O' w w' := ⟨h.os, h.tape, h.output, h.size, fun k hk hn => h.block k hk fun hm => hn (hs k hm)⟩
theorem Turn.below {O : List Nat} {B : Nat} {w w' : World} (h : Turn O w w') (hB : B ≤ w.heap.size) (hO : ∀ k ∈ O, B ≤ k) : Below B w w' := ⟨h.os, h.tape, h.output, h.size, fun k hk => h.block k (by omega) fun hm => by have := hO k hm; omega⟩

theorem Turn.alloc {O : List Nat} {a w : World} (h : Turn O a w) (o : Obj) : Turn O a (w.alloc o) := h.trans (Turn.of_below ((Below.refl _ _).alloc (Nat.le_refl _) o))
theorem Turn.drew {O : List Nat} {a w : World} (h : Turn O a w) : Turn O a w.drew := ⟨h.os, h.tape, h.output, h.size, h.block⟩
theorem Turn.drewN {O : List Nat} {a w : World} (h : Turn O a w) (n : Nat) : Turn O a (w.drewN n) := ⟨h.os, h.tape, h.output, h.size, h.block⟩
theorem Turn.set {O : List Nat} {a w : World} (h : Turn O a w) {b : Nat} (hb : b ∈ O ∨ a.heap.size ≤ b) (j : Nat) (u : Value) : Turn O a (w.setCell ⟨b, j, none⟩ u) :=
  ⟨h.os, h.tape, h.output, by simpa [World.setCell] using h.size, fun k hk hn => (Below.heap_setCell _ _ _ _ (by rcases hb with hb | hb; exact fun e => hn (by rw [e]; exact hb); simp; omega)).trans (h.block k hk hn)⟩
theorem Turn.setRow {O : List Nat} {a w : World} (h : Turn O a w) {b : Nat} (hb : b ∈ O ∨ a.heap.size ≤ b) (cs : Array Value) : Turn O a (w.setRow b cs) :=
  ⟨h.os, h.tape, h.output, by simpa using h.size, fun k hk hn => (setRow_other _ _ k _ (by rcases hb with hb | hb; exact fun e => hn (by rw [e]; exact hb); omega)).trans (h.block k hk hn)⟩
theorem Turn.grown {O : List Nat} {a w w' : World} {row : Option Nat} (h : Turn O a w) (hg : w.grownBy w' row) (hr : ∀ k, row = some k → k ∈ O ∨ a.heap.size ≤ k) : Turn O a w' :=
  ⟨hg.os.trans h.os, hg.tape.trans h.tape, hg.output.trans h.output, Nat.le_trans h.size hg.size, fun k hk hn => (hg.block k (by have := h.size; omega) (fun e => by rcases hr k e.symm with h' | h'; exact hn h'; omega)).trans (h.block k hk hn)⟩
section
variable {P : Program} {w w' : World} {ops : Array Oper} {rest : List Oper} {o : Oper} {a : Act} {K : Act → World → Prop} {Q : Exit → Act → World → Prop} {E : Prop}
/-- A step of a region that draws, by its own run. -/
theorem step_run (hgd : o.guard = none) (v : Value) (hr : (execOp a.eval o).run P w = .ok (.value v) w') (h : K (a.put o.dst v) w') :
    if Region.wanted o (yielded ops a.tmps) = true then Oper.wp P o a w K Q else E := by
  have hw : Region.wanted o (yielded ops a.tmps) = true := by simp [Region.wanted, hgd]
  rw [if_pos hw]
  unfold Oper.wp
  rw [hr]
  exact h
theorem step_nov (hgd : o.guard = none) (hr : (execOp a.eval o).run P w = .ok .skip w') (h : K (a.put o.dst undef) w') :
    if Region.wanted o (yielded ops a.tmps) = true then Oper.wp P o a w K Q else E := by
  have hw : Region.wanted o (yielded ops a.tmps) = true := by simp [Region.wanted, hgd]
  rw [if_pos hw]
  unfold Oper.wp
  rw [hr]
  exact h
theorem exec_store (ty : TypeId) (x y : Operand) (ho : o.op = .store ty x y) (p : Addr) (hx : a.eval x = .pointer (some p)) (v : Value) (hy : a.eval y = v) (hr : (storeVar ty p v).run P w = .ok () w') : (execOp a.eval o).run P w = .ok .skip w' := by
  unfold execOp
  simp only [ho, hx, hy, Instr.storeAt, Instr.sureAddr, Sem.run_bind, Sem.run_pure, Result.andThen_ok, hr]
theorem fill_one {size : Nat} (hs : 0 < size) {z v : Array Value} (hz : z.size = size) (hv : v.size = size) : Instr.fill (fun i => some (i * size, size)) z [(0, .agg v)] = some v := by
  obtain ⟨r, hr, h1, h2⟩ := Go.Great.fill_dense hs [.agg v] 0 z (by intro x hx; simp at hx; subst hx; exact hv) (by simp; omega)
  have e : (([Value.agg v].zipIdx 0).map fun x => (x.2, x.1)) = [(0, Value.agg v)] := rfl
  rw [e] at hr
  rw [hr]
  congr 1
  apply Array.ext_getElem?
  intro k
  rw [h2 k]
  by_cases hk : k < size
  · rw [if_pos (by simp; omega)]
    have e1 : k / size - 0 = 0 := by rw [Nat.div_eq_of_lt hk]
    rw [e1, Nat.mod_eq_of_lt hk]
    rfl
  · rw [if_neg (by simp; omega), Array.getElem?_eq_none (by omega), Array.getElem?_eq_none (by omega)]
/-- A slice literal of one struct. -/
theorem exec_buildSlice_one (t e : TypeId) (x : Operand) (ho : o.op = .buildSlice t 1 #[(0, x)]) (z : Value) (size bytes : Nat) (hu : P.underlying t = some (.slice e)) (hie : (P.info? e).map (fun i => (i.zero, i.size, i.bytes)) = some (some z, size, bytes)) (hs : 0 < size ∧ size ≤ 16777216) (cs : Array Value) (hx : a.eval x = .agg cs) (hc : cs.size = size) :
    (execOp a.eval o).run P w = .ok (.value (.slice (some ⟨w.heap.size, 0, none⟩) 1 1)) (w.alloc (.cells cs e)) := by
  obtain ⟨ie, h1, h2, h3, h4⟩ := info_parts hie
  unfold execOp
  simp only [ho]
  have := run_buildSlice (P := P) w t e 1 (#[(0, x)].map fun (i, y) => (i, a.eval y)) cs ie z hu h1 h2 (by rw [h3]; omega) (by rw [h3]; omega) (by
    rw [h3]
    have e1 : (#[(0, x)].map fun (i, y) => (i, a.eval y)).toList = [(0, Value.agg cs)] := by simp [hx]
    rw [e1]
    exact fill_one hs.1 (by simp) hc)
  rw [Sem.run_bind, this]
  rfl
/-- append to a row of one's own. -/
theorem run_append_buf (t ty : TypeId) (e : TypeId) (z : Value) (size bytes : Nat) (ht : P.underlying t = some (.slice e)) (hie : (P.info? e).map (fun i => (i.zero, i.size, i.bytes)) = some (some z, size, bytes)) (hzs : z.cells.size = size) (hsz : 0 < size)
    (v : Value) (n : Nat) (xs : List Value) (hb : Buf w e size v n xs) (ad : Addr) (m c : Nat) (news : List Value) (hl : news.length = m * size) (hnews : ∀ j u, news[j]? = some u → w.cell? (ad.add j) = some u) (h1 : ∀ u ∈ news, u.oneCell' = true)
    (hm : 0 < m) (h63 : n + m ≤ maxLen) (hbytes : (n + m) * bytes ≤ 140737488355328) :
    ∃ g cap w', (Builtin.append_ #[t, t] ty #[v, .slice (some ad) m c]).run P w = .ok (.slice (some ⟨g, 0, none⟩) (n + m) cap) w' ∧ Buf w' e size (.slice (some ⟨g, 0, none⟩) (n + m) cap) (n + m) (xs ++ news) ∧ w.grownBy w' (bufBlock v) ∧ n + m ≤ cap ∧ cap ≤ maxLen ∧
      (bufBlock v = some g ∨ g = w.heap.size) ∧ g < w'.heap.size := by
  obtain ⟨i, hi, hz, hs, hby⟩ := info_parts hie
  have conv : ∀ {w : World} {v : Value} {n : Nat} {xs : List Value}, 0 < n → w.ownsRow 0 e size v n xs → Buf w e size v n xs := by
    intro w v n xs hn h
    obtain ⟨a1, ⟨_, a2⟩ | ⟨g, cap, cur, rfl, b1, b2, b3, b4, b5, b6⟩⟩ := h
    · omega
    · exact ⟨a1, .inr ⟨g, cap, cur, rfl, b2, b3, by omega, b4, b5, b6⟩⟩
  obtain ⟨q1, ⟨rfl, rfl | ⟨g0, rfl⟩⟩ | ⟨g, cap, cur, rfl, b2, b3, b4, b5, b6, b7⟩⟩ := hb
  · obtain rfl : xs = [] := List.eq_nil_of_length_eq_zero (by simpa using q1)
    obtain ⟨g, cap, w', hr, h2, h3, h4, h5⟩ := run_append_lies (P := P) w t ty 0 e i z size bytes ht hi hz hs hby hzs hsz (.slice none 0 0) 0 [] (World.ownsRow_nil w 0 e size) ad m c news hl hnews h1 hm h63 hbytes (Nat.zero_le _) _ rfl
    have hB := conv (by omega) h2
    obtain ⟨p, c', hv, hc1, hc2⟩ := hB.shape
    simp at hv
    refine ⟨g, cap, w', hr, hB, by simpa [bufBlock, Value.ownBlock] using h3, by omega, by omega, .inr ?_, h5⟩
    rcases h4 with h4 | h4
    · simp [Value.ownBlock] at h4
    · exact h4
  · obtain rfl : xs = [] := List.eq_nil_of_length_eq_zero (by simpa using q1)
    have hr := run_append_grow (P := P) w t ty e i z ht hi hz ⟨g0, 0, none⟩ 0 0 [] (by simp) (by simp) ad m c news (by rw [hs]; exact hl) hnews (by omega) (by simp only [maxLen] at h63; omega) (by rw [hby]; exact growslice_fits (by omega) hbytes)
    have hge := grownCap_ge w (0 + m) 0 e
    have hcm := grownCap_le_maxLen w (0 + m) 0 e h63
    refine ⟨_, _, _, hr, ⟨by simp [hl], .inr ⟨w.heap.size, _, _, rfl, heap_alloc_new w.drew _, hge, by omega, hcm, ?_, ?_⟩⟩, ⟨rfl, rfl, rfl, by simp, fun k hk _ => Below.heap_alloc w.drew _ k hk⟩, hge, hcm, .inr rfl, by simp⟩
    · simp only [Array.size_append, List.size_toArray, size_zeroCells, hzs, hl, List.length_nil]
      rw [Nat.zero_add, ← Nat.add_mul]
      congr 1
      omega
    · have e : (0 + m) * size = news.length := by rw [hl, Nat.zero_add]
      rw [e]
      simp
  · obtain ⟨g', cap', w', hr, h2, h3, h4, h5⟩ := run_append_lies (P := P) w t ty 0 e i z size bytes ht hi hz hs hby hzs hsz (.slice (some ⟨g, 0, none⟩) n cap) n xs ⟨q1, .inr ⟨g, cap, cur, rfl, Nat.zero_le _, b2, b3, b5, b6, b7⟩⟩ ad m c news hl hnews h1 hm h63 hbytes (Nat.zero_le _) _ rfl
    have hB := conv (by omega) h2
    obtain ⟨p, c', hv, hc1, hc2⟩ := hB.shape
    simp at hv
    have eb : bufBlock (.slice (some ⟨g, 0, none⟩) n cap) = some g := by simp [bufBlock]; omega
    refine ⟨g', cap', w', hr, hB, by rw [eb]; exact h3, by omega, by omega, ?_, h5⟩
    rw [eb]
    simpa [Value.ownBlock] using h4
theorem exec_append_buf (s x : Operand) (t : TypeId) (ho : o.op = .call { callee := .builtin .append, args := #[s, x], argTypes := #[t, t] })
    (e : TypeId) (z : Value) (size bytes : Nat) (ht : P.underlying t = some (.slice e)) (hie : (P.info? e).map (fun i => (i.zero, i.size, i.bytes)) = some (some z, size, bytes)) (hzs : z.cells.size = size) (hsz : 0 < size)
    (v : Value) (n : Nat) (xs : List Value) (hs : a.eval s = v) (hb : Buf w e size v n xs) (ad : Addr) (m c : Nat) (hx : a.eval x = .slice (some ad) m c) (news : List Value) (hl : news.length = m * size) (hnews : ∀ j u, news[j]? = some u → w.cell? (ad.add j) = some u) (h1 : ∀ u ∈ news, u.oneCell' = true)
    (hm : 0 < m) (h63 : n + m ≤ maxLen) (hbytes : (n + m) * bytes ≤ 140737488355328) :
    ∃ g cap w', (execOp a.eval o).run P w = .ok (.value (.slice (some ⟨g, 0, none⟩) (n + m) cap)) w' ∧ Buf w' e size (.slice (some ⟨g, 0, none⟩) (n + m) cap) (n + m) (xs ++ news) ∧ w.grownBy w' (bufBlock v) ∧ n + m ≤ cap ∧ cap ≤ maxLen ∧
      (bufBlock v = some g ∨ g = w.heap.size) ∧ g < w'.heap.size := by
  obtain ⟨g, cap, w', hr, rest⟩ := run_append_buf (P := P) (w := w) t o.type e z size bytes ht hie hzs hsz v n xs hb ad m c news hl hnews h1 hm h63 hbytes
  refine ⟨g, cap, w', ?_, rest⟩
  unfold execOp
  simp only [ho, resolve, invoke, builtin, Sem.run_bind, Sem.run_pure, Result.andThen_ok, List.map_toArray, List.map_cons, List.map_nil, hs, hx, hr]
theorem step_append_buf (hgd : o.guard = none) (s x : Operand) (t : TypeId) (ho : o.op = .call { callee := .builtin .append, args := #[s, x], argTypes := #[t, t] })
    (e : TypeId) (z : Value) (size bytes : Nat) (ht : P.underlying t = some (.slice e)) (hie : (P.info? e).map (fun i => (i.zero, i.size, i.bytes)) = some (some z, size, bytes)) (hzs : z.cells.size = size) (hsz : 0 < size)
    (v : Value) (n : Nat) (xs : List Value) (hs : a.eval s = v) (hb : Buf w e size v n xs) (ad : Addr) (m c : Nat) (hx : a.eval x = .slice (some ad) m c) (news : List Value) (hl : news.length = m * size) (hnews : ∀ j u, news[j]? = some u → w.cell? (ad.add j) = some u) (h1 : ∀ u ∈ news, u.oneCell' = true)
    (hm : 0 < m) (h63 : n + m ≤ maxLen) (hbytes : (n + m) * bytes ≤ 140737488355328)
    (h : ∀ g cap w', Buf w' e size (.slice (some ⟨g, 0, none⟩) (n + m) cap) (n + m) (xs ++ news) → w.grownBy w' (bufBlock v) → n + m ≤ cap → cap ≤ maxLen → (bufBlock v = some g ∨ g = w.heap.size) → g < w'.heap.size → K (a.put o.dst (.slice (some ⟨g, 0, none⟩) (n + m) cap)) w') :
    if Region.wanted o (yielded ops a.tmps) = true then Oper.wp P o a w K Q else E := by
  obtain ⟨g, cap, w', hr, h2, h3, h4, h5, h6, h7⟩ := exec_append_buf (P := P) (w := w) (o := o) (a := a) s x t ho e z size bytes ht hie hzs hsz v n xs hs hb ad m c hx news hl hnews h1 hm h63 hbytes
  exact step_run hgd _ hr (h g cap w' h2 h3 h4 h5 h6 h7)
theorem wpList_append_buf (hgd : o.guard = none) (s x : Operand) (t : TypeId) (ho : o.op = .call { callee := .builtin .append, args := #[s, x], argTypes := #[t, t] })
    (e : TypeId) (z : Value) (size bytes : Nat) (ht : P.underlying t = some (.slice e)) (hie : (P.info? e).map (fun i => (i.zero, i.size, i.bytes)) = some (some z, size, bytes)) (hzs : z.cells.size = size) (hsz : 0 < size)
    (v : Value) (n : Nat) (xs : List Value) (hs : a.eval s = v) (hb : Buf w e size v n xs) (ad : Addr) (m c : Nat) (hx : a.eval x = .slice (some ad) m c) (news : List Value) (hl : news.length = m * size) (hnews : ∀ j u, news[j]? = some u → w.cell? (ad.add j) = some u) (h1 : ∀ u ∈ news, u.oneCell' = true)
    (hm : 0 < m) (h63 : n + m ≤ maxLen) (hbytes : (n + m) * bytes ≤ 140737488355328)
    (h : ∀ g cap w', Buf w' e size (.slice (some ⟨g, 0, none⟩) (n + m) cap) (n + m) (xs ++ news) → w.grownBy w' (bufBlock v) → n + m ≤ cap → cap ≤ maxLen → (bufBlock v = some g ∨ g = w.heap.size) → g < w'.heap.size → wpList P ops Q rest (a.put o.dst (.slice (some ⟨g, 0, none⟩) (n + m) cap)) w') :
    wpList P ops Q (o :: rest) a w := by
  obtain ⟨g, cap, w', hr, h2, h3, h4, h5, h6, h7⟩ := exec_append_buf (P := P) (w := w) (o := o) (a := a) s x t ho e z size bytes ht hie hzs hsz v n xs hs hb ad m c hx news hl hnews h1 hm h63 hbytes
  exact wpList_plain hgd fun _ hK => by
    unfold Oper.wp
    rw [hr]
    exact hK _ _ (h g cap w' h2 h3 h4 h5 h6 h7)
theorem exec_alloc (t : TypeId) (ho : o.op = .alloc t) (cs : Array Value) (hz : (zeroValue t).run P w = .ok (.agg cs) w) : (execOp a.eval o).run P w = .ok (.value (.pointer (some ⟨w.heap.size, 0, none⟩))) (w.alloc (.cells cs t)) := by
  unfold execOp
  simp [ho, Instr.alloc, newVar, newRow, hz, Value.cells]
theorem wpList_run (hgd : o.guard = none) (v : Value) (hr : (execOp a.eval o).run P w = .ok (.value v) w') (h : wpList P ops Q rest (a.put o.dst v) w') : wpList P ops Q (o :: rest) a w :=
  wpList_plain hgd fun _ hK => by
    unfold Oper.wp
    rw [hr]
    exact hK _ _ h
/-- A region that draws its order, all but the last operations of which read: by these in the text's order. -/
theorem wp_region_tail {id : Nat} {l : List Oper} (n : Nat) (hm : P.follows .mixedOrders = true) (hB : Region.lexTailB .any l.toArray n = true)
    (h : wpStill P l.toArray w.drew (fun a' => wpList P l.toArray Q (l.drop n) a' w.drew) (l.take n) a) : (Code.region id l.toArray true).wp P Q a w := wp_region_still_tail n hm hB h
/-- Cells stored into the middle of a row. -/
theorem run_storeVar_mid' {ty : TypeId} {g o' n : Nat} {t : TypeId} {cur cs : Array Value} (hg : w.heap[g]? = some (.cells cur t (0, 0))) (hi : (P.info? ty).map (·.size) = some n) (hn : cs.size = n) (hfit : o' + n ≤ cur.size) (h1 : cs.all (·.oneCell') = true) :
    (storeVar ty ⟨g, o', none⟩ (.agg cs)).run P w = .ok () (w.setRow g (cur.toList.take o' ++ cs.toList ++ cur.toList.drop (o' + n)).toArray) := by
  have := run_storeCells_at P g o' t cs.toList 0 cur w hg (by simp; omega) (fun v hv => (Array.all_eq_true_iff_forall_mem.1 h1) v (by simpa using hv))
  cases hq : P.info? ty with
  | none => simp [hq] at hi
  | some i =>
    have hs : i.size = n := by simpa [hq] using hi
    simp only [Nat.add_zero, Array.length_toList, hn] at this
    simp [storeVar, sizeOf, typeInfo, hq, Value.cells, hs, hn, this]
theorem exec_clear (x : Operand) (t e : TypeId) (ho : o.op = .call { callee := .builtin .clear, args := #[x], argTypes := #[t] }) {g o' n c : Nat} (hx : a.eval x = .slice (some ⟨g, o', none⟩) n c) (hn : 0 < n) (ht : P.underlying t = some (.slice e)) (z : Value) (size : Nat) (hz : (zeroValue e).run P w = .ok z w) (hzs : z.cells.size = size) (h1 : ∀ v ∈ (Builtin.zeroCells z.cells n).toList, v.oneCell' = true)
    {t' : TypeId} {cur : Array Value} (hg : w.heap[g]? = some (.cells cur t' (0, 0))) (hfit : o' + n * size ≤ cur.size) :
    (execOp a.eval o).run P w = .ok (.value (.tuple #[])) (w.setRow g (cur.toList.take o' ++ (Builtin.zeroCells z.cells n).toList ++ cur.toList.drop (o' + n * size)).toArray) := by
  have hsz : (Builtin.zeroCells z.cells n).toList.length = n * size := by rw [Array.length_toList, size_zeroCells, hzs]
  have := run_storeCells_at P g o' t' (Builtin.zeroCells z.cells n).toList 0 cur w hg (by rw [hsz]; simpa using hfit) h1
  rw [hsz] at this
  simp only [Nat.add_zero] at this
  obtain ⟨k, rfl⟩ : ∃ k, n = k + 1 := ⟨n - 1, by omega⟩
  unfold execOp
  simp [ho, resolve, invoke, builtin, Builtin.clear_, run_underlying ht, hx, hz, this]
end
end Go.Proofs.YtommklkihjmgcaaGreatDoor.buf
namespace Go.Proofs.YtommklkihjmgcaaGreatDoor.buf
open Go.RowKit
section
variable {P : Program} {w w' : World} {ops : Array Oper} {rest : List Oper} {o : Oper} {a : Act} {K : Act → World → Prop} {Q : Exit → Act → World → Prop} {E : Prop}
/-- Nothing appended. -/
theorem exec_append_no (s x : Operand) (t : TypeId) (ho : o.op = .call { callee := .builtin .append, args := #[s, x], argTypes := #[t, t] }) (e : TypeId) (z : Value) (size bytes : Nat) (ht : P.underlying t = some (.slice e)) (hie : (P.info? e).map (fun i => (i.zero, i.size, i.bytes)) = some (some z, size, bytes))
    {g o' n c : Nat} {q : Option Addr} {c2 : Nat} (hs : a.eval s = .slice (some ⟨g, o', none⟩) n c) (hx : a.eval x = .slice q 0 c2) (hn : n ≤ c) : (execOp a.eval o).run P w = .ok (.value (.slice (some ⟨g, o', none⟩) n c)) w := by
  obtain ⟨i, hi, hz, hsz, hby⟩ := info_parts hie
  unfold execOp
  cases q <;> simp [ho, resolve, invoke, builtin, hs, hx, Builtin.append_, run_underlying ht, sizeOf, typeInfo, hi, Builtin.lenOf, Builtin.firstCells, loadCells, loadCellsFrom, hn, storeCells]
end
end Go.Proofs.YtommklkihjmgcaaGreatDoor.buf
namespace Go.Proofs.YtommklkihjmgcaaGreatDoor.msgp
/-- A field: its number, its text. -/
abbrev Fld := Int × ByteArray
abbrev Flds := List Fld
def getM (F : Flds) (no : Int) : Option ByteArray := (F.find? fun x => decide (x.1 = no)).map (·.2)
def delM (F : Flds) (no : Int) : Flds := F.filter fun x => !decide (x.1 = no)
/-- Where a field goes: ahead of the first one of a greater number. -/
def spot (F : Flds) (no : Int) : Nat := F.findIdx fun x => decide (no < x.1)
def insM (F : Flds) (no : Int) (t : ByteArray) : Flds := F.take (spot F no) ++ (no, t) :: F.drop (spot F no)
def setM (F : Flds) (no : Int) (t : ByteArray) : Flds := insM (delM F no) no t
end Go.Proofs.YtommklkihjmgcaaGreatDoor.msgp
namespace Go.Proofs.YtommklkihjmgcaaGreatDoor.msgw
open Go.RowKit
open Go.Proofs.YtommklkihjmgcaaGreatDoor.msgp
open Go.Proofs.YtommklkihjmgcaaGreatDoor.buf
/-- Fields in a slice. -/
def FsAt (w : World) (v : Value) (F : Flds) : Prop :=
  F.length ≤ maxLen ∧ ∃ p c, v = .slice p F.length c ∧ F.length ≤ c ∧ ∀ i (hi : i < F.length), ∃ b o, p = some ⟨b, o, none⟩ ∧ w.cell? ⟨b, o + i * 2, none⟩ = some (.int .i64 F[i].1) ∧ w.cell? ⟨b, o + i * 2 + 1, none⟩ = some (.string F[i].2)
theorem _root_.Go.RowKit.Below.keptCell {w w' : World} {x i : Nat} {u : Value} (t : Below w.heap.size w w') (h : w.cell? ⟨x, i, none⟩ = some u) : w'.cell? ⟨x, i, none⟩ = some u :=
  (t.cell (p := ⟨x, i, none⟩) (World.block_lt_of_cell? w ⟨x, i, none⟩ h)).trans h
theorem FsAt.below {w w' : World} {v : Value} {F : Flds} (h : FsAt w v F) (hb : Below w.heap.size w w') : FsAt w' v F := by
  obtain ⟨h0, p, c, h1, h2, h3⟩ := h
  refine ⟨h0, p, c, h1, h2, fun i hi => ?_⟩
  obtain ⟨b, o, h4, h5, h6⟩ := h3 i hi
  exact ⟨b, o, h4, hb.keptCell h5, hb.keptCell h6⟩
theorem FsAt.shape {w : World} {v : Value} {F : Flds} (h : FsAt w v F) : ∃ p c, v = .slice p F.length c := by
  obtain ⟨_, p, c, h1, _⟩ := h
  exact ⟨p, c, h1⟩
theorem FsAt.get {w : World} {p : Option Addr} {n c : Nat} {F : Flds} (h : FsAt w (.slice p n c) F) : ∀ i (hi : i < F.length), ∃ b o, p = some ⟨b, o, none⟩ ∧ w.cell? ⟨b, o + i * 2, none⟩ = some (.int .i64 F[i].1) ∧ w.cell? ⟨b, o + i * 2 + 1, none⟩ = some (.string F[i].2) := by
  obtain ⟨_, p', c', h1, _, h3⟩ := h
  simp only [Value.slice.injEq] at h1
  obtain ⟨rfl, _, _⟩ := h1
  exact h3
theorem drewN_base {B : Nat} (w : World) (n : Nat) : Below B w (w.drewN n) := ⟨rfl, rfl, rfl, Nat.le_refl _, fun _ _ => rfl⟩
theorem getM_step (F : Flds) (no : Int) (k : Nat) (hk : k < F.length) : getM (F.drop k) no = if F[k].1 = no then some F[k].2 else getM (F.drop (k + 1)) no := by
  rw [List.drop_eq_getElem_cons hk]
  unfold getM
  by_cases e : F[k].1 = no
  · rw [if_pos e, List.find?_cons_of_pos (by simpa using e)]
    rfl
  · rw [if_neg e, List.find?_cons_of_neg (by simpa using e)]
theorem get_any {w : World} {v : Value} {F : Flds} (h : FsAt w v F) (ty no : Int) :
    Calls Tryz.prog 15 #[.agg #[.int .i64 ty, v], .int .i64 no] w fun e w' => e = .returned (.tuple #[.string ((getM F no).getD ⟨#[]⟩), .bool (getM F no).isSome]) ∧ Below w.heap.size w w' := by
  obtain ⟨p, c, rfl⟩ := h.shape
  have hl := h.1
  simp only [maxLen] at hl
  have H := Lib.hid h
  clear h
  go_enter Tryz.func15, Tryz.ntmps15
  go_wp2_with fail
  obtain ⟨w1, e1⟩ : ∃ W, w.alloc (.cells #[.int .i64 ty, .slice p F.length c] 24) = W := ⟨_, rfl⟩
  have b1 : Below w.heap.size w w1 := by rw [← e1]; exact (Below.refl _ _).alloc (Nat.le_refl _) _
  rw [e1]
  have B1 := Lib.hid b1
  clear e1 b1
  go_loopw [11] (fun i wr => Below w.heap.size w wr ∧ ∃ k : Nat, k ≤ F.length ∧ i = .int .i64 k ∧ getM F no = getM (F.drop k) no) (fun i _ => F.length - (intOf i).toNat)
  case atStart => exact ⟨B1.out, 0, by omega, rfl, by simp⟩
  case round =>
    obtain ⟨hbw, k, hk, rfl, he⟩ := hrel
    by_cases hlt : k < F.length
    · have hlt' : (k : Int) < F.length := by omega
      obtain ⟨b, o, rfl, q0, q1⟩ := (H.out.below hbw).get k hlt
      have hst := getM_step F no k hlt
      obtain ⟨x, ex⟩ : ∃ x, x = F[k] := ⟨_, rfl⟩
      rw [← ex] at q0 q1 hst
      obtain ⟨n, s⟩ := x
      rw [hst] at he
      have HE := Lib.hid he
      have HB := Lib.hid (hbw.trans (((Below.refl wr.heap.size wr).alloc (Nat.le_refl _) (.cells #[.int .i64 n, .string s] 28)).mono hbw.size))
      clear he hst ex hbw
      by_cases hn : n = no
      · subst hn
        have HE2 := Lib.hid (show getM F n = some s by rw [HE.out, if_pos rfl])
        go_wp2_with fail
        go_ret2
        exact ⟨by rw [HE2.out]; rfl, HB.out⟩
      · have HE2 := Lib.hid (show getM F no = getM (F.drop (k + 1)) no by rw [HE.out, if_neg hn])
        go_wp2_with fail
        go_roundw
        case rel => exact ⟨HB.out, k + 1, by omega, by go_num, HE2.out⟩
        case measure => simp [intOf]; omega
    · obtain rfl : k = F.length := by omega
      have hlt' : ¬ (F.length : Int) < F.length := by omega
      have HE := Lib.hid (show getM F no = none by rw [he, List.drop_length]; rfl)
      have HB := Lib.hid hbw
      clear he hbw
      go_wp2_with fail
      go_ret2
      exact ⟨by rw [HE.out]; rfl, HB.out⟩
end Go.Proofs.YtommklkihjmgcaaGreatDoor.msgw
namespace Go.Proofs.YtommklkihjmgcaaGreatDoor.msgw
open Go.RowKit
open Go.Proofs.YtommklkihjmgcaaGreatDoor.msgp
open Go.Proofs.YtommklkihjmgcaaGreatDoor.buf
def fCells (x : Fld) : List Value := [.int .i64 x.1, .string x.2]
/-- Fields in a row of one's own. -/
structure FBuf (B : Nat) (W : World) (v : Value) (F : Flds) : Prop where
  buf : Buf W 28 2 v F.length (F.flatMap fCells)
  new : ∀ g, bufBlock v = some g → B ≤ g
theorem fCells_len (F : Flds) : (F.flatMap fCells).length = F.length * 2 := by
  induction F with
  | nil => rfl
  | cons x F ih => rw [List.flatMap_cons, List.length_append, ih, List.length_cons]; simp [fCells]; omega
theorem fCells_at : ∀ (F : Flds) i (h : i < F.length), (F.flatMap fCells)[i * 2]? = some (.int .i64 F[i].1) ∧ (F.flatMap fCells)[i * 2 + 1]? = some (.string F[i].2)
  | [], i, h => by simp at h
  | x :: F, 0, _ => by simp [fCells]
  | x :: F, i + 1, h => by
    have := fCells_at F i (by simpa using h)
    rw [List.flatMap_cons, show (i + 1) * 2 = i * 2 + 2 by omega, show i * 2 + 2 + 1 = i * 2 + 1 + 2 by omega, List.getElem?_append_right (by simp [fCells]), List.getElem?_append_right (by simp [fCells])]
    simpa [fCells] using this
theorem fCells_one (F : Flds) : ∀ u ∈ F.flatMap fCells, u.oneCell' = true := by
  intro u hu
  simp only [List.mem_flatMap, fCells] at hu
  obtain ⟨x, _, hu⟩ := hu
  simp at hu
  rcases hu with rfl | rfl <;> rfl
theorem FBuf.below {B : Nat} {W W' : World} {v : Value} {F : Flds} (h : FBuf B W v F) (hb : Below W.heap.size W W') : FBuf B W' v F :=
  ⟨h.buf.kept fun k hk => hb.block k (h.buf.lt k hk), h.new⟩
theorem FBuf.fs {B : Nat} {W : World} {v : Value} {F : Flds} (h : FBuf B W v F) (hF : F.length ≤ maxLen) : FsAt W v F := by
  obtain ⟨⟨h1, ⟨h2, h3⟩ | ⟨g, cap, cur, rfl, h3, h4, h5, h6, h7, h8⟩⟩, h9⟩ := h
  · obtain rfl := List.eq_nil_of_length_eq_zero h2
    rcases h3 with rfl | ⟨g, rfl⟩
    · exact ⟨hF, _, _, rfl, Nat.le_refl _, fun i hi => by simp at hi⟩
    · exact ⟨hF, _, _, rfl, Nat.le_refl _, fun i hi => by simp at hi⟩
  · refine ⟨hF, _, cap, rfl, h4, fun i hi => ⟨g, 0, rfl, ?_, ?_⟩⟩
    · rw [cells_at h3, Nat.zero_add, take_get h8 (by omega)]
      exact (fCells_at F i hi).1
    · rw [cells_at h3, Nat.zero_add, take_get h8 (by omega)]
      exact (fCells_at F i hi).2
theorem info45f : (Tryz.prog.info? 28).map (fun i => (i.zero, i.size, i.bytes)) = some (some (.agg #[.int .i64 0, .string ⟨#[]⟩]), 2, 24) := by kernel_rfl
set_option maxHeartbeats 1000000 in
theorem clone_fs {w : World} {v : Value} {F : Flds} (h : FsAt w v F) (hF : F.length ≤ 2097152) :
    Calls Tryz.prog 28 #[v] w fun e w' => ∃ v', e = .returned v' ∧ FBuf w.heap.size w' v' F ∧ Below w.heap.size w w' := by
  obtain ⟨p, c, rfl⟩ := h.shape
  by_cases h0 : F.length = 0
  · obtain rfl := List.eq_nil_of_length_eq_zero h0
    cases p with
    | none =>
      have hq := fun w => Lib.run_eql_slice_nil (P := Tryz.prog) w 22 _ none 0 c 0 0 Tryz.underlying22
      clear h h0 hF
      go_enter Tryz.func28, Tryz.ntmps28
      go_wp2_with fail
      go_ret
      exact ⟨_, rfl, ⟨⟨rfl, .inl ⟨rfl, .inl rfl⟩⟩, fun g h => by simp [bufBlock] at h⟩, Below.refl _ _⟩
    | some ad =>
      have hq := fun w => Lib.run_eql_slice_nil (P := Tryz.prog) w 22 _ (some ad) 0 c 0 0 Tryz.underlying22
      clear h h0 hF
      go_enter Tryz.func28, Tryz.ntmps28
      go_wp2_with (with_reducible refine wpList_run rfl _ (exec_append_no (.tmp 5) (.tmp 6) 22 rfl 28 _ 2 24 Tryz.underlying22 info45f rfl rfl (by omega)) ?_)
      go_ret
      exact ⟨_, rfl, ⟨⟨rfl, .inl ⟨rfl, .inr ⟨_, rfl⟩⟩⟩, fun g h => by simp [bufBlock] at h⟩, (Below.refl _ _).alloc (Nat.le_refl _) _⟩
  · obtain ⟨b, o, rfl, q00⟩ := h.get 0 (by omega)
    clear q00
    have hq := fun w => Lib.run_eql_slice_nil (P := Tryz.prog) w 22 _ (some ⟨b, o, none⟩) F.length c 0 0 Tryz.underlying22
    have hB0 : Buf (w.alloc (.cells #[] 28)) 28 2 (.slice (some ⟨w.heap.size, 0, none⟩) 0 0) 0 [] := ⟨rfl, .inl ⟨rfl, .inr ⟨_, rfl⟩⟩⟩
    have b1 : Below w.heap.size w (w.alloc (.cells #[] 28)) := (Below.refl _ _).alloc (Nat.le_refl _) _
    have hnews : ∀ j u, (F.flatMap fCells)[j]? = some u → (w.alloc (.cells #[] 28)).cell? ((⟨b, o, none⟩ : Addr).add j) = some u := fun j u hu => by
      have hadd : (⟨b, o, none⟩ : Addr).add j = ⟨b, o + j, none⟩ := by unfold Addr.add; split <;> simp_all
      have hj : j < F.length * 2 := by rw [← fCells_len]; exact (List.getElem?_eq_some_iff.1 hu).1
      obtain ⟨b', o', e, q0, q1⟩ := (h.below b1).get (j / 2) (by omega)
      simp only [Option.some.injEq, Addr.mk.injEq, and_true] at e
      obtain ⟨rfl, rfl⟩ := e
      obtain ⟨f0, f1⟩ := fCells_at F (j / 2) (by omega)
      rw [hadd]
      rcases Nat.mod_two_eq_zero_or_one j with hm | hm
      · have ej : j / 2 * 2 = j := by omega
        rw [ej] at f0 q0
        rw [f0] at hu
        rw [q0, hu]
      · have ej : j / 2 * 2 + 1 = j := by omega
        rw [ej] at f1
        rw [show o + j / 2 * 2 + 1 = o + j by omega] at q1
        rw [f1] at hu
        rw [q1, hu]
    have hl : Hid ((F.flatMap fCells).length = F.length * 2) := Lib.hid (fCells_len F)
    have hm : 0 < F.length := by omega
    have h63 : 0 + F.length ≤ maxLen := by simp only [maxLen]; omega
    have hby : (0 + F.length) * 24 ≤ 140737488355328 := by omega
    have h1 := fCells_one F
    clear h h0 b1
    go_enter Tryz.func28, Tryz.ntmps28
    go_wp2_with (refine wpList_append_buf rfl (.tmp 5) (.tmp 6) 22 rfl 28 _ 2 24 Tryz.underlying22 info45f rfl (by omega) (.slice (some ⟨w.heap.size, 0, none⟩) 0 0) 0 _ rfl hB0 ⟨b, o, none⟩ F.length c rfl (F.flatMap fCells) hl.out hnews h1 hm h63 hby ?_; intro gg c3 w3 hB3 hg3 hc1 _ hat _)
    go_ret
    have eb : bufBlock (.slice (some ⟨w.heap.size, 0, none⟩) 0 0) = none := rfl
    rw [eb] at hg3 hat
    refine ⟨.slice (some ⟨gg, 0, none⟩) F.length c3, rfl, ⟨by simpa using hB3, fun g hg => ?_⟩, ?_⟩
    · have : g = gg := by
        unfold bufBlock at hg
        simp only at hg
        split at hg
        · cases hg
        · injection hg with hg; exact hg.symm
      subst this
      rcases hat with hat | hat
      · cases hat
      · simp at hat
        omega
    · exact ((Below.refl _ _).alloc (Nat.le_refl _) _).grown hg3 (by simp) (by simp)
end Go.Proofs.YtommklkihjmgcaaGreatDoor.msgw
namespace Go.Proofs.YtommklkihjmgcaaGreatDoor.msgw
open Go.RowKit
open Go.Proofs.YtommklkihjmgcaaGreatDoor.msgp
open Go.Proofs.YtommklkihjmgcaaGreatDoor.buf
/-- The closure that asks for a number. -/
theorem clos_is {w : World} {bn : Nat} {no : Int} (hb : w.cell? ⟨bn, 0, none⟩ = some (.int .i64 no)) (x : Fld) :
    Calls Tryz.prog 29 #[.agg #[.int .i64 x.1, .string x.2], .pointer (some ⟨bn, 0, none⟩)] w fun e w' => e = .returned (.bool (decide (x.1 = no))) ∧ Below w.heap.size w w' := by
  obtain ⟨n, s⟩ := x
  have hb2 := ((Below.refl w.heap.size w).alloc (Nat.le_refl _) (.cells #[.int .i64 n, .string s] 28)).keptCell hb
  have HB := Lib.hid ((Below.refl w.heap.size w).alloc (Nat.le_refl _) (.cells #[.int .i64 n, .string s] 28))
  clear hb
  go_enter Tryz.func29, Tryz.ntmps29
  go_wp2_with fail
  go_ret
  exact ⟨by first | rfl | simp, HB.out⟩
theorem index_is {w : World} {bn : Nat} {no : Int} (hb : w.cell? ⟨bn, 0, none⟩ = some (.int .i64 no)) {v : Value} {F : Flds} (h : FsAt w v F) :
    Calls Tryz.prog 30 #[v, .func (.func 29) #[] #[.pointer (some ⟨bn, 0, none⟩)]] w fun e w' => e = .returned (.int .i64 (if F.findIdx (fun x => decide (x.1 = no)) < F.length then (F.findIdx (fun x => decide (x.1 = no)) : Nat) else -1)) ∧ Below w.heap.size w w' := by
  obtain ⟨p, c, rfl⟩ := h.shape
  have hl := h.1
  simp only [maxLen] at hl
  obtain ⟨R, eR⟩ : ∃ R : Int, (if F.findIdx (fun x => decide (x.1 = no)) < F.length then ((F.findIdx (fun x => decide (x.1 = no)) : Nat) : Int) else -1) = R := ⟨_, rfl⟩
  rw [eR]
  have HR := Lib.hid eR
  have H := Lib.hid h
  have HN := Lib.hid hb
  clear h hb eR
  go_enter Tryz.func30, Tryz.ntmps30
  go_wp2_with fail
  go_loopw [8] (fun i wr => Below w.heap.size w wr ∧ ∃ k : Nat, k ≤ F.length ∧ i = .int .i64 k ∧ ∀ j (hj : j < F.length), j < k → (fun x : Fld => decide (x.1 = no)) F[j] = false) (fun i _ => F.length - (intOf i).toNat)
  case atStart => exact ⟨Below.refl _ _, 0, by omega, rfl, fun j hj h => by omega⟩
  case round =>
    obtain ⟨hbw, k, hk, rfl, he⟩ := hrel
    by_cases hlt : k < F.length
    · have hlt' : (k : Int) < F.length := by omega
      obtain ⟨b, o, rfl, q0, q1⟩ := (H.out.below hbw).get k hlt
      obtain ⟨x, ex⟩ : ∃ x, F[k] = x := ⟨_, rfl⟩
      rw [ex] at q0 q1
      obtain ⟨pb, hpb⟩ : ∃ pb, (decide (x.1 = no)) = pb := ⟨_, rfl⟩
      have HC := Lib.hid (clos_is (hbw.keptCell HN.out) x)
      rw [hpb] at HC
      have hpk : (fun x : Fld => decide (x.1 = no)) F[k] = pb := by rw [ex]; exact hpb
      have HB := Lib.hid hbw
      have HE := Lib.hid he
      have HLT := Lib.hid hlt
      cases pb with
      | true =>
        have HI := Lib.hid (show F.findIdx (fun x => decide (x.1 = no)) = k from (List.findIdx_eq hlt).2 ⟨hpk, fun j hj => he j (by omega) hj⟩)
        obtain ⟨n, s⟩ := x
        clear he hpk hpb hbw ex
        go_wp2_with fail
        refine HC.out.mono ?_
        rintro e w2 ⟨rfl, b2⟩
        have HB2 := Lib.hid (HB.out.trans (b2.mono HB.out.size))
        clear b2
        go_wp2_with fail
        go_ret
        exact ⟨by rw [← HR.out, HI.out, if_pos HLT.out]; rfl, HB2.out⟩
      | false =>
        have HE2 := Lib.hid (show ∀ j (hj : j < F.length), j < k + 1 → (fun x : Fld => decide (x.1 = no)) F[j] = false from fun j hj hjk => by
          by_cases e : j = k
          · subst e; exact hpk
          · exact he j hj (by omega))
        obtain ⟨n, s⟩ := x
        clear he hpk hpb hbw ex
        go_wp2_with fail
        refine HC.out.mono ?_
        rintro e w2 ⟨rfl, b2⟩
        have HB2 := Lib.hid (HB.out.trans (b2.mono HB.out.size))
        clear b2
        go_wp2_with fail
        go_roundw
        case rel => exact ⟨HB2.out, k + 1, by omega, by go_num, HE2.out⟩
        case measure => simp [intOf]; omega
    · obtain rfl : k = F.length := by omega
      have hlt' : ¬ (F.length : Int) < F.length := by omega
      have HI := Lib.hid (show ¬ F.findIdx (fun x => decide (x.1 = no)) < F.length from fun hlt2 => by
        have h1 := List.findIdx_getElem (w := hlt2)
        exact Bool.false_ne_true ((he _ hlt2 hlt2).symm.trans h1))
      have HB := Lib.hid hbw
      clear he hbw
      go_wp2_with fail
      go_ret
      exact ⟨by rw [← HR.out, if_neg HI.out]; rfl, HB.out⟩
/-- The closure that asks for a greater number. -/
theorem clos_past {w : World} {bn : Nat} {no : Int} (hb : w.cell? ⟨bn, 0, none⟩ = some (.int .i64 no)) (x : Fld) :
    Calls Tryz.prog 31 #[.agg #[.int .i64 x.1, .string x.2], .pointer (some ⟨bn, 0, none⟩)] w fun e w' => e = .returned (.bool (decide (no < x.1))) ∧ Below w.heap.size w w' := by
  obtain ⟨n, s⟩ := x
  have hb2 := ((Below.refl w.heap.size w).alloc (Nat.le_refl _) (.cells #[.int .i64 n, .string s] 28)).keptCell hb
  have HB := Lib.hid ((Below.refl w.heap.size w).alloc (Nat.le_refl _) (.cells #[.int .i64 n, .string s] 28))
  clear hb
  go_enter Tryz.func31, Tryz.ntmps31
  go_wp2_with fail
  go_ret
  exact ⟨by first | rfl | simp, HB.out⟩
theorem index_past {w : World} {bn : Nat} {no : Int} (hb : w.cell? ⟨bn, 0, none⟩ = some (.int .i64 no)) {v : Value} {F : Flds} (h : FsAt w v F) :
    Calls Tryz.prog 30 #[v, .func (.func 31) #[] #[.pointer (some ⟨bn, 0, none⟩)]] w fun e w' => e = .returned (.int .i64 (if F.findIdx (fun x => decide (no < x.1)) < F.length then (F.findIdx (fun x => decide (no < x.1)) : Nat) else -1)) ∧ Below w.heap.size w w' := by
  obtain ⟨p, c, rfl⟩ := h.shape
  have hl := h.1
  simp only [maxLen] at hl
  obtain ⟨R, eR⟩ : ∃ R : Int, (if F.findIdx (fun x => decide (no < x.1)) < F.length then ((F.findIdx (fun x => decide (no < x.1)) : Nat) : Int) else -1) = R := ⟨_, rfl⟩
  rw [eR]
  have HR := Lib.hid eR
  have H := Lib.hid h
  have HN := Lib.hid hb
  clear h hb eR
  go_enter Tryz.func30, Tryz.ntmps30
  go_wp2_with fail
  go_loopw [8] (fun i wr => Below w.heap.size w wr ∧ ∃ k : Nat, k ≤ F.length ∧ i = .int .i64 k ∧ ∀ j (hj : j < F.length), j < k → (fun x : Fld => decide (no < x.1)) F[j] = false) (fun i _ => F.length - (intOf i).toNat)
  case atStart => exact ⟨Below.refl _ _, 0, by omega, rfl, fun j hj h => by omega⟩
  case round =>
    obtain ⟨hbw, k, hk, rfl, he⟩ := hrel
    by_cases hlt : k < F.length
    · have hlt' : (k : Int) < F.length := by omega
      obtain ⟨b, o, rfl, q0, q1⟩ := (H.out.below hbw).get k hlt
      obtain ⟨x, ex⟩ : ∃ x, F[k] = x := ⟨_, rfl⟩
      rw [ex] at q0 q1
      obtain ⟨pb, hpb⟩ : ∃ pb, (decide (no < x.1)) = pb := ⟨_, rfl⟩
      have HC := Lib.hid (clos_past (hbw.keptCell HN.out) x)
      rw [hpb] at HC
      have hpk : (fun x : Fld => decide (no < x.1)) F[k] = pb := by rw [ex]; exact hpb
      have HB := Lib.hid hbw
      have HE := Lib.hid he
      have HLT := Lib.hid hlt
      cases pb with
      | true =>
        have HI := Lib.hid (show F.findIdx (fun x => decide (no < x.1)) = k from (List.findIdx_eq hlt).2 ⟨hpk, fun j hj => he j (by omega) hj⟩)
        obtain ⟨n, s⟩ := x
        clear he hpk hpb hbw ex
        go_wp2_with fail
        refine HC.out.mono ?_
        rintro e w2 ⟨rfl, b2⟩
        have HB2 := Lib.hid (HB.out.trans (b2.mono HB.out.size))
        clear b2
        go_wp2_with fail
        go_ret
        exact ⟨by rw [← HR.out, HI.out, if_pos HLT.out]; rfl, HB2.out⟩
      | false =>
        have HE2 := Lib.hid (show ∀ j (hj : j < F.length), j < k + 1 → (fun x : Fld => decide (no < x.1)) F[j] = false from fun j hj hjk => by
          by_cases e : j = k
          · subst e; exact hpk
          · exact he j hj (by omega))
        obtain ⟨n, s⟩ := x
        clear he hpk hpb hbw ex
        go_wp2_with fail
        refine HC.out.mono ?_
        rintro e w2 ⟨rfl, b2⟩
        have HB2 := Lib.hid (HB.out.trans (b2.mono HB.out.size))
        clear b2
        go_wp2_with fail
        go_roundw
        case rel => exact ⟨HB2.out, k + 1, by omega, by go_num, HE2.out⟩
        case measure => simp [intOf]; omega
    · obtain rfl : k = F.length := by omega
      have hlt' : ¬ (F.length : Int) < F.length := by omega
      have HI := Lib.hid (show ¬ F.findIdx (fun x => decide (no < x.1)) < F.length from fun hlt2 => by
        have h1 := List.findIdx_getElem (w := hlt2)
        exact Bool.false_ne_true ((he _ hlt2 hlt2).symm.trans h1))
      have HB := Lib.hid hbw
      clear he hbw
      go_wp2_with fail
      go_ret
      exact ⟨by rw [← HR.out, if_neg HI.out]; rfl, HB.out⟩
end Go.Proofs.YtommklkihjmgcaaGreatDoor.msgw
namespace Go.Proofs.YtommklkihjmgcaaGreatDoor.msgw
open Go.RowKit
open Go.Proofs.YtommklkihjmgcaaGreatDoor.msgp
open Go.Proofs.YtommklkihjmgcaaGreatDoor.buf
theorem take_put {α : Type} (L t : List α) (o m : Nat) (h : o + t.length ≤ m) : (L.take o ++ t ++ L.drop (o + t.length)).take m = (L.take m).take o ++ t ++ (L.take m).drop (o + t.length) ∨ L.length < o + t.length := by
  by_cases hL : o + t.length ≤ L.length
  · left
    apply List.ext_getElem?
    intro i
    rw [List.getElem?_take]
    have l1 : (L.take o).length = o := by rw [List.length_take]; omega
    have l2 : ((L.take m).take o).length = o := by rw [List.length_take, List.length_take]; omega
    by_cases h1 : i < o
    · rw [if_pos (by omega), List.append_assoc, List.append_assoc, List.getElem?_append_left (by omega), List.getElem?_append_left (by omega), List.getElem?_take, List.getElem?_take, List.getElem?_take, if_pos h1, if_pos h1, if_pos (by omega)]
    · by_cases h2 : i < o + t.length
      · have e1 : (L.take o ++ t ++ L.drop (o + t.length))[i]? = t[i - o]? := by
          rw [List.append_assoc, List.getElem?_append_right (by omega), l1, List.getElem?_append_left (by omega)]
        have e2 : ((L.take m).take o ++ t ++ (L.take m).drop (o + t.length))[i]? = t[i - o]? := by
          rw [List.append_assoc, List.getElem?_append_right (by omega), l2, List.getElem?_append_left (by omega)]
        rw [if_pos (by omega), e1, e2]
      · rw [List.getElem?_append_right (by rw [List.length_append]; omega), List.getElem?_append_right (by rw [List.length_append]; omega), List.length_append, List.length_append, l1, l2, List.getElem?_drop, List.getElem?_drop, List.getElem?_take]
        have e : o + t.length + (i - (o + t.length)) = i := by omega
        rw [e]
  · right
    omega
theorem fCells_set : ∀ (c : Flds) (i : Nat) (x : Fld), i < c.length → (c.set i x).flatMap fCells = (c.flatMap fCells).take (i * 2) ++ fCells x ++ (c.flatMap fCells).drop (i * 2 + 2)
  | [], i, x, h => by simp at h
  | y :: c, 0, x, _ => by simp [fCells]
  | y :: c, i + 1, x, h => by
    have := fCells_set c i x (by simpa using h)
    rw [List.set_cons_succ, List.flatMap_cons, this, List.flatMap_cons]
    have e1 : (i + 1) * 2 = (fCells y).length + i * 2 := by simp [fCells]; omega
    have e2 : (i + 1) * 2 + 2 = (fCells y).length + (i * 2 + 2) := by simp [fCells]; omega
    rw [e2, e1, List.take_length_add_append, List.drop_length_add_append]
    simp
theorem info45s : (Tryz.prog.info? 28).map (·.size) = some 2 := by kernel_rfl
/-- A field written over another one. -/
theorem put_field {w : World} {wk n cap : Nat} {c : Flds} (h : Buf w 28 2 (.slice (some ⟨wk, 0, none⟩) n cap) n (c.flatMap fCells)) (hc : c.length = n) (i : Nat) (hi : i < n) (x : Fld) :
    ∃ C, (storeVar 28 ⟨wk, i * 2, none⟩ (.agg #[.int .i64 x.1, .string x.2])).run Tryz.prog w = .ok () (w.setRow wk C) ∧ Buf (w.setRow wk C) 28 2 (.slice (some ⟨wk, 0, none⟩) n cap) n ((c.set i x).flatMap fCells) := by
  obtain ⟨h1, ⟨h2, _⟩ | ⟨g, cap', cur, hv, h3, h4, h5, h6, h7, h8⟩⟩ := h
  · omega
  · simp only [Value.slice.injEq, Option.some.injEq, Addr.mk.injEq, and_true, true_and] at hv
    obtain ⟨rfl, rfl⟩ := hv
    have hst := run_storeVar_mid' (P := Tryz.prog) (ty := 28) (g := wk) (o' := i * 2) (n := 2) (cs := #[.int .i64 x.1, .string x.2]) h3 info45s rfl (by omega) (by rw [Array.all_eq_true_iff_forall_mem]; intro u hu; simp at hu; rcases hu with rfl | rfl <;> rfl)
    refine ⟨_, hst, by rw [fCells_len, List.length_set, hc], .inr ⟨wk, cap, _, rfl, setRow_block h3, h4, h5, h6, ?_, ?_⟩⟩
    · simp
      omega
    · rw [fCells_set c i x (by omega), List.toList_toArray]
      rcases take_put cur.toList [Value.int .i64 x.1, .string x.2] (i * 2) (n * 2) (by simp; omega) with h | h
      · simp only [List.length_cons, List.length_nil] at h
        rw [h, h8]
        rfl
      · simp at h
        omega
theorem delM_none {F : Flds} {no : Int} (h : ∀ j (hj : j < F.length), decide (F[j].1 = no) = false) : delM F no = F := by
  refine List.filter_eq_self.2 fun x hx => ?_
  obtain ⟨j, hj, rfl⟩ := List.getElem_of_mem hx
  rw [h j hj]
  rfl
theorem zero45 (w : World) : (zeroValue 28).run Tryz.prog w = .ok (.agg #[.int .i64 0, .string ⟨#[]⟩]) w := (zero_of_info (P := Tryz.prog) (t := 28) (v := .agg #[.int .i64 0, .string ⟨#[]⟩]) (n := 2) (by kernel_rfl)).1 w
theorem zero45_one {n : Nat} : ∀ v ∈ (Builtin.zeroCells (Value.agg #[.int .i64 0, .string ⟨#[]⟩]).cells n).toList, v.oneCell' = true := by
  intro v hv
  have h1 : ∀ u ∈ #[Value.int .i64 0, .string ⟨#[]⟩].toList, u.oneCell' = true := by decide
  simp only [Builtin.zeroCells, Array.toList_map, List.mem_map] at hv
  obtain ⟨a, _, rfl⟩ := hv
  have h2 : a % (Value.agg #[.int .i64 0, .string ⟨#[]⟩]).cells.size < 2 := Nat.mod_lt _ (by decide)
  rw [getElem!_pos (Value.agg #[.int .i64 0, .string ⟨#[]⟩]).cells _ h2]
  exact h1 _ (by simp [Value.cells])
/-- A row cut short. -/
theorem cut_buf {w : World} {wk n cap : Nat} {c : Flds} {C : Array Value} (i : Nat) (hi : i ≤ n) (hc : c.length = n) (h3 : w.heap[wk]? = some (.cells C 28 (0, 0))) (h4 : n ≤ cap) (h5 : 0 < cap) (h6 : cap ≤ maxLen) (h7 : C.size = cap * 2) (h8 : C.toList.take (i * 2) = (c.flatMap fCells).take (i * 2)) :
    Buf w 28 2 (.slice (some ⟨wk, 0, none⟩) i cap) i ((c.take i).flatMap fCells) := by
  have hlen : (c.take i).length = i := by rw [List.length_take]; omega
  refine ⟨by rw [fCells_len, hlen], .inr ⟨wk, cap, C, rfl, h3, by omega, h5, h6, h7, ?_⟩⟩
  rw [h8]
  have e : c.flatMap fCells = (c.take i).flatMap fCells ++ (c.drop i).flatMap fCells := by rw [← List.flatMap_append, List.take_append_drop]
  rw [e, List.take_left' (by rw [fCells_len, hlen])]
set_option maxHeartbeats 4000000 in
set_option maxRecDepth 100000 in
theorem del_any {B : Nat} {w : World} {bn : Nat} {no : Int} (hb : w.cell? ⟨bn, 0, none⟩ = some (.int .i64 no)) {v : Value} {F : Flds} (h : FBuf B w v F) (hvb : ∀ k, bufBlock v = some k → k ≠ bn) (hF : F.length ≤ 2097152) :
    Calls Tryz.prog 27 #[v, .func (.func 29) #[] #[.pointer (some ⟨bn, 0, none⟩)]] w fun e w' => ∃ v', e = .returned v' ∧ FBuf B w' v' (delM F no) ∧ bufBlock v' = bufBlock v ∧ Turn (bufBlock v).toList w w' := by
  have hFm : F.length ≤ maxLen := by simp only [maxLen]; omega
  have HI := Lib.hid (index_is hb (h.fs hFm))
  have HN := Lib.hid hb
  have H := Lib.hid h
  obtain ⟨pw, cw, rfl, hn, hcw⟩ := h.buf.shape
  simp only [maxLen] at hcw
  clear h hb
  go_enter Tryz.func27, Tryz.ntmps27
  go_wp2_with fail
  refine HI.out.mono ?_
  rintro e w1 ⟨rfl, b1⟩
  have HB1 := Lib.hid b1
  clear b1 HI
  by_cases hlt : F.findIdx (fun x => decide (x.1 = no)) < F.length
  · have key : ∃ r, r < F.length ∧ F.findIdx (fun x => decide (x.1 = no)) = r ∧ (∀ j (hj : j < F.length), j < r → decide (F[j].1 = no) = false) ∧ ∀ h : r < F.length, decide (F[r].1 = no) = true :=
      ⟨_, hlt, rfl, fun j hj hjr => by
        have := List.not_of_lt_findIdx (p := fun x : Fld => decide (x.1 = no)) (xs := F) (i := j) hjr
        simpa using this, fun h => List.findIdx_getElem (w := h)⟩
    rw [if_pos hlt]
    obtain ⟨r, hrl, er, hno, hyes⟩ := key
    rw [er]
    have HNO := Lib.hid hno
    have HYES := Lib.hid (hyes hrl)
    have HLE := Lib.hid hrl
    clear hno hyes er hlt
    have hrn : ((r : Int) == -1) = false := by simp
    have hr63 : (r : Int) + 1 ≤ 9223372036854775807 := by omega
    go_wp2_with fail
    go_loopw [5, 6] (fun ii jj wr => ∃ (i j : Nat) (c : Flds), i < j ∧ j ≤ F.length ∧ ii = .int .i64 i ∧ jj = .int .i64 j ∧ c.length = F.length ∧ c.take i = delM (F.take j) no ∧ c.drop j = F.drop j ∧
        Buf wr 28 2 (.slice pw F.length cw) F.length (c.flatMap fCells) ∧ Turn (bufBlock (.slice pw F.length cw)).toList w wr) (fun _ jj _ => F.length - (intOf jj).toNat)
    case atStart =>
      refine ⟨r, r + 1, F, by omega, by omega, rfl, by go_num, rfl, ?_, rfl, (H.out.below HB1.out).buf, Turn.of_below HB1.out⟩
      rw [List.take_succ_eq_append_getElem hrl, delM, List.filter_append]
      have e1 : List.filter (fun x => !decide (x.1 = no)) (F.take r) = F.take r := delM_none (F := F.take r) fun j hj => by
        rw [List.getElem_take]
        exact HNO.out j (by have := List.length_take (i := r) (l := F); omega) (by have := List.length_take (i := r) (l := F); omega)
      rw [e1]
      have := HYES.out
      simp [this]
    case round =>
      obtain ⟨i, j, c, hij, hj, rfl, rfl, hcl, htk, hdr, hB, ht⟩ := hrel
      have HTK := Lib.hid htk
      have HDR := Lib.hid hdr
      have HCL := Lib.hid hcl
      have HB := Lib.hid hB
      have HT := Lib.hid ht
      by_cases hlt2 : j < F.length
      · have hlt2' : (j : Int) < F.length := by omega
        have hcj : j < c.length := by omega
        have hcx : c[j] = F[j] := by
          have h1 : c[j]? = F[j]? := by
            have := congrArg (fun q => q[0]?) hdr
            simpa using this
          rw [List.getElem?_eq_getElem hcj, List.getElem?_eq_getElem hlt2] at h1
          simpa using h1
        obtain ⟨_, ⟨h2, _⟩ | ⟨wk, cap', cur, hv, h3, h4, h5, h6, h7, h8⟩⟩ := hB
        · omega
        simp only [Value.slice.injEq, true_and] at hv
        obtain ⟨rfl, rfl⟩ := hv
        have hbk : bufBlock (.slice (some ⟨wk, 0, none⟩) F.length cw) = some wk := by simp [bufBlock]; omega
        have hwb : wk ≠ bn := hvb wk hbk
        obtain ⟨f0, f1⟩ := fCells_at c j hcj
        rw [hcx] at f0 f1
        have q0 : wr.cell? ⟨wk, j * 2, none⟩ = some (.int .i64 F[j].1) := by rw [cells_at h3, take_get h8 (by omega)]; exact f0
        have q1 : wr.cell? ⟨wk, j * 2 + 1, none⟩ = some (.string F[j].2) := by rw [cells_at h3, take_get h8 (by omega)]; exact f1
        obtain ⟨x, ex⟩ : ∃ x, x = F[j] := ⟨_, rfl⟩
        rw [← ex] at q0 q1
        have hnb : wr.cell? ⟨bn, 0, none⟩ = some (.int .i64 no) := (World.cell?_of_block (a := ⟨bn, 0, none⟩) (ht.block bn (World.block_lt_of_cell? w _ HN.out) (by rw [hbk]; simp; exact fun e => hwb e.symm))).trans HN.out
        obtain ⟨wa, ea⟩ : ∃ W, wr.alloc (.cells #[.int .i64 x.1, .string x.2] 28) = W := ⟨_, rfl⟩
        have ba : Below wr.heap.size wr wa := by rw [← ea]; exact (Below.refl _ _).alloc (Nat.le_refl _) _
        have hla : wa.heap[wr.heap.size]? = some (.cells #[.int .i64 x.1, .string x.2] 28 (0, 0)) := by rw [← ea]; exact heap_alloc_last _ _
        have HC := Lib.hid (clos_is (ba.keptCell hnb) x)
        have HX := Lib.hid ex
        have HTS := Lib.hid (List.take_succ_eq_append_getElem hlt2)
        have HBA := Lib.hid ba
        have HLA := Lib.hid hla
        have HEA := Lib.hid ea
        have HBK := Lib.hid hbk
        obtain ⟨pb, hpb⟩ : ∃ pb, decide (x.1 = no) = pb := ⟨_, rfl⟩
        rw [hpb] at HC
        have HPB := Lib.hid hpb
        obtain ⟨n0, s0⟩ := x
        clear htk hdr hcl ht f0 f1 hcx h3 h4 h5 h6 h7 h8 hbk hnb ba hla ex hpb hcj ea
        go_wp2_with fail
        rw [HEA.out]
        refine HC.out.mono ?_
        rintro e w3 ⟨rfl, b3⟩
        have HB3 := Lib.hid (HBA.out.trans (b3.mono HBA.out.size))
        have hl3 := (b3.block wr.heap.size (Array.getElem?_eq_some_iff.1 HLA.out).1).trans HLA.out
        have z0 : w3.cell? ⟨wr.heap.size, 0, none⟩ = some (.int .i64 n0) := cells_at hl3 0
        have z1 : w3.cell? ⟨wr.heap.size, 1, none⟩ = some (.string s0) := cells_at hl3 1
        have HBF := Lib.hid (HB.out.kept fun k hk => HB3.out.block k (HB.out.lt k hk))
        have HT3 := Lib.hid (HT.out.trans (Turn.of_below HB3.out))
        clear b3 HC HEA hl3 q0 q1 HB HT
        cases pb with
        | true =>
          go_wp2_with fail
          go_roundw
          case rel =>
            refine ⟨i, j + 1, c, by omega, by omega, rfl, by go_num, HCL.out, ?_, ?_, HBF.out, HT3.out⟩
            · rw [HTK.out, HTS.out, delM, delM, List.filter_append, ← HX.out]
              have := HPB.out
              simp [this]
            · have := congrArg (List.drop 1) HDR.out
              simpa using this
          case measure => simp [intOf]; omega
        | false =>
          obtain ⟨C, hst, hB4⟩ := put_field HBF.out HCL.out i (by omega) (n0, s0)
          have HB4 := Lib.hid hB4
          have HST := Lib.hid hst
          have hil : (i : Int) < (F.length : Int) := by omega
          clear hB4 hst HBF
          go_wp2_with (with_reducible refine wpList_store_at rfl 28 (.tmp 33) (.tmp 32) rfl _ rfl _ rfl HST.out ?_)
          go_roundw
          case rel =>
            refine ⟨i + 1, j + 1, c.set i (n0, s0), by omega, by omega, by go_num, by go_num, by rw [List.length_set]; exact HCL.out, ?_, ?_, HB4.out, HT3.out.setRow (.inl (by rw [HBK.out]; simp)) _⟩
            · have hlen : (delM (F.take j) no).length = i := by
                rw [← HTK.out, List.length_take, HCL.out]
                omega
              rw [HTS.out, delM, List.filter_append, List.take_set, List.take_succ_eq_append_getElem (by rw [HCL.out]; omega), HTK.out]
              rw [List.set_append_right _ _ (by rw [hlen]; exact Nat.le_refl _), hlen, ← HX.out]
              have := HPB.out
              simp [this, delM]
            · rw [List.drop_set, if_pos (by omega)]
              have := congrArg (List.drop 1) HDR.out
              simpa using this
          case measure => simp [intOf]; omega
      · obtain rfl : j = F.length := by omega
        have hlt2' : ¬ (F.length : Int) < F.length := by omega
        obtain ⟨_, ⟨h2, _⟩ | ⟨wk, cap', cur, hv, h3, h4, h5, h6, h7, h8⟩⟩ := hB
        · omega
        simp only [Value.slice.injEq, true_and] at hv
        obtain ⟨rfl, rfl⟩ := hv
        have hz := zero45 wr
        have HG := Lib.hid h3
        have HCS := Lib.hid h7
        have HCT := Lib.hid h8
        have hbk : Hid (bufBlock (.slice (some ⟨wk, 0, none⟩) F.length cw) = some wk) := Lib.hid (by simp [bufBlock]; omega)
        have hfit : i * 2 + (F.length - i) * 2 ≤ cur.size := by rw [h7]; omega
        have h456 := Lib.hid (And.intro h4 (And.intro h5 h6))
        clear h3 h4 h5 h6 h7 h8 htk hdr hcl ht
        go_wp2_with (refine wpList_run rfl _ (exec_clear (.tmp 38) 22 28 rfl (g := wk) (o' := i * 2) (n := F.length - i) (c := cw - i) rfl (by omega) Tryz.underlying22 (.agg #[.int .i64 0, .string ⟨#[]⟩]) 2 hz rfl zero45_one HG.out hfit) ?_)
        go_ret
        have hk : c.take i = delM F no := by have := HTK.out; rwa [List.take_length] at this
        have hki : (delM F no).length = i := by
          rw [← hk, List.length_take, HCL.out]
          omega
        refine ⟨.slice (some ⟨wk, 0, none⟩) i cw, rfl, ⟨?_, fun g hg => ?_⟩, by rw [hbk.out]; simp [bufBlock]; have := h456.out.2.1; omega, HT.out.setRow (.inl (by simp [hbk.out])) _⟩
        · rw [hki, ← hk]
          refine cut_buf i (by omega) HCL.out (setRow_block HG.out) h456.out.1 h456.out.2.1 h456.out.2.2 ?_ ?_
          · have := HCS.out
            simp [Builtin.zeroCells]
            omega
          · rw [List.toList_toArray, List.take_left' (by rw [List.length_take, Array.length_toList]; omega), ← HCT.out, List.take_take]
            congr 1
            omega
        · have : g = wk := by
            unfold bufBlock at hg
            simp only at hg
            split at hg
            · cases hg
            · injection hg with hg; exact hg.symm
          subst this
          exact H.out.new g hbk.out
  · rw [if_neg hlt]
    have hk : delM F no = F := delM_none fun j hj => by
      have := List.not_of_lt_findIdx (p := fun x : Fld => decide (x.1 = no)) (xs := F) (i := j) (by omega)
      simpa using this
    have HK := Lib.hid hk
    clear hk hlt
    go_wp2_with fail
    go_ret
    exact ⟨_, rfl, by rw [HK.out]; exact H.out.below HB1.out, rfl, Turn.of_below HB1.out⟩
end Go.Proofs.YtommklkihjmgcaaGreatDoor.msgw
namespace Go.Proofs.YtommklkihjmgcaaGreatDoor.msgw
open Go.RowKit
open Go.Proofs.YtommklkihjmgcaaGreatDoor.msgp
open Go.Proofs.YtommklkihjmgcaaGreatDoor.buf
/-- A copy over the middle of a row, elements of k cells. -/
theorem run_copy_rowk {P : Program} (w : World) (dT sT ty elem : TypeId) (k g o dLen dCap : Nat) (a : Addr) (sLen sCap : Nat) (cur : Array Value) (t : TypeId) (cs : List Value)
    (hu : P.underlying dT = some (.slice elem)) (hs : (P.info? elem).map (·.size) = some k)
    (hg : w.heap[g]? = some (.cells cur t (0, 0))) (m : Nat) (hm : m = Nat.min sLen dLen) (hn : cs.length = m * k)
    (hsrc : ∀ j v, cs[j]? = some v → w.cell? (a.add j) = some v) (hfit : o + cs.length ≤ cur.size) (h1 : ∀ v ∈ cs, v.oneCell' = true) :
    (Builtin.copy_ #[dT, sT] ty #[.slice (some ⟨g, o, none⟩) dLen dCap, .slice (some a) sLen sCap]).run P w =
      .ok (goInt m) (w.setRow g (cur.toList.take o ++ cs ++ cur.toList.drop (o + cs.length)).toArray) := by
  have hl := run_loadCells_list (P := P) w a cs hsrc
  have hst := run_storeCells_at P g o t cs 0 cur w hg (by simpa using hfit) h1
  cases hq : P.info? elem with
  | none => simp [hq] at hs
  | some i =>
    have hi : i.size = k := by simpa [hq] using hs
    simp [Builtin.copy_, run_underlying hu, Builtin.lenOf, Builtin.firstCells, sizeOf, typeInfo, hq, hi, ← hm, ← hn, hl, hst]
theorem exec_copy_by {P : Program} {w w' : World} {o : Oper} {a : Act} (s x : Operand) (t : TypeId) (ho : o.op = .call { callee := .builtin .copy, args := #[s, x], argTypes := #[t, t] }) (V X r : Value) (hs : a.eval s = V) (hx : a.eval x = X) (hr : (Builtin.copy_ #[t, t] o.type #[V, X]).run P w = .ok r w') : (execOp a.eval o).run P w = .ok (.value r) w' := by
  unfold execOp
  simp only [ho, resolve, invoke, builtin, Sem.run_bind, Sem.run_pure, Result.andThen_ok, List.map_toArray, List.map_cons, List.map_nil, hs, hx, hr]
theorem exec_append_by {P : Program} {w w' : World} {o : Oper} {a : Act} (s x : Operand) (t t2 : TypeId) (ho : o.op = .call { callee := .builtin .append, args := #[s, x], argTypes := #[t, t2] }) (V X r : Value) (hs : a.eval s = V) (hx : a.eval x = X) (hr : (Builtin.append_ #[t, t2] o.type #[V, X]).run P w = .ok r w') : (execOp a.eval o).run P w = .ok (.value r) w' := by
  unfold execOp
  simp only [ho, resolve, invoke, builtin, Sem.run_bind, Sem.run_pure, Result.andThen_ok, List.map_toArray, List.map_cons, List.map_nil, hs, hx, hr]
theorem fCells_append (F G : Flds) : (F ++ G).flatMap fCells = F.flatMap fCells ++ G.flatMap fCells := List.flatMap_append
theorem fCells_take (F : Flds) (i : Nat) (hi : i ≤ F.length) : (F.take i).flatMap fCells = (F.flatMap fCells).take (i * 2) := by
  have hlen : (F.take i).length = i := by rw [List.length_take]; omega
  have e : F.flatMap fCells = (F.take i).flatMap fCells ++ (F.drop i).flatMap fCells := by rw [← List.flatMap_append, List.take_append_drop]
  rw [e, List.take_left' (by rw [fCells_len, hlen])]
theorem fCells_drop (F : Flds) (i : Nat) (hi : i ≤ F.length) : (F.drop i).flatMap fCells = (F.flatMap fCells).drop (i * 2) := by
  have hlen : (F.take i).length = i := by rw [List.length_take]; omega
  have e : F.flatMap fCells = (F.take i).flatMap fCells ++ (F.drop i).flatMap fCells := by rw [← List.flatMap_append, List.take_append_drop]
  rw [e, List.drop_left' (by rw [fCells_len, hlen])]
theorem add_at (b o j : Nat) : (⟨b, o, none⟩ : Addr).add j = ⟨b, o + j, none⟩ := by unfold Addr.add; split <;> simp_all
/-- A field in a block of its own, as it is handed to Insert. -/
def OneAt (w : World) (vb : Nat) (x : Fld) : Prop := w.heap[vb]? = some (.cells #[.int .i64 x.1, .string x.2] 28 (0, 0))
def InsAt (B : Nat) (F : Flds) (i : Nat) (x : Fld) (v : Value) (w : World) (e : Ending) (w' : World) : Prop :=
  ∃ v', e = .returned v' ∧ FBuf B w' v' (F.take i ++ x :: F.drop i) ∧ Turn (bufBlock v).toList w w'
theorem one_news {w : World} {vb : Nat} {x : Fld} (h : OneAt w vb x) : ∀ (j : Nat) u, [Value.int .i64 x.1, .string x.2][j]? = some u → w.cell? ((⟨vb, 0, none⟩ : Addr).add j) = some u := fun j u hu => by
  rw [add_at, Nat.zero_add, cells_at h]
  simpa using hu
theorem one_one (x : Fld) : ∀ u ∈ [Value.int .i64 x.1, .string x.2], u.oneCell' = true := by
  intro u hu
  simp at hu
  rcases hu with rfl | rfl <;> rfl
theorem buf_block {g n c k : Nat} (h : bufBlock (.slice (some ⟨g, 0, none⟩) n c) = some k) : k = g := by
  unfold bufBlock at h
  simp only at h
  split at h
  · cases h
  · injection h with h; exact h.symm
set_option maxHeartbeats 4000000 in
set_option maxRecDepth 100000 in
theorem insert_end {B : Nat} {w : World} {v : Value} {F : Flds} {x : Fld} {vb : Nat} (h : FBuf B w v F) (hB : B ≤ w.heap.size) (hv : OneAt w vb x) (hF : F.length ≤ 2097152) :
    Calls Tryz.prog 32 #[v, .int .i64 F.length, .slice (some ⟨vb, 0, none⟩) 1 1] w (InsAt B F F.length x v w) := by
  have hnews := one_news hv
  have hone := one_one x
  have h63 : F.length + 1 ≤ maxLen := by simp only [maxLen]; omega
  have hby : (F.length + 1) * 24 ≤ 140737488355328 := by omega
  have hbW := h.buf
  have hfin : ∀ gg cap w4, Buf w4 28 2 (.slice (some ⟨gg, 0, none⟩) (F.length + 1) cap) (F.length + 1) (F.flatMap fCells ++ [.int .i64 x.1, .string x.2]) → w.grownBy w4 (bufBlock v) → (bufBlock v = some gg ∨ gg = w.heap.size) →
      FBuf B w4 (.slice (some ⟨gg, 0, none⟩) (F.length + 1) cap) (F.take F.length ++ x :: F.drop F.length) ∧ Turn (bufBlock v).toList w w4 := fun gg cap w4 hB4 hg hat => by
    refine ⟨⟨?_, fun g hgg => ?_⟩, (Turn.refl _ _).grown hg (fun k hk => .inl (by simp [hk]))⟩
    · rw [List.take_length, List.drop_length, fCells_append, List.length_append]
      exact hB4
    · have := buf_block hgg
      subst this
      rcases hat with h2 | h2
      · exact h.new g h2
      · omega
  have HFIN := Lib.hid hfin
  unfold InsAt
  obtain ⟨O, eO⟩ : ∃ O, (bufBlock v).toList = O := ⟨_, rfl⟩
  obtain ⟨V, eV⟩ : ∃ V, bufBlock v = V := ⟨_, rfl⟩
  obtain ⟨G, eG⟩ : ∃ G, F.take F.length ++ x :: F.drop F.length = G := ⟨_, rfl⟩
  rw [eV, eG] at HFIN
  rw [eO, eG]
  have HV := Lib.hid eV
  have HO := Lib.hid (show V.toList = O by rw [← eV]; exact eO)
  obtain ⟨pw, cw, rfl, hn, hcw⟩ := h.buf.shape
  simp only [maxLen] at hcw
  clear h hv hfin eO eV eG
  go_enter Tryz.func32, Tryz.ntmps32
  go_wp2_with (refine wpList_append_buf rfl (.tmp 23) (.tmp 24) 22 rfl 28 _ 2 24 Tryz.underlying22 info45f rfl (by omega) (.slice pw F.length cw) F.length _ rfl hbW ⟨vb, 0, none⟩ 1 1 rfl [.int .i64 x.1, .string x.2] rfl hnews hone (by omega) h63 hby ?_; intro gg cap w4 hB4 hg hc1 _ hat _; obtain ⟨k0, k1⟩ := HFIN.out gg cap w4 hB4 (by rw [← HV.out]; exact hg) (by rw [← HV.out]; exact hat); have K := Lib.hid (And.intro k0 k1); clear hB4 hg hat k0 k1 hbW)
  all_goals go_ret
  all_goals exact ⟨_, rfl, K.out.1, by rw [← HO.out]; exact K.out.2⟩
set_option maxHeartbeats 4000000 in
set_option maxRecDepth 100000 in
theorem insert_grow {B : Nat} {w : World} {wk n cw i : Nat} {F : Flds} {x : Fld} {vb : Nat} (h : FBuf B w (.slice (some ⟨wk, 0, none⟩) n cw) F) (hFn : F.length = n) (hB : B ≤ w.heap.size) (hv : OneAt w vb x) (hF : n ≤ 2097152) (hi : i < n) (hc : cw < n + 1) :
    Calls Tryz.prog 32 #[.slice (some ⟨wk, 0, none⟩) n cw, .int .i64 i, .slice (some ⟨vb, 0, none⟩) 1 1] w (InsAt B F i x (.slice (some ⟨wk, 0, none⟩) n cw) w) := by
  obtain ⟨ie, hie, hz, hsz, hby⟩ := info_parts info45f
  obtain ⟨_, ⟨h2, _⟩ | ⟨g', cap', cur, hvv, h3, h4, h5, h6, h7, h8⟩⟩ := h.buf
  · omega
  simp only [Value.slice.injEq, Option.some.injEq, Addr.mk.injEq, and_true] at hvv
  obtain ⟨rfl, hnF, rfl⟩ := hvv
  clear hnF
  rw [hFn] at h4 h8
  have hxl : (F.flatMap fCells).length = n * 2 := by rw [fCells_len, hFn]
  have hold : (Builtin.firstCells ie.size i (.slice (some ⟨wk, 0, none⟩) i cw)).run Tryz.prog w.drew = .ok ((F.flatMap fCells).take (i * 2)).toArray w.drew := by
    rw [hsz]
    exact run_firstCells_some w.drew 2 i ⟨wk, 0, none⟩ i cw ((F.flatMap fCells).take (i * 2)) (by rw [List.length_take]; omega) (fun j v hj => by
      rw [add_at, Nat.zero_add]
      rw [List.getElem?_take] at hj
      split at hj
      · exact (cells_at (w := w.drew) h3 j).trans ((take_get h8 (by omega)).trans hj)
      · cases hj)
  obtain ⟨N, eN⟩ : ∃ N, w.heap.size = N := ⟨_, rfl⟩
  obtain ⟨G, eG⟩ : ∃ G, grownCap w (n + 1) cw 28 = G := ⟨_, rfl⟩
  obtain ⟨ROW, eR⟩ : ∃ ROW : Array Value, ((F.flatMap fCells).take (i * 2)).toArray ++ Builtin.zeroCells (Value.agg #[.int .i64 0, .string ⟨#[]⟩]).cells (n + 1 - i) ++ Builtin.zeroCells (Value.agg #[.int .i64 0, .string ⟨#[]⟩]).cells (G - (n + 1)) = ROW := ⟨_, rfl⟩
  have hrz : ∀ ty, (Builtin.append_ #[22, 3] ty #[.slice (some ⟨wk, 0, none⟩) i cw, .int .i64 ((n : Int) + 1 - i)]).run Tryz.prog w = .ok (.slice (some ⟨N, 0, none⟩) (n + 1) G) (w.drew.alloc (.cells ROW 28)) := fun ty => by
    have h := Lib.run_append_grow_zeros w 22 3 ty 28 ie _ .i64 .i64 Tryz.underlying22 Tryz.underlying3 hie hz (some ⟨wk, 0, none⟩) i cw ((F.flatMap fCells).take (i * 2)) hold (n + 1 - i) (by omega) (by omega) (by omega) (by omega) (by rw [hby]; omega) (by rw [hby, show i + (n + 1 - i) = n + 1 by omega]; exact growslice_fits hc (by omega))
    rw [show i + (n + 1 - i) = n + 1 by omega, eG, eR, eN] at h
    rw [show ((n : Int) + 1 - i) = ((n + 1 - i : Nat) : Int) by omega]
    exact h
  have hGn : n + 1 ≤ G := by rw [← eG]; exact grownCap_ge w _ _ _
  have hG63 : G ≤ maxLen := by rw [← eG]; exact grownCap_le_maxLen w (n + 1) cw _ (by simp only [maxLen]; omega)
  have hRs : ROW.size = G * 2 := by
    rw [← eR]
    rw [Array.size_append, Array.size_append, size_zeroCells, size_zeroCells, List.size_toArray, List.length_take, hxl]
    have e2 : (Value.agg #[.int .i64 0, .string ⟨#[]⟩]).cells.size = 2 := rfl
    rw [e2]
    omega
  have hRt : ROW.toList.take (i * 2) = (F.flatMap fCells).take (i * 2) := by
    rw [← eR, Array.toList_append, Array.toList_append, List.append_assoc, List.toList_toArray, List.take_left' (by rw [List.length_take]; omega)]
  obtain ⟨W1, eW⟩ : ∃ W, w.drew.alloc (.cells ROW 28) = W := ⟨_, rfl⟩
  rw [eW] at hrz
  have b1 : Below w.heap.size w W1 := by rw [← eW]; exact (show Below w.heap.size w w.drew from ⟨rfl, rfl, rfl, Nat.le_refl _, fun _ _ => rfl⟩).alloc (Nat.le_refl _) _
  have k1 : W1.heap[N]? = some (.cells ROW 28 (0, 0)) := by rw [← eW, ← eN]; exact heap_alloc_last w.drew _
  have e28 : ([Value.int .i64 x.1, .string x.2] : List Value).length = 2 := rfl
  obtain ⟨R1, eR1⟩ : ∃ R : Array Value, (ROW.toList.take (i * 2) ++ [Value.int .i64 x.1, Value.string x.2] ++ ROW.toList.drop (i * 2 + 2)).toArray = R := ⟨_, rfl⟩
  have hR1s : R1.size = G * 2 := by
    rw [← eR1]
    simp
    omega
  have hR1t : R1.toList.take (i * 2 + 2) = (F.flatMap fCells).take (i * 2) ++ [Value.int .i64 x.1, Value.string x.2] := by
    rw [← eR1, List.toList_toArray, List.take_left' (by rw [List.length_append, List.length_take, Array.length_toList, e28]; omega), hRt]
  have hNw : w.heap.size ≤ N := by omega
  have hwN : wk ≠ N := by have := (Array.getElem?_eq_some_iff.1 h3).1; omega
  have hvN : vb < w.heap.size := (Array.getElem?_eq_some_iff.1 hv).1
  have hc1 : ∀ ty, (Builtin.copy_ #[22, 22] ty #[.slice (some ⟨N, i * 2, none⟩) (n + 1 - i) (G - i), .slice (some ⟨vb, 0, none⟩) 1 1]).run Tryz.prog W1 = .ok (goInt 1) (W1.setRow N R1) := fun ty => by
    have := run_copy_rowk (P := Tryz.prog) W1 22 22 ty 28 2 N (i * 2) (n + 1 - i) (G - i) ⟨vb, 0, none⟩ 1 1 ROW 28 [.int .i64 x.1, .string x.2] Tryz.underlying22 info45s k1 1 (by simp only [Nat.min_def]; split <;> omega) rfl
      (one_news (show OneAt W1 vb x from (b1.block vb hvN).trans hv)) (by rw [e28]; omega) (one_one x)
    rw [this, ← eR1]
    rfl
  obtain ⟨W2, eW2⟩ : ∃ W, W1.setRow N R1 = W := ⟨_, rfl⟩
  rw [eW2] at hc1
  have k2 : W2.heap[N]? = some (.cells R1 28 (0, 0)) := by rw [← eW2]; exact setRow_block k1
  have k3 : W2.heap[wk]? = some (.cells cur 28 (0, 0)) := by rw [← eW2, setRow_other _ _ wk _ hwN]; exact (b1.block wk (Array.getElem?_eq_some_iff.1 h3).1).trans h3
  obtain ⟨R2, eR2⟩ : ∃ R : Array Value, (R1.toList.take ((i + 1) * 2) ++ (F.flatMap fCells).drop (i * 2) ++ R1.toList.drop ((i + 1) * 2 + (n - i) * 2)).toArray = R := ⟨_, rfl⟩
  have hdl : ((F.flatMap fCells).drop (i * 2)).length = (n - i) * 2 := by rw [List.length_drop, hxl]; omega
  have hc2 : ∀ ty, (Builtin.copy_ #[22, 22] ty #[.slice (some ⟨N, (i + 1) * 2, none⟩) (n - i) (G - (i + 1)), .slice (some ⟨wk, i * 2, none⟩) (n - i) (cw - i)]).run Tryz.prog W2.drew = .ok (goInt (n - i : Nat)) (W2.drew.setRow N R2) := fun ty => by
    have := run_copy_rowk (P := Tryz.prog) W2.drew 22 22 ty 28 2 N ((i + 1) * 2) (n - i) (G - (i + 1)) ⟨wk, i * 2, none⟩ (n - i) (cw - i) R1 28 ((F.flatMap fCells).drop (i * 2)) Tryz.underlying22 info45s k2 (n - i) (by simp only [Nat.min_def]; split <;> omega) hdl
      (fun j u hu => by
        rw [add_at]
        rw [List.getElem?_drop] at hu
        have hj : i * 2 + j < n * 2 := by rw [← hxl]; exact (List.getElem?_eq_some_iff.1 hu).1
        exact (cells_at (w := W2.drew) k3 (i * 2 + j)).trans ((take_get h8 hj).trans hu)) (by rw [hdl]; omega) (fun u hu => fCells_one F u (List.mem_of_mem_drop hu))
    rw [this, hdl, ← eR2]
  have hR2s : R2.size = G * 2 := by
    rw [← eR2]
    simp only [List.size_toArray, List.length_append, List.length_take, List.length_drop, Array.length_toList, hxl]
    omega
  have hR2t : R2.toList.take ((n + 1) * 2) = (F.take i ++ x :: F.drop i).flatMap fCells := by
    rw [← eR2, List.toList_toArray, List.take_left' (by rw [List.length_append, List.length_take, Array.length_toList, hdl]; omega), show (i + 1) * 2 = i * 2 + 2 by omega, hR1t, fCells_append, List.flatMap_cons, fCells_take F i (by omega), fCells_drop F i (by omega), List.append_assoc]
    rfl
  have HC1 := Lib.hid hc1
  have HC2 := Lib.hid hc2
  have HFIN := Lib.hid (show FBuf B (W2.drew.setRow N R2) (.slice (some ⟨N, 0, none⟩) (n + 1) G) (F.take i ++ x :: F.drop i) ∧ Turn (bufBlock (.slice (some ⟨wk, 0, none⟩) n cw)).toList w (W2.drew.setRow N R2) from by
    have hlen : (F.take i ++ x :: F.drop i).length = n + 1 := by rw [List.length_append, List.length_take, List.length_cons, List.length_drop, hFn]; omega
    refine ⟨⟨⟨by rw [fCells_len], .inr ⟨N, G, R2, by rw [hlen], setRow_block (w := W2.drew) k2, by omega, by omega, hG63, hR2s, by rw [hlen]; exact hR2t⟩⟩, fun g hg => by have := buf_block hg; omega⟩, ?_⟩
    rw [← eW2]
    exact (((Turn.of_below b1).setRow (.inr hNw) R1).drew).setRow (.inr hNw) R2)
  have HRZ := Lib.hid hrz
  have hz2 : ¬ ((i : Int) = (n : Int)) := by omega
  have hz3 : (cw : Int) < (n : Int) + 1 := by omega
  have hGi : ¬ (G = i) := by omega
  have hGim : ¬ (G = i + 1) := by omega
  have hci : ¬ (cw = i) := by omega
  have hi' : (i : Int) ≤ n := by omega
  have HH := Lib.hid h
  have HK := Lib.hid k1
  have HB := Lib.hid b1
  have HFN := Lib.hid hFn
  have HXL := Lib.hid hxl
  have HV := Lib.hid hv
  have HRT := Lib.hid hRt
  have HC3 := Lib.hid h3
  have HC8 := Lib.hid h8
  simp only [maxLen] at h6 hG63
  unfold InsAt
  obtain ⟨O, eO⟩ : ∃ O, (bufBlock (.slice (some ⟨wk, 0, none⟩) n cw)).toList = O := ⟨_, rfl⟩
  obtain ⟨L, eL⟩ : ∃ L, F.take i ++ x :: F.drop i = L := ⟨_, rfl⟩
  rw [eO, eL] at HFIN
  rw [eO, eL]
  clear hFn hxl hv hrz k1 b1 eW eR eG hold hie hz hsz hby h h3 h8 hRt eO eL hc1 hc2 k2 k3 eR1 eR2 hR1s hR1t hR2s hR2t hdl e28 hRs eW2 hNw hwN hvN
  go_enter Tryz.func32, Tryz.ntmps32
  go_wp2_with (first | refine wpList_run rfl _ (exec_append_by (.tmp 34) (.tmp 39) 22 3 rfl (.slice (some ⟨wk, 0, none⟩) i cw) (.int .i64 ((n : Int) + 1 - i)) (.slice (some ⟨N, 0, none⟩) (n + 1) G) rfl rfl (HRZ.out _)) ?_ | refine wpList_run rfl _ (exec_copy_by (.tmp 43) (.tmp 44) 22 rfl (.slice (some ⟨N, i * 2, none⟩) (n + 1 - i) (G - i)) (.slice (some ⟨vb, 0, none⟩) 1 1) (goInt 1) rfl rfl (HC1.out _)) ?_)
  have hw1 : IntKind.i64.wrap ((i : Int) + 1) = (i : Int) + 1 := by rw [IntKind.wrap_i64]; omega
  have hb1 : (0 : Int) ≤ (i : Int) + 1 := by omega
  have hb2 : (i : Int) + 1 ≤ (n : Int) + 1 := by omega
  have htn : ((i : Int) + 1).toNat = i + 1 := by omega
  refine wp_region_tail 8 rfl (by kernel_rfl) ?_
  simp only [List.take_succ_cons, List.take_zero, List.drop_succ_cons, List.drop_zero]
  iterate 8 still_step
  refine wpStill_nil ?_
  refine wpList_run rfl _ (exec_copy_by (.tmp 50) (.tmp 53) 22 rfl (.slice (some ⟨N, (i + 1) * 2, none⟩) (n - i) (G - (i + 1))) (.slice (some ⟨wk, i * 2, none⟩) (n - i) (cw - i)) (goInt (n - i : Nat)) rfl rfl (HC2.out _)) ?_
  go_wp2_with fail
  go_ret
  exact ⟨_, rfl, HFIN.out⟩
end Go.Proofs.YtommklkihjmgcaaGreatDoor.msgw
namespace Go.Proofs.YtommklkihjmgcaaGreatDoor.msgw
open Go.RowKit
open Go.Proofs.YtommklkihjmgcaaGreatDoor.msgp
open Go.Proofs.YtommklkihjmgcaaGreatDoor.buf
set_option maxHeartbeats 4000000 in
set_option maxRecDepth 100000 in
theorem insert_shift {B : Nat} {w : World} {wk n cw i : Nat} {F : Flds} {x : Fld} {vb : Nat} (h : FBuf B w (.slice (some ⟨wk, 0, none⟩) n cw) F) (hFn : F.length = n) (hv : OneAt w vb x) (hvb : vb ≠ wk) (hF : n ≤ 2097152) (hi : i < n) (hc : n + 1 ≤ cw) :
    Calls Tryz.prog 32 #[.slice (some ⟨wk, 0, none⟩) n cw, .int .i64 i, .slice (some ⟨vb, 0, none⟩) 1 1] w (InsAt B F i x (.slice (some ⟨wk, 0, none⟩) n cw) w) := by
  obtain ⟨_, ⟨h2, _⟩ | ⟨g', cap', cur, hvv, h3, h4, h5, h6, h7, h8⟩⟩ := h.buf
  · omega
  simp only [Value.slice.injEq, Option.some.injEq, Addr.mk.injEq, and_true] at hvv
  obtain ⟨rfl, hnF, rfl⟩ := hvv
  clear hnF
  rw [hFn] at h4 h8
  have hxl : (F.flatMap fCells).length = n * 2 := by rw [fCells_len, hFn]
  have hcl : cur.toList.length = cw * 2 := by rw [Array.length_toList, h7]
  have e28 : ([Value.int .i64 x.1, .string x.2] : List Value).length = 2 := rfl
  have hdl : ((F.flatMap fCells).drop (i * 2)).length = (n - i) * 2 := by rw [List.length_drop, hxl]; omega
  have hct : cur.toList.take (i * 2) = (F.flatMap fCells).take (i * 2) := by
    rw [← h8, List.take_take]
    congr 1
    omega
  obtain ⟨R1, eR1⟩ : ∃ R : Array Value, (cur.toList.take ((i + 1) * 2) ++ (F.flatMap fCells).drop (i * 2) ++ cur.toList.drop ((i + 1) * 2 + (n - i) * 2)).toArray = R := ⟨_, rfl⟩
  have hR1s : R1.size = cw * 2 := by
    rw [← eR1]
    simp only [List.size_toArray, List.length_append, List.length_take, List.length_drop, hcl, hxl]
    omega
  have hR1t : R1.toList.take (i * 2) = (F.flatMap fCells).take (i * 2) := by
    rw [← eR1, List.toList_toArray, List.append_assoc, List.take_append_of_le_length (by rw [List.length_take, hcl]; omega), List.take_take, ← hct]
    congr 1
    omega
  have hR1d : R1.toList.drop (i * 2 + 2) = (F.flatMap fCells).drop (i * 2) ++ cur.toList.drop ((i + 1) * 2 + (n - i) * 2) := by
    rw [← eR1, List.toList_toArray, List.append_assoc, List.drop_left' (by rw [List.length_take, hcl]; omega)]
  obtain ⟨W1, eW1⟩ : ∃ W, w.drew.setRow wk R1 = W := ⟨_, rfl⟩
  have k0 : w.drew.heap[wk]? = some (.cells cur 28 (0, 0)) := h3
  have k1 : W1.heap[wk]? = some (.cells R1 28 (0, 0)) := by rw [← eW1]; exact setRow_block k0
  have kv : OneAt W1 vb x := by
    unfold OneAt
    rw [← eW1, setRow_other _ _ vb _ hvb]
    exact hv
  have hc1 : ∀ ty, (Builtin.copy_ #[22, 22] ty #[.slice (some ⟨wk, (i + 1) * 2, none⟩) (n - i) (cw - (i + 1)), .slice (some ⟨wk, i * 2, none⟩) (n + 1 - i) (cw - i)]).run Tryz.prog w.drew = .ok (goInt (n - i : Nat)) W1 := fun ty => by
    have := run_copy_rowk (P := Tryz.prog) w.drew 22 22 ty 28 2 wk ((i + 1) * 2) (n - i) (cw - (i + 1)) ⟨wk, i * 2, none⟩ (n + 1 - i) (cw - i) cur 28 ((F.flatMap fCells).drop (i * 2)) Tryz.underlying22 info45s k0 (n - i) (by simp only [Nat.min_def]; split <;> omega) hdl
      (fun j u hu => by
        rw [add_at]
        rw [List.getElem?_drop] at hu
        have hj : i * 2 + j < n * 2 := by rw [← hxl]; exact (List.getElem?_eq_some_iff.1 hu).1
        exact (cells_at k0 (i * 2 + j)).trans ((take_get h8 hj).trans hu)) (by rw [hdl]; omega) (fun u hu => fCells_one F u (List.mem_of_mem_drop hu))
    rw [this, hdl, eR1, eW1]
  obtain ⟨R2, eR2⟩ : ∃ R : Array Value, (R1.toList.take (i * 2) ++ [Value.int .i64 x.1, Value.string x.2] ++ R1.toList.drop (i * 2 + 2)).toArray = R := ⟨_, rfl⟩
  have hc2 : ∀ ty, (Builtin.copy_ #[22, 22] ty #[.slice (some ⟨wk, i * 2, none⟩) (n + 1 - i) (cw - i), .slice (some ⟨vb, 0, none⟩) 1 1]).run Tryz.prog W1 = .ok (goInt 1) (W1.setRow wk R2) := fun ty => by
    have := run_copy_rowk (P := Tryz.prog) W1 22 22 ty 28 2 wk (i * 2) (n + 1 - i) (cw - i) ⟨vb, 0, none⟩ 1 1 R1 28 [.int .i64 x.1, .string x.2] Tryz.underlying22 info45s k1 1 (by simp only [Nat.min_def]; split <;> omega) rfl
      (one_news kv) (by rw [e28]; omega) (one_one x)
    rw [this, ← eR2]
    rfl
  have hR2s : R2.size = cw * 2 := by
    rw [← eR2]
    simp only [List.size_toArray, List.length_append, List.length_take, List.length_drop, Array.length_toList, hR1s, e28]
    omega
  have hR2t : R2.toList.take ((n + 1) * 2) = (F.take i ++ x :: F.drop i).flatMap fCells := by
    rw [← eR2, List.toList_toArray, hR1t, hR1d, ← List.append_assoc, List.take_left' (by rw [List.length_append, List.length_append, List.length_take, hxl, hdl, e28]; omega), fCells_append, List.flatMap_cons, fCells_take F i (by omega), fCells_drop F i (by omega), List.append_assoc]
    rfl
  have hvl : w.shape? vb = some (28, 2) := by unfold World.shape?; rw [show w.heap[vb]? = _ from hv]; rfl
  have hwl : w.shape? wk = some (28, cur.size) := by unfold World.shape?; rw [h3]
  have hov : ∀ lb cb, (callFunc 47 #[.slice (some ⟨vb, 0, none⟩) 1 1, .slice (some ⟨wk, (i + 1) * 2, none⟩) lb cb]).run Tryz.prog w = .ok (.value (.bool false)) w := fun lb cb => by
    rw [run_callFunc_extern Tryz.func47 (by kernel_rfl) (by kernel_rfl) (by kernel_rfl) (e := Extern.SlicesOverlaps.overlaps #[22, 22] #[4]) (by kernel_rfl),
      Lib.run_overlaps_apart w 22 4 28 Tryz.underlying22 2 Tryz.sizeOf28 ⟨vb, 0, none⟩ ⟨wk, (i + 1) * 2, none⟩ 1 1 lb cb hvb _ _ _ _ hvl hwl (by omega) (frozen_at (show w.heap[vb]? = _ from hv) 0) (frozen_at (show w.heap[vb]? = _ from hv) 2)]
    rfl
  have HFIN := Lib.hid (show FBuf B (W1.setRow wk R2) (.slice (some ⟨wk, 0, none⟩) (n + 1) cw) (F.take i ++ x :: F.drop i) ∧ Turn (bufBlock (.slice (some ⟨wk, 0, none⟩) n cw)).toList w (W1.setRow wk R2) from by
    have hlen : (F.take i ++ x :: F.drop i).length = n + 1 := by rw [List.length_append, List.length_take, List.length_cons, List.length_drop, hFn]; omega
    have hbk : bufBlock (.slice (some ⟨wk, 0, none⟩) n cw) = some wk := by simp [bufBlock]; omega
    refine ⟨⟨⟨by rw [fCells_len], .inr ⟨wk, cw, R2, by rw [hlen], setRow_block k1, by omega, by omega, h6, hR2s, by rw [hlen]; exact hR2t⟩⟩, fun g hg => by
      have := buf_block hg
      subst this
      exact h.new g hbk⟩, ?_⟩
    rw [← eW1, hbk]
    exact (((Turn.refl _ w).drew).setRow (.inl (by simp)) R1).setRow (.inl (by simp)) R2)
  have hz2 : ¬ ((i : Int) = (n : Int)) := by omega
  have hz3 : (n : Int) + 1 ≤ (cw : Int) := by omega
  have hb3 : (i : Int) ≤ (n : Int) + 1 := by omega
  have hi' : (i : Int) ≤ n := by omega
  have hw1 : IntKind.i64.wrap ((i : Int) + 1) = (i : Int) + 1 := by rw [IntKind.wrap_i64]; omega
  have hb1 : (0 : Int) ≤ (i : Int) + 1 := by omega
  have hb2 : (i : Int) + 1 ≤ (n : Int) + 1 := by omega
  have htn : ((i : Int) + 1).toNat = i + 1 := by omega
  have hci : ¬ (cw = i) := by omega
  have hci1 : ¬ (cw = i + 1) := by omega
  have HC1 := Lib.hid hc1
  have HC2 := Lib.hid hc2
  have HOV := Lib.hid hov
  unfold InsAt
  obtain ⟨O, eO⟩ : ∃ O, (bufBlock (.slice (some ⟨wk, 0, none⟩) n cw)).toList = O := ⟨_, rfl⟩
  obtain ⟨L, eL⟩ : ∃ L, F.take i ++ x :: F.drop i = L := ⟨_, rfl⟩
  rw [eO, eL] at HFIN
  rw [eO, eL]
  simp only [maxLen] at h6
  clear hFn hxl hv k0 k1 kv eW1 h h3 h8 eO eL hc1 hc2 eR1 eR2 hR1s hR1t hR1d hR2s hR2t hdl e28 hvl hwl hov hct hcl
  go_enter Tryz.func32, Tryz.ntmps32
  go_wp2_with (simp only [HOV.out])
  refine wp_region_tail 8 rfl (by kernel_rfl) ?_
  simp only [List.take_succ_cons, List.take_zero, List.drop_succ_cons, List.drop_zero]
  iterate 8 still_step
  refine wpStill_nil ?_
  refine wpList_run rfl _ (exec_copy_by (.tmp 73) (.tmp 76) 22 rfl (.slice (some ⟨wk, (i + 1) * 2, none⟩) (n - i) (cw - (i + 1))) (.slice (some ⟨wk, i * 2, none⟩) (n + 1 - i) (cw - i)) (goInt (n - i : Nat)) rfl rfl (HC1.out _)) ?_
  go_wp2_with (refine wpList_run rfl _ (exec_copy_by (.tmp 80) (.tmp 81) 22 rfl (.slice (some ⟨wk, i * 2, none⟩) (n + 1 - i) (cw - i)) (.slice (some ⟨vb, 0, none⟩) 1 1) (goInt 1) rfl rfl (HC2.out _)) ?_)
  go_ret
  exact ⟨_, rfl, HFIN.out⟩
/-- A field put into its place, whatever room there is. -/
theorem insert_any {B : Nat} {w : World} {v : Value} {F : Flds} {x : Fld} {vb i : Nat} (h : FBuf B w v F) (hB : B ≤ w.heap.size) (hv : OneAt w vb x) (hvb : ∀ k, bufBlock v = some k → vb ≠ k) (hF : F.length ≤ 2097152) (hi : i ≤ F.length) :
    Calls Tryz.prog 32 #[v, .int .i64 i, .slice (some ⟨vb, 0, none⟩) 1 1] w (InsAt B F i x v w) := by
  by_cases he : i = F.length
  · subst he
    exact insert_end h hB hv hF
  · obtain ⟨_, ⟨h2, _⟩ | ⟨g', cap', cur, rfl, h3, h4, h5, h6, h7, h8⟩⟩ := h.buf
    · omega
    · have hbk : bufBlock (.slice (some ⟨g', 0, none⟩) F.length cap') = some g' := by simp [bufBlock]; omega
      by_cases hc : cap' < F.length + 1
      · exact insert_grow h rfl hB hv hF (by omega) hc
      · exact insert_shift h rfl hv (hvb g' hbk) hF (by omega) (by omega)
end Go.Proofs.YtommklkihjmgcaaGreatDoor.msgw
namespace Go.Proofs.YtommklkihjmgcaaGreatDoor.msgw
open Go.RowKit
open Go.Proofs.YtommklkihjmgcaaGreatDoor.msgp
open Go.Proofs.YtommklkihjmgcaaGreatDoor.buf
theorem info32s : (Tryz.prog.info? 24).map (·.size) = some 2 := by kernel_rfl
theorem spot_le (F : Flds) (no : Int) : spot F no ≤ F.length := List.findIdx_le_length
theorem _root_.Go.Proofs.YtommklkihjmgcaaGreatDoor.buf.Turn.keptCell {O : List Nat} {w w' : World} (t : Turn O w w') {x i : Nat} {u : Value} (h : w.cell? ⟨x, i, none⟩ = some u) (hx : x ∉ O) : w'.cell? ⟨x, i, none⟩ = some u :=
  (World.cell?_of_block (a := ⟨x, i, none⟩) (t.block x (World.block_lt_of_cell? w ⟨x, i, none⟩ h) hx)).trans h
set_option maxHeartbeats 4000000 in
set_option maxRecDepth 100000 in
theorem set_any {w : World} {v : Value} {F : Flds} (h : FsAt w v F) (hF : F.length ≤ 2097152) (ty no : Int) (t : ByteArray) :
    Calls Tryz.prog 14 #[.agg #[.int .i64 ty, v], .int .i64 no, .string t] w fun e w' => ∃ v', e = .returned (.agg #[.int .i64 ty, v']) ∧ FBuf w.heap.size w' v' (setM F no t) ∧ Below w.heap.size w w' := by
  obtain ⟨p, c, rfl⟩ := h.shape
  obtain ⟨Bm, eBm⟩ : ∃ b, w.heap.size = b := ⟨_, rfl⟩
  obtain ⟨w0, e0⟩ : ∃ W, ((w.alloc (.cells #[.int .i64 ty, .slice p F.length c] 24)).alloc (.cells #[.int .i64 no] 3)).alloc (.cells #[.int .i64 0, .slice none 0 0] 24) = W := ⟨_, rfl⟩
  have b0 : Below w.heap.size w w0 := by rw [← e0]; exact (((Below.refl _ _).alloc (Nat.le_refl _) _).alloc (by simp) _).alloc (by simp; omega) _
  have s0 : w0.heap.size = Bm + 3 := by rw [← e0, ← eBm]; simp
  have km : w0.heap[Bm]? = some (.cells #[.int .i64 ty, .slice p F.length c] 24 (0, 0)) := by
    rw [← e0, ← eBm, Below.heap_alloc _ _ _ (by simp; omega), Below.heap_alloc _ _ _ (by simp)]
    exact heap_alloc_last _ _
  have kn : w0.heap[Bm + 1]? = some (.cells #[.int .i64 no] 3 (0, 0)) := by
    rw [← e0, ← eBm, Below.heap_alloc _ _ _ (by simp)]
    have := heap_alloc_last (w.alloc (.cells #[.int .i64 ty, .slice p F.length c] 24)) (.cells #[.int .i64 no] 3)
    simpa using this
  have kr : w0.heap[Bm + 2]? = some (.cells #[.int .i64 0, .slice none 0 0] 24 (0, 0)) := by
    rw [← e0, ← eBm]
    have := heap_alloc_last ((w.alloc (.cells #[.int .i64 ty, .slice p F.length c] 24)).alloc (.cells #[.int .i64 no] 3)) (.cells #[.int .i64 0, .slice none 0 0] 24)
    simpa using this
  have HC := Lib.hid (clone_fs (h.below b0) hF)
  have HB0 := Lib.hid b0
  have S0 := Lib.hid s0
  have KM := Lib.hid km
  have KN := Lib.hid kn
  have KR := Lib.hid kr
  have E0 := Lib.hid e0
  have EB := Lib.hid eBm
  have c0 : w0.cell? ⟨Bm, 1, none⟩ = some (.slice p F.length c) := cells_at km 1
  clear h b0 s0 km kn kr e0
  go_enter Tryz.func14, Tryz.ntmps14
  go_wp2_with fail
  rw [E0.out]
  clear eBm
  refine HC.out.mono ?_
  rintro e w1 ⟨v1, rfl, f1, b1⟩
  have hn1 : w1.cell? ⟨Bm + 1, 0, none⟩ = some (.int .i64 no) := b1.keptCell (cells_at KN.out 0)
  have HD := Lib.hid (del_any hn1 f1 (fun k hk => by have := f1.new k hk; have := S0.out; omega) hF)
  have F1 := Lib.hid f1
  have HB1 := Lib.hid b1
  have N1 := Lib.hid hn1
  clear f1 b1 hn1 HC c0
  go_wp2_with fail
  refine HD.out.mono ?_
  rintro e w2 ⟨v2, rfl, f2, hbk, t2⟩
  have hO : ∀ k ∈ (bufBlock v1).toList, w0.heap.size ≤ k := fun k hk => F1.out.new k (by simpa using hk)
  have hB2 : Below w0.heap.size w0 w2 := HB1.out.trans (t2.below HB1.out.size hO)
  have hn2 : w2.cell? ⟨Bm + 1, 0, none⟩ = some (.int .i64 no) := hB2.keptCell (cells_at KN.out 0)
  have hdl : (delM F no).length ≤ F.length := List.length_filter_le _ _
  have HI := Lib.hid (index_past hn2 (f2.fs (by simp only [maxLen]; omega)))
  have F2 := Lib.hid f2
  have HB2 := Lib.hid hB2
  obtain ⟨p2, c2, rfl, _, _⟩ := f2.buf.shape
  obtain ⟨D, eD⟩ : ∃ D, delM F no = D := ⟨_, rfl⟩
  rw [eD] at HI F2 hdl
  rw [eD]
  have ED := Lib.hid eD
  clear f2 hbk t2 hO hB2 hn2 HD F1 HB1 N1 eD
  go_wp2_with fail
  refine HI.out.mono ?_
  rintro e w3 ⟨rfl, b3⟩
  have HB3 := Lib.hid (HB2.out.trans (b3.mono HB2.out.size))
  have F3 := Lib.hid (F2.out.below b3)
  have m3 : w3.cell? ⟨Bm, 0, none⟩ = some (.int .i64 ty) := HB3.out.keptCell (cells_at KM.out 0)
  have n3 : w3.cell? ⟨Bm + 1, 0, none⟩ = some (.int .i64 no) := HB3.out.keptCell (cells_at KN.out 0)
  obtain ⟨r, er⟩ : ∃ r : Int, (if D.findIdx (fun x => decide (no < x.1)) < D.length then ((D.findIdx (fun x => decide (no < x.1)) : Nat) : Int) else -1) = r := ⟨_, rfl⟩
  rw [er]
  have hk : (if r < 0 then (D.length : Int) else r) = (spot D no : Nat) := by
    rw [← er]
    have := spot_le D no
    unfold spot at this ⊢
    split <;> split <;> omega
  have hsp := spot_le D no
  obtain ⟨k, ek⟩ : ∃ k, spot D no = k := ⟨_, rfl⟩
  rw [ek] at hk hsp
  have EK := Lib.hid ek
  have HDL := Lib.hid (show D.length ≤ 2097152 by omega)
  clear b3 HI HB2 F2 er ek hdl
  by_cases hr : r < 0
  · rw [if_pos hr] at hk
    go_wp2_with fail
    obtain rfl : k = D.length := by omega
    have bd : Below w3.heap.size w3 (w3.drew.alloc (.cells #[.int .i64 no, .string t] 28)) := (show Below w3.heap.size w3 w3.drew from ⟨rfl, rfl, rfl, Nat.le_refl _, fun _ _ => rfl⟩).alloc (Nat.le_refl _) _
    have o4 : OneAt (w3.drew.alloc (.cells #[.int .i64 no, .string t] 28)) w3.heap.size (no, t) := heap_alloc_last w3.drew _
    have HINS := Lib.hid (insert_any (F3.out.below bd) (by have := HB3.out.size; have := bd.size; omega) o4 (fun q hq => by have := F3.out.buf.lt q hq; omega) HDL.out hsp)
    unfold InsAt at HINS
    obtain ⟨L, eL⟩ : ∃ L, D.take D.length ++ (no, t) :: D.drop D.length = L := ⟨_, rfl⟩
    rw [eL] at HINS
    have EL := Lib.hid eL
    clear eL
    have m4 : (w3.drew.alloc (.cells #[.int .i64 no, .string t] 28)).cell? ⟨Bm, 0, none⟩ = some (.int .i64 ty) := bd.keptCell m3
    have n4 : (w3.drew.alloc (.cells #[.int .i64 no, .string t] 28)).cell? ⟨Bm + 1, 0, none⟩ = some (.int .i64 no) := bd.keptCell n3
    have HK5 := Lib.hid (fun (w5 : World) (t5 : Turn (bufBlock (.slice p2 D.length c2)).toList (w3.drew.alloc (.cells #[.int .i64 no, .string t] 28)) w5) => show w5.heap[Bm + 2]? = some (.cells #[.int .i64 0, .slice none 0 0] 24 (0, 0)) ∧ w5.cell? ⟨Bm, 0, none⟩ = some (.int .i64 ty) ∧ w5.cell? ⟨Bm + 1, 0, none⟩ = some (.int .i64 no) from by
      have hno : ∀ q, q < Bm + 3 → q ∉ (bufBlock (.slice p2 D.length c2)).toList := fun q hq hm => by
        have := F3.out.new q (by simpa using hm)
        have := S0.out
        omega
      have hs := S0.out
      have h3 := HB3.out.size
      have h4 := bd.size
      exact ⟨((t5.block (Bm + 2) (by omega) (hno _ (by omega))).trans ((bd.block (Bm + 2) (by omega)).trans (HB3.out.block (Bm + 2) (by omega)))).trans KR.out, t5.keptCell m4 (hno _ (by omega)), t5.keptCell n4 (hno _ (by omega))⟩)
    have HK6 := Lib.hid (fun (w5 : World) (R : Array Value) (m5 : w5.cell? ⟨Bm, 0, none⟩ = some (.int .i64 ty)) (n5 : w5.cell? ⟨Bm + 1, 0, none⟩ = some (.int .i64 no)) => show (w5.setRow (Bm + 2) R).cell? ⟨Bm, 0, none⟩ = some (.int .i64 ty) ∧ (w5.setRow (Bm + 2) R).cell? ⟨Bm + 1, 0, none⟩ = some (.int .i64 no) from
      ⟨(World.cell?_of_block (a := ⟨Bm, 0, none⟩) (setRow_other _ _ Bm _ (by omega))).trans m5, (World.cell?_of_block (a := ⟨Bm + 1, 0, none⟩) (setRow_other _ _ (Bm + 1) _ (by omega))).trans n5⟩)
    have HFIN := Lib.hid (fun (w5 : World) (p5 : Option Addr) (c5 : Nat) (R : Array Value) (f5 : FBuf w0.heap.size w5 (.slice p5 L.length c5) L) (t5 : Turn (bufBlock (.slice p2 D.length c2)).toList (w3.drew.alloc (.cells #[.int .i64 no, .string t] 28)) w5) => show FBuf w.heap.size (w5.setRow (Bm + 2) R) (.slice p5 L.length c5) (setM F no t) ∧ Below w.heap.size w (w5.setRow (Bm + 2) R) from by
      have hs := S0.out
      have hb := EB.out
      have hL : L = setM F no t := by rw [← EL.out]; unfold setM insM; rw [ED.out, EK.out]
      refine ⟨⟨?_, fun g hg => by have := f5.new g hg; omega⟩, ?_⟩
      · rw [← hL]
        exact f5.buf.kept fun q hq => setRow_other _ _ q _ (by have := f5.new q hq; omega)
      · have b04 : Below w0.heap.size w0 (w3.drew.alloc (.cells #[.int .i64 no, .string t] 28)) := HB3.out.trans (bd.mono HB3.out.size)
        have b05 : Below w0.heap.size w0 w5 := b04.trans (t5.below b04.size (fun q hq => F3.out.new q (by simpa using hq)))
        have bw5 : Below w.heap.size w w5 := HB0.out.trans (b05.mono HB0.out.size)
        exact ⟨bw5.os, bw5.tape, bw5.output, by have := bw5.size; simpa using this, fun q hq => (setRow_other _ _ q _ (by omega)).trans (bw5.block q hq)⟩)
    clear bd o4
    refine wp_region_held_drew (S := (fun W => W.cell? ⟨Bm, 0, none⟩ = some (.int .i64 ty) ∧ W.cell? ⟨Bm + 1, 0, none⟩ = some (.int .i64 no))) (by kernel_rfl) (⟨m3, n3⟩) (fun hHeld => ?_)
    refine wpAnyH_take (i := 0) (oi := { dst := some 21, op := Op.fieldAddr 24 (Operand.tmp 3) 0, type := 0, pos := "message.go:299", after := #[], guard := none }) (v := ?_) rfl (by kernel_rfl) (by kernel_rfl) (by kernel_rfl) (fun _ _ _ h => h) (Or.inl ⟨by rfl, ?hysa1⟩) (by assumption) ?restsa1
    case hysa1 => (intro w hSw; (try dsimp only at hSw); go_simp; try with_reducible rfl)
    try simp only [Act.put, List.setIfInBounds_toArray, List.set_cons_zero, List.set_cons_succ]
    refine wpAnyH_take (i := 1) (oi := { dst := some 22, op := Op.load 3 (Operand.tmp 21), type := 3, pos := "message.go:299", after := #[{ on := 0, ground := Ground.data }], guard := none }) (v := ?_) rfl (by kernel_rfl) (by kernel_rfl) (by kernel_rfl) (fun _ _ _ h => h) (Or.inl ⟨by rfl, ?hysa4⟩) (by assumption) ?restsa4
    case hysa4 => (intro w hSw; have q1 := hSw.1; clear hSw; (try dsimp only at q1); go_simp; try with_reducible rfl)
    try simp only [Act.put, List.setIfInBounds_toArray, List.set_cons_zero, List.set_cons_succ]
    refine wpAnyH_take (i := 2) (oi := { dst := some 23, op := Op.move (Operand.tmp 7), type := 22, pos := "message.go:299", after := #[], guard := none }) (v := ?_) rfl (by kernel_rfl) (by kernel_rfl) (by kernel_rfl) (fun _ _ _ h => h) (Or.inl ⟨by rfl, ?hysa7⟩) (by assumption) ?restsa7
    case hysa7 => (intro w hSw; (try dsimp only at hSw); go_simp; try with_reducible rfl)
    try simp only [Act.put, List.setIfInBounds_toArray, List.set_cons_zero, List.set_cons_succ]
    refine wpAnyH_take (i := 3) (oi := { dst := some 24, op := Op.move (Operand.tmp 8), type := 3, pos := "message.go:299", after := #[], guard := none }) (v := ?_) rfl (by kernel_rfl) (by kernel_rfl) (by kernel_rfl) (fun _ _ _ h => h) (Or.inl ⟨by rfl, ?hysa10⟩) (by assumption) ?restsa10
    case hysa10 => (intro w hSw; (try dsimp only at hSw); go_simp; try with_reducible rfl)
    try simp only [Act.put, List.setIfInBounds_toArray, List.set_cons_zero, List.set_cons_succ]
    refine wpAnyH_take (i := 4) (oi := { dst := some 25, op := Op.load 3 (Operand.tmp 4), type := 3, pos := "message.go:299", after := #[], guard := none }) (v := ?_) rfl (by kernel_rfl) (by kernel_rfl) (by kernel_rfl) (fun _ _ _ h => h) (Or.inl ⟨by rfl, ?hysa13⟩) (by assumption) ?restsa13
    case hysa13 => (intro w hSw; have q1 := hSw.2; clear hSw; (try dsimp only at q1); go_simp; try with_reducible rfl)
    try simp only [Act.put, List.setIfInBounds_toArray, List.set_cons_zero, List.set_cons_succ]
    refine wpAnyH_take (i := 5) (oi := { dst := some 26, op := Op.move (Operand.tmp 2), type := 9, pos := "message.go:299", after := #[], guard := none }) (v := ?_) rfl (by kernel_rfl) (by kernel_rfl) (by kernel_rfl) (fun _ _ _ h => h) (Or.inl ⟨by rfl, ?hysa16⟩) (by assumption) ?restsa16
    case hysa16 => (intro w hSw; (try dsimp only at hSw); go_simp; try with_reducible rfl)
    try simp only [Act.put, List.setIfInBounds_toArray, List.set_cons_zero, List.set_cons_succ]
    refine wpAnyH_take (i := 6) (oi := { dst := some 27, op := Op.build 28 #[(0, Operand.tmp 25), (1, Operand.tmp 26)], type := 28, pos := "message.go:299", after := #[{ on := 4, ground := Ground.data }, { on := 5, ground := Ground.data }], guard := none }) (v := ?_) rfl (by kernel_rfl) (by kernel_rfl) (by kernel_rfl) (fun _ _ _ h => h) (Or.inl ⟨by rfl, ?hysa19⟩) (by assumption) ?restsa19
    case hysa19 => (intro w hSw; (try dsimp only at hSw); go_simp; try with_reducible rfl)
    try simp only [Act.put, List.setIfInBounds_toArray, List.set_cons_zero, List.set_cons_succ]
    refine wpAnyH_ready (rs := [7]) (by kernel_rfl) (by simp) (AllReadyH.cons (o := { dst := some 28, op := Op.buildSlice 22 1 #[(0, Operand.tmp 27)], type := 22, pos := "message.go:299", after := #[{ on := 6, ground := Ground.data }], guard := none }) rfl (fun K hK => ?_) AllReadyH.nil)
    refine step_run rfl _ (exec_buildSlice_one 22 28 (.tmp 27) rfl _ 2 24 Tryz.underlying22 info45f (by omega) #[.int .i64 no, .string t] rfl rfl) ?_
    refine hK.out _ _ (⟨m4, n4⟩) (fun hHeld => ?_)
    clear hK K
    try simp only [Act.put, List.setIfInBounds_toArray, List.set_cons_zero, List.set_cons_succ]
    refine wpAnyH_ready (rs := [8]) (by kernel_rfl) (by simp) (AllReadyH.cons (o := { dst := some 29, op := Op.call { callee := Callee.value (Operand.func 32), args := #[Operand.tmp 23, Operand.tmp 24, Operand.tmp 28], argTypes := #[22, 3, 22] }, type := 22, pos := "message.go:299", after := #[{ on := 2, ground := Ground.data }, { on := 3, ground := Ground.data }, { on := 7, ground := Ground.data }], guard := none }) rfl (fun K hK => ?_) AllReadyH.nil)
    go_simp
    refine HINS.out.mono ?_
    rintro e w5 ⟨v5, rfl, f5, t5⟩
    obtain ⟨k5, m5, n5⟩ := HK5.out w5 t5
    obtain ⟨p5, c5, rfl, _, _⟩ := f5.buf.shape
    have hst := run_storeVar_mid' (P := Tryz.prog) (ty := 24) (g := Bm + 2) (o' := 0) (n := 2) (cs := #[.int .i64 ty, .slice p5 L.length c5]) k5 info32s rfl (by simp) (by rw [Array.all_eq_true_iff_forall_mem]; intro u hu; simp at hu; rcases hu with rfl | rfl <;> rfl)
    refine hK.out _ _ (⟨m5, n5⟩) (fun hHeld => ?_)
    clear hK K
    try simp only [Act.put, List.setIfInBounds_toArray, List.set_cons_zero, List.set_cons_succ]
    refine wpAnyH_take (i := 9) (oi := { dst := some 30, op := Op.build 24 #[(0, Operand.tmp 22), (1, Operand.tmp 29)], type := 24, pos := "message.go:299", after := #[{ on := 1, ground := Ground.data }, { on := 8, ground := Ground.data }], guard := none }) (v := ?_) rfl (by kernel_rfl) (by kernel_rfl) (by kernel_rfl) (fun _ _ _ h => h) (Or.inl ⟨by rfl, ?hysa37⟩) (by assumption) ?restsa37
    case hysa37 => (intro w hSw; (try dsimp only at hSw); go_simp; try with_reducible rfl)
    try simp only [Act.put, List.setIfInBounds_toArray, List.set_cons_zero, List.set_cons_succ]
    refine wpAnyH_ready (rs := [10]) (by kernel_rfl) (by simp) (AllReadyH.cons (o := { dst := none, op := Op.store 24 (Operand.tmp 6) (Operand.tmp 30), type := 0, pos := "message.go:299", after := #[{ on := 9, ground := Ground.data }, { on := 8, ground := Ground.chain }, { on := 0, ground := Ground.phase }, { on := 1, ground := Ground.phase }, { on := 2, ground := Ground.phase }, { on := 3, ground := Ground.phase }, { on := 4, ground := Ground.phase }, { on := 5, ground := Ground.phase }, { on := 6, ground := Ground.phase }, { on := 7, ground := Ground.phase }, { on := 8, ground := Ground.phase }, { on := 9, ground := Ground.phase }], guard := none }) rfl (fun K hK => ?_) AllReadyH.nil)
    refine step_nov rfl (exec_store 24 (.tmp 6) (.tmp 30) rfl ⟨Bm + 2, 0, none⟩ rfl _ rfl hst) ?_
    refine hK.out _ _ (HK6.out w5 _ m5 n5) (fun hHeld => ?_)
    clear hK K
    refine wpAnyH_done (by kernel_rfl) ?_ _
    clear hHeld
    have k6 : (w5.setRow (Bm + 2) #[.int .i64 ty, .slice p5 L.length c5]).heap[Bm + 2]? = some (.cells #[.int .i64 ty, .slice p5 L.length c5] 24 (0, 0)) := setRow_block k5
    have HF5 := Lib.hid (HFIN.out w5 p5 c5 #[.int .i64 ty, .slice p5 L.length c5] f5 t5)
    go_wp2_with fail
    refine bodyPost_ret (results_cell_row rfl _ _ (Bm + 2) _ #[.int .i64 ty, .slice p5 L.length c5] (0, 0) _ rfl k6 Tryz.underlying24 rfl info32s) rfl ?_
    exact ⟨_, rfl, HF5.out⟩
  · rw [if_neg hr] at hk
    subst hk
    go_wp2_with fail
    have bd : Below w3.heap.size w3 (w3.drew.alloc (.cells #[.int .i64 no, .string t] 28)) := (show Below w3.heap.size w3 w3.drew from ⟨rfl, rfl, rfl, Nat.le_refl _, fun _ _ => rfl⟩).alloc (Nat.le_refl _) _
    have o4 : OneAt (w3.drew.alloc (.cells #[.int .i64 no, .string t] 28)) w3.heap.size (no, t) := heap_alloc_last w3.drew _
    have HINS := Lib.hid (insert_any (F3.out.below bd) (by have := HB3.out.size; have := bd.size; omega) o4 (fun q hq => by have := F3.out.buf.lt q hq; omega) HDL.out hsp)
    unfold InsAt at HINS
    obtain ⟨L, eL⟩ : ∃ L, D.take k ++ (no, t) :: D.drop k = L := ⟨_, rfl⟩
    rw [eL] at HINS
    have EL := Lib.hid eL
    clear eL
    have m4 : (w3.drew.alloc (.cells #[.int .i64 no, .string t] 28)).cell? ⟨Bm, 0, none⟩ = some (.int .i64 ty) := bd.keptCell m3
    have n4 : (w3.drew.alloc (.cells #[.int .i64 no, .string t] 28)).cell? ⟨Bm + 1, 0, none⟩ = some (.int .i64 no) := bd.keptCell n3
    have HK5 := Lib.hid (fun (w5 : World) (t5 : Turn (bufBlock (.slice p2 D.length c2)).toList (w3.drew.alloc (.cells #[.int .i64 no, .string t] 28)) w5) => show w5.heap[Bm + 2]? = some (.cells #[.int .i64 0, .slice none 0 0] 24 (0, 0)) ∧ w5.cell? ⟨Bm, 0, none⟩ = some (.int .i64 ty) ∧ w5.cell? ⟨Bm + 1, 0, none⟩ = some (.int .i64 no) from by
      have hno : ∀ q, q < Bm + 3 → q ∉ (bufBlock (.slice p2 D.length c2)).toList := fun q hq hm => by
        have := F3.out.new q (by simpa using hm)
        have := S0.out
        omega
      have hs := S0.out
      have h3 := HB3.out.size
      have h4 := bd.size
      exact ⟨((t5.block (Bm + 2) (by omega) (hno _ (by omega))).trans ((bd.block (Bm + 2) (by omega)).trans (HB3.out.block (Bm + 2) (by omega)))).trans KR.out, t5.keptCell m4 (hno _ (by omega)), t5.keptCell n4 (hno _ (by omega))⟩)
    have HK6 := Lib.hid (fun (w5 : World) (R : Array Value) (m5 : w5.cell? ⟨Bm, 0, none⟩ = some (.int .i64 ty)) (n5 : w5.cell? ⟨Bm + 1, 0, none⟩ = some (.int .i64 no)) => show (w5.setRow (Bm + 2) R).cell? ⟨Bm, 0, none⟩ = some (.int .i64 ty) ∧ (w5.setRow (Bm + 2) R).cell? ⟨Bm + 1, 0, none⟩ = some (.int .i64 no) from
      ⟨(World.cell?_of_block (a := ⟨Bm, 0, none⟩) (setRow_other _ _ Bm _ (by omega))).trans m5, (World.cell?_of_block (a := ⟨Bm + 1, 0, none⟩) (setRow_other _ _ (Bm + 1) _ (by omega))).trans n5⟩)
    have HFIN := Lib.hid (fun (w5 : World) (p5 : Option Addr) (c5 : Nat) (R : Array Value) (f5 : FBuf w0.heap.size w5 (.slice p5 L.length c5) L) (t5 : Turn (bufBlock (.slice p2 D.length c2)).toList (w3.drew.alloc (.cells #[.int .i64 no, .string t] 28)) w5) => show FBuf w.heap.size (w5.setRow (Bm + 2) R) (.slice p5 L.length c5) (setM F no t) ∧ Below w.heap.size w (w5.setRow (Bm + 2) R) from by
      have hs := S0.out
      have hb := EB.out
      have hL : L = setM F no t := by rw [← EL.out]; unfold setM insM; rw [ED.out, EK.out]
      refine ⟨⟨?_, fun g hg => by have := f5.new g hg; omega⟩, ?_⟩
      · rw [← hL]
        exact f5.buf.kept fun q hq => setRow_other _ _ q _ (by have := f5.new q hq; omega)
      · have b04 : Below w0.heap.size w0 (w3.drew.alloc (.cells #[.int .i64 no, .string t] 28)) := HB3.out.trans (bd.mono HB3.out.size)
        have b05 : Below w0.heap.size w0 w5 := b04.trans (t5.below b04.size (fun q hq => F3.out.new q (by simpa using hq)))
        have bw5 : Below w.heap.size w w5 := HB0.out.trans (b05.mono HB0.out.size)
        exact ⟨bw5.os, bw5.tape, bw5.output, by have := bw5.size; simpa using this, fun q hq => (setRow_other _ _ q _ (by omega)).trans (bw5.block q hq)⟩)
    clear bd o4
    refine wp_region_held_drew (S := (fun W => W.cell? ⟨Bm, 0, none⟩ = some (.int .i64 ty) ∧ W.cell? ⟨Bm + 1, 0, none⟩ = some (.int .i64 no))) (by kernel_rfl) (⟨m3, n3⟩) (fun hHeld => ?_)
    refine wpAnyH_take (i := 0) (oi := { dst := some 21, op := Op.fieldAddr 24 (Operand.tmp 3) 0, type := 0, pos := "message.go:299", after := #[], guard := none }) (v := ?_) rfl (by kernel_rfl) (by kernel_rfl) (by kernel_rfl) (fun _ _ _ h => h) (Or.inl ⟨by rfl, ?hysb1⟩) (by assumption) ?restsb1
    case hysb1 => (intro w hSw; (try dsimp only at hSw); go_simp; try with_reducible rfl)
    try simp only [Act.put, List.setIfInBounds_toArray, List.set_cons_zero, List.set_cons_succ]
    refine wpAnyH_take (i := 1) (oi := { dst := some 22, op := Op.load 3 (Operand.tmp 21), type := 3, pos := "message.go:299", after := #[{ on := 0, ground := Ground.data }], guard := none }) (v := ?_) rfl (by kernel_rfl) (by kernel_rfl) (by kernel_rfl) (fun _ _ _ h => h) (Or.inl ⟨by rfl, ?hysb4⟩) (by assumption) ?restsb4
    case hysb4 => (intro w hSw; have q1 := hSw.1; clear hSw; (try dsimp only at q1); go_simp; try with_reducible rfl)
    try simp only [Act.put, List.setIfInBounds_toArray, List.set_cons_zero, List.set_cons_succ]
    refine wpAnyH_take (i := 2) (oi := { dst := some 23, op := Op.move (Operand.tmp 7), type := 22, pos := "message.go:299", after := #[], guard := none }) (v := ?_) rfl (by kernel_rfl) (by kernel_rfl) (by kernel_rfl) (fun _ _ _ h => h) (Or.inl ⟨by rfl, ?hysb7⟩) (by assumption) ?restsb7
    case hysb7 => (intro w hSw; (try dsimp only at hSw); go_simp; try with_reducible rfl)
    try simp only [Act.put, List.setIfInBounds_toArray, List.set_cons_zero, List.set_cons_succ]
    refine wpAnyH_take (i := 3) (oi := { dst := some 24, op := Op.move (Operand.tmp 8), type := 3, pos := "message.go:299", after := #[], guard := none }) (v := ?_) rfl (by kernel_rfl) (by kernel_rfl) (by kernel_rfl) (fun _ _ _ h => h) (Or.inl ⟨by rfl, ?hysb10⟩) (by assumption) ?restsb10
    case hysb10 => (intro w hSw; (try dsimp only at hSw); go_simp; try with_reducible rfl)
    try simp only [Act.put, List.setIfInBounds_toArray, List.set_cons_zero, List.set_cons_succ]
    refine wpAnyH_take (i := 4) (oi := { dst := some 25, op := Op.load 3 (Operand.tmp 4), type := 3, pos := "message.go:299", after := #[], guard := none }) (v := ?_) rfl (by kernel_rfl) (by kernel_rfl) (by kernel_rfl) (fun _ _ _ h => h) (Or.inl ⟨by rfl, ?hysb13⟩) (by assumption) ?restsb13
    case hysb13 => (intro w hSw; have q1 := hSw.2; clear hSw; (try dsimp only at q1); go_simp; try with_reducible rfl)
    try simp only [Act.put, List.setIfInBounds_toArray, List.set_cons_zero, List.set_cons_succ]
    refine wpAnyH_take (i := 5) (oi := { dst := some 26, op := Op.move (Operand.tmp 2), type := 9, pos := "message.go:299", after := #[], guard := none }) (v := ?_) rfl (by kernel_rfl) (by kernel_rfl) (by kernel_rfl) (fun _ _ _ h => h) (Or.inl ⟨by rfl, ?hysb16⟩) (by assumption) ?restsb16
    case hysb16 => (intro w hSw; (try dsimp only at hSw); go_simp; try with_reducible rfl)
    try simp only [Act.put, List.setIfInBounds_toArray, List.set_cons_zero, List.set_cons_succ]
    refine wpAnyH_take (i := 6) (oi := { dst := some 27, op := Op.build 28 #[(0, Operand.tmp 25), (1, Operand.tmp 26)], type := 28, pos := "message.go:299", after := #[{ on := 4, ground := Ground.data }, { on := 5, ground := Ground.data }], guard := none }) (v := ?_) rfl (by kernel_rfl) (by kernel_rfl) (by kernel_rfl) (fun _ _ _ h => h) (Or.inl ⟨by rfl, ?hysb19⟩) (by assumption) ?restsb19
    case hysb19 => (intro w hSw; (try dsimp only at hSw); go_simp; try with_reducible rfl)
    try simp only [Act.put, List.setIfInBounds_toArray, List.set_cons_zero, List.set_cons_succ]
    refine wpAnyH_ready (rs := [7]) (by kernel_rfl) (by simp) (AllReadyH.cons (o := { dst := some 28, op := Op.buildSlice 22 1 #[(0, Operand.tmp 27)], type := 22, pos := "message.go:299", after := #[{ on := 6, ground := Ground.data }], guard := none }) rfl (fun K hK => ?_) AllReadyH.nil)
    refine step_run rfl _ (exec_buildSlice_one 22 28 (.tmp 27) rfl _ 2 24 Tryz.underlying22 info45f (by omega) #[.int .i64 no, .string t] rfl rfl) ?_
    refine hK.out _ _ (⟨m4, n4⟩) (fun hHeld => ?_)
    clear hK K
    try simp only [Act.put, List.setIfInBounds_toArray, List.set_cons_zero, List.set_cons_succ]
    refine wpAnyH_ready (rs := [8]) (by kernel_rfl) (by simp) (AllReadyH.cons (o := { dst := some 29, op := Op.call { callee := Callee.value (Operand.func 32), args := #[Operand.tmp 23, Operand.tmp 24, Operand.tmp 28], argTypes := #[22, 3, 22] }, type := 22, pos := "message.go:299", after := #[{ on := 2, ground := Ground.data }, { on := 3, ground := Ground.data }, { on := 7, ground := Ground.data }], guard := none }) rfl (fun K hK => ?_) AllReadyH.nil)
    go_simp
    refine HINS.out.mono ?_
    rintro e w5 ⟨v5, rfl, f5, t5⟩
    obtain ⟨k5, m5, n5⟩ := HK5.out w5 t5
    obtain ⟨p5, c5, rfl, _, _⟩ := f5.buf.shape
    have hst := run_storeVar_mid' (P := Tryz.prog) (ty := 24) (g := Bm + 2) (o' := 0) (n := 2) (cs := #[.int .i64 ty, .slice p5 L.length c5]) k5 info32s rfl (by simp) (by rw [Array.all_eq_true_iff_forall_mem]; intro u hu; simp at hu; rcases hu with rfl | rfl <;> rfl)
    refine hK.out _ _ (⟨m5, n5⟩) (fun hHeld => ?_)
    clear hK K
    try simp only [Act.put, List.setIfInBounds_toArray, List.set_cons_zero, List.set_cons_succ]
    refine wpAnyH_take (i := 9) (oi := { dst := some 30, op := Op.build 24 #[(0, Operand.tmp 22), (1, Operand.tmp 29)], type := 24, pos := "message.go:299", after := #[{ on := 1, ground := Ground.data }, { on := 8, ground := Ground.data }], guard := none }) (v := ?_) rfl (by kernel_rfl) (by kernel_rfl) (by kernel_rfl) (fun _ _ _ h => h) (Or.inl ⟨by rfl, ?hysb37⟩) (by assumption) ?restsb37
    case hysb37 => (intro w hSw; (try dsimp only at hSw); go_simp; try with_reducible rfl)
    try simp only [Act.put, List.setIfInBounds_toArray, List.set_cons_zero, List.set_cons_succ]
    refine wpAnyH_ready (rs := [10]) (by kernel_rfl) (by simp) (AllReadyH.cons (o := { dst := none, op := Op.store 24 (Operand.tmp 6) (Operand.tmp 30), type := 0, pos := "message.go:299", after := #[{ on := 9, ground := Ground.data }, { on := 8, ground := Ground.chain }, { on := 0, ground := Ground.phase }, { on := 1, ground := Ground.phase }, { on := 2, ground := Ground.phase }, { on := 3, ground := Ground.phase }, { on := 4, ground := Ground.phase }, { on := 5, ground := Ground.phase }, { on := 6, ground := Ground.phase }, { on := 7, ground := Ground.phase }, { on := 8, ground := Ground.phase }, { on := 9, ground := Ground.phase }], guard := none }) rfl (fun K hK => ?_) AllReadyH.nil)
    refine step_nov rfl (exec_store 24 (.tmp 6) (.tmp 30) rfl ⟨Bm + 2, 0, none⟩ rfl _ rfl hst) ?_
    refine hK.out _ _ (HK6.out w5 _ m5 n5) (fun hHeld => ?_)
    clear hK K
    refine wpAnyH_done (by kernel_rfl) ?_ _
    clear hHeld
    have k6 : (w5.setRow (Bm + 2) #[.int .i64 ty, .slice p5 L.length c5]).heap[Bm + 2]? = some (.cells #[.int .i64 ty, .slice p5 L.length c5] 24 (0, 0)) := setRow_block k5
    have HF5 := Lib.hid (HFIN.out w5 p5 c5 #[.int .i64 ty, .slice p5 L.length c5] f5 t5)
    go_wp2_with fail
    refine bodyPost_ret (results_cell_row rfl _ _ (Bm + 2) _ #[.int .i64 ty, .slice p5 L.length c5] (0, 0) _ rfl k6 Tryz.underlying24 rfl info32s) rfl ?_
    exact ⟨_, rfl, HF5.out⟩
end Go.Proofs.YtommklkihjmgcaaGreatDoor.msgw
