/- Rows that grow, of whatever elements; whole values out of and into blocks; single steps of a region by their own run. Conditions: as each theorem says. -/
import Derived.Laws.AppendOwn
import Derived.Maps.AppendAt
import Derived.Deep.AppendLies
import Derived.Deep.RegionLaw
import Derived.Deep.WholeRow
import Derived.Great.BuildSlice
import Derived.OwnWalk
import Derived.Below
import Derived.Laws.CopyOwn
import Derived.WalkKit
import Derived.StillTailTactics
import Derived.Deep.Draws
namespace Go.Proofs.YtjndfmpicnkplaaDoor.buf
open Go.RowKit

/-- n cells out of a block. -/
theorem run_loadFrom {P : Program} (w : World) (b o n : Nat) (cs : Array Value) (hn : cs.size = n) (h : ∀ j v, cs[j]? = some v → w.cell? ⟨b, o + j, none⟩ = some v) :
    (loadCellsFrom ⟨b, o, none⟩ 0 n #[]).run P w = .ok cs w := by
  subst hn
  have := run_loadCells_list (P := P) w ⟨b, o, none⟩ cs.toList (fun j v hv => by
    have hadd : (⟨b, o, none⟩ : Addr).add j = ⟨b, o + j, none⟩ := by unfold Addr.add; split <;> simp_all
    rw [hadd]
    exact h j v (by simpa using hv))
  simpa [loadCells] using this
/-- A whole row over what a block held. -/
theorem run_storeRow {P : Program} (w : World) (g : Nat) (t : TypeId) (c c' : Array Value) (hg : w.heap[g]? = some (.cells c t (0, 0))) (hs : c.size = c'.size) (h1 : c'.all (·.oneCell') = true) :
    (storeCells ⟨g, 0, none⟩ c'.toList 0).run P w = .ok () (w.setRow g c') := by
  have := run_storeCells_at P g 0 t c'.toList 0 c w hg (by simp; omega) (fun v hv => (Array.all_eq_true_iff_forall_mem.1 h1) v (by simpa using hv))
  rw [this]
  congr 2
  apply Array.ext'
  simp [hs]
theorem cells_at {w : World} {g : Nat} {cs : Array Value} {t : TypeId} {fr : Nat × Nat} (h : w.heap[g]? = some (.cells cs t fr)) (o : Nat) : w.cell? ⟨g, o, none⟩ = cs[o]? := by
  unfold World.cell?
  rw [h]
  rfl
theorem frozen_at {w : World} {g : Nat} {cs : Array Value} {t : TypeId} (h : w.heap[g]? = some (.cells cs t (0, 0))) (o : Nat) : w.frozen? ⟨g, o, none⟩ = false := by
  unfold World.frozen?
  rw [h]
  simp
theorem setRow_block {w : World} {g : Nat} {cs cs' : Array Value} {t : TypeId} {fr : Nat × Nat} (h : w.heap[g]? = some (.cells cs t fr)) : (w.setRow g cs').heap[g]? = some (.cells cs' t fr) := setRow_heap w g cs cs' t fr h
/-- A load of a whole value, by its own run. -/
theorem wpList_load_at {P : Program} {ops : Array Oper} {rest : List Oper} {o : Oper} {a : Act} {w : World} {Q : Exit → Act → World → Prop} (hgd : o.guard = none) (ty : TypeId) (x : Operand) (ho : o.op = .load ty x)
    (p : Addr) (hx : a.eval x = .pointer (some p)) (v : Value) (hr : (loadVar ty p).run P w = .ok v w)
    (h : wpList P ops Q rest (a.put o.dst v) w) : wpList P ops Q (o :: rest) a w :=
  wpList_plain hgd fun _ hK => by
    unfold Oper.wp execOp
    simp only [ho, hx, Instr.loadAt, Instr.sureAddr, Sem.run_bind, Sem.run_pure, Result.andThen_ok, hr]
    exact hK _ _ h
/-- A store of a whole value, by its own run. -/
theorem wpList_store_at {P : Program} {ops : Array Oper} {rest : List Oper} {o : Oper} {a : Act} {w w' : World} {Q : Exit → Act → World → Prop} (hgd : o.guard = none) (ty : TypeId) (x y : Operand) (ho : o.op = .store ty x y)
    (p : Addr) (hx : a.eval x = .pointer (some p)) (v : Value) (hy : a.eval y = v) (hr : (storeVar ty p v).run P w = .ok () w')
    (h : wpList P ops Q rest (a.put o.dst undef) w') : wpList P ops Q (o :: rest) a w :=
  wpList_plain hgd fun _ hK => by
    unfold Oper.wp execOp
    simp only [ho, hx, hy, Instr.storeAt, Instr.sureAddr, Sem.run_bind, Sem.run_pure, Result.andThen_ok, hr]
    exact hK _ _ h
theorem run_loadVar_from {P : Program} {w : World} {ty : TypeId} {b o n : Nat} {cs : Array Value} {d : TypeDesc} (hu : P.underlying ty = some d) (hd : (match d with | .struct _ | .array _ _ => true | _ => false) = true) (hi : (P.info? ty).map (·.size) = some n) (hn : cs.size = n)
    (h : ∀ j v, cs[j]? = some v → w.cell? ⟨b, o + j, none⟩ = some v) : (loadVar ty ⟨b, o, none⟩).run P w = .ok (.agg cs) w := by
  have hl := run_loadFrom (P := P) w b o n cs hn h
  cases hq : P.info? ty with
  | none => simp [hq] at hi
  | some i =>
    have hs : i.size = n := by simpa [hq] using hi
    have hagg : (isAgg ty).run P w = .ok true w := by
      unfold isAgg
      rw [Sem.run_bind, run_underlying hu w]
      cases d <;> simp_all
    simp [loadVar, Sem.run_bind, hagg, sizeOf, typeInfo, hq, hs, loadCells, hl]
/-- A row of writes: n of them; its own block, if it has room for any. -/
def Buf (w : World) (e size : Nat) (v : Value) (n : Nat) (xs : List Value) : Prop :=
  xs.length = n * size ∧ ((n = 0 ∧ (v = .slice none 0 0 ∨ ∃ g, v = .slice (some ⟨g, 0, none⟩) 0 0)) ∨
    ∃ g cap cur, v = .slice (some ⟨g, 0, none⟩) n cap ∧ w.heap[g]? = some (.cells cur e (0, 0)) ∧ n ≤ cap ∧ 0 < cap ∧ cap ≤ maxLen ∧ cur.size = cap * size ∧ cur.toList.take (n * size) = xs)
/-- The block that a row may be written into. -/
def bufBlock : Value → Option Nat
  | .slice (some a) _ c => if c = 0 then none else some a.block
  | _ => none
theorem Buf.kept {w w' : World} {e size : Nat} {v : Value} {n : Nat} {xs : List Value} (h : Buf w e size v n xs) (hb : ∀ k, bufBlock v = some k → w'.heap[k]? = w.heap[k]?) : Buf w' e size v n xs := by
  obtain ⟨h1, h2 | ⟨g, cap, cur, rfl, h3, h4, h5, h6⟩⟩ := h
  · exact ⟨h1, .inl h2⟩
  · exact ⟨h1, .inr ⟨g, cap, cur, rfl, (hb g (by simp [bufBlock]; omega)).trans h3, h4, h5, h6⟩⟩
theorem Buf.lt {w : World} {e size : Nat} {v : Value} {n : Nat} {xs : List Value} (h : Buf w e size v n xs) : ∀ k, bufBlock v = some k → k < w.heap.size := by
  intro k hk
  obtain ⟨h1, h2 | ⟨g, cap, cur, rfl, h3, h4, h5, h6⟩⟩ := h
  · obtain ⟨_, rfl | ⟨g, rfl⟩⟩ := h2 <;> simp [bufBlock] at hk
  · simp [bufBlock] at hk
    obtain ⟨_, rfl⟩ := hk
    exact (Array.getElem?_eq_some_iff.1 h3).1
theorem take_get {cur : Array Value} {n : Nat} {xs : List Value} (h : cur.toList.take n = xs) {j : Nat} (hj : j < n) : cur[j]? = xs[j]? := by
  rw [← h, List.getElem?_take, if_pos hj, Array.getElem?_toList]
theorem Buf.shape {w : World} {e size : Nat} {v : Value} {n : Nat} {xs : List Value} (h : Buf w e size v n xs) : ∃ p cap, v = .slice p n cap ∧ n ≤ cap ∧ cap ≤ maxLen := by
  obtain ⟨h1, ⟨rfl, rfl | ⟨g, rfl⟩⟩ | ⟨g, cap, cur, rfl, h3, h4, h5, h6, h7, h8⟩⟩ := h
  · exact ⟨_, _, rfl, by omega, by simp [maxLen]⟩
  · exact ⟨_, _, rfl, by omega, by simp [maxLen]⟩
  · exact ⟨_, _, rfl, h4, h6⟩
/-- Nothing but what is O's has turned. -/
structure Turn (O : List Nat) (w w' : World) : Prop where
  os : w'.os = w.os
  tape : w'.tape = w.tape
  output : w'.output = w.output
  size : w.heap.size ≤ w'.heap.size
  block : ∀ k, k < w.heap.size → k ∉ O → w'.heap[k]? = w.heap[k]?
theorem Turn.refl (O : List Nat) (w : World) : Turn O w w := ⟨rfl, rfl, rfl, Nat.le_refl _, fun _ _ _ => rfl⟩
theorem Turn.trans {O : List Nat} {a b c : World} (h : Turn O a b) (k : Turn O b c) : Turn O a c :=
  ⟨k.os.trans h.os, k.tape.trans h.tape, k.output.trans h.output, Nat.le_trans h.size k.size, fun i hi hn => (k.block i (Nat.lt_of_lt_of_le hi h.size) hn).trans (h.block i hi hn)⟩
/-- Two steps, the second one in what is O's, or new. -/
theorem Turn.trans' {O O' : List Nat} {a b c : World} (h : Turn O a b) (k : Turn O' b c) (hn : ∀ i ∈ O', i ∈ O ∨ a.heap.size ≤ i) : Turn O a c :=
  ⟨k.os.trans h.os, k.tape.trans h.tape, k.output.trans h.output, Nat.le_trans h.size k.size, fun i hi hno => (k.block i (Nat.lt_of_lt_of_le hi h.size) (fun hm => by rcases hn i hm with h' | h'; exact hno h'; omega)).trans (h.block i hi hno)⟩
theorem Turn.of_below {O : List Nat} {w w' : World} (h : Below w.heap.size w w') : Turn O w w' := ⟨h.os, h.tape, h.output, h.size, fun k hk _ => h.block k hk⟩
theorem Turn.mono {O O' : List Nat} {w w' : World} (h : Turn O w w') (hs : ∀ k ∈ O, k ∈ O') : Turn O' w w' := ⟨h.os, h.tape, h.output, h.size, fun k hk hn => h.block k hk fun hm => hn (hs k hm)⟩
theorem Turn.below {O : List Nat} {B : Nat} {w w' : World} (h : Turn O w w') (hB : B ≤ w.heap.size) (hO : ∀ k ∈ O, B ≤ k) : Below B w w' := ⟨h.os, h.tape, h.output, h.size, fun k hk => h.block k (by omega) fun hm => by have := hO k hm; omega⟩

theorem Turn.alloc {O : List Nat} {a w : World} (h : Turn O a w) (o : Obj) : Turn O a (w.alloc o) := h.trans (Turn.of_below ((Below.refl _ _).alloc (Nat.le_refl _) o))
theorem Turn.drew {O : List Nat} {a w : World} (h : Turn O a w) : Turn O a w.drew := ⟨h.os, h.tape, h.output, h.size, h.block⟩
theorem Turn.drewN {O : List Nat} {a w : World} (h : Turn O a w) (n : Nat) : Turn O a (w.drewN n) := ⟨h.os, h.tape, h.output, h.size, h.block⟩
theorem Turn.set {O : List Nat} {a w : World} (h : Turn O a w) {b : Nat} (hb : b ∈ O ∨ a.heap.size ≤ b) (j : Nat) (u : Value) : Turn O a (w.setCell ⟨b, j, none⟩ u) :=
  ⟨h.os, h.tape, h.output, by simpa [World.setCell] using h.size, fun k hk hn => (Below.heap_setCell _ _ _ _ (by rcases hb with hb | hb; exact fun e => hn (by rw [e]; exact hb); simp; omega)).trans (h.block k hk hn)⟩
theorem Turn.setRow {O : List Nat} {a w : World} (h : Turn O a w) {b : Nat} (hb : b ∈ O ∨ a.heap.size ≤ b) (cs : Array Value) : Turn O a (w.setRow b cs) :=
  ⟨h.os, h.tape, h.output, by simpa using h.size, fun k hk hn => (setRow_other _ _ k _ (by rcases hb with hb | hb; exact fun e => hn (by rw [e]; exact hb); omega)).trans (h.block k hk hn)⟩
theorem Turn.grown {O : List Nat} {a w w' : World} {row : Option Nat} (h : Turn O a w) (hg : w.grownBy w' row) (hr : ∀ k, row = some k → k ∈ O ∨ a.heap.size ≤ k) : Turn O a w' :=
  ⟨hg.os.trans h.os, hg.tape.trans h.tape, hg.output.trans h.output, Nat.le_trans h.size hg.size, fun k hk hn => (hg.block k (by have := h.size; omega) (fun e => by rcases hr k e.symm with h' | h'; exact hn h'; omega)).trans (h.block k hk hn)⟩
theorem run_loadVar_cell {P : Program} {w : World} {ty : TypeId} {p : Addr} {v : Value} {d : TypeDesc} (hu : P.underlying ty = some d) (hd : (match d with | .struct _ | .array _ _ => true | _ => false) = false) (hc : w.cell? p = some v) : (loadVar ty p).run P w = .ok v w := by
  have hagg : (isAgg ty).run P w = .ok false w := by
    unfold isAgg
    rw [Sem.run_bind, run_underlying hu w]
    cases d <;> simp_all
  simp [loadVar, Sem.run_bind, hagg, hc]
theorem run_storeVar_cell {P : Program} {w : World} {ty : TypeId} {p : Addr} {v u : Value} (hi : (P.info? ty).map (·.size) = some 1) (hc : w.cell? p = some u) (hf : w.frozen? p = false) (h1 : v.oneCell' = true) : (storeVar ty p v).run P w = .ok () (w.setCell p v) := by
  cases hq : P.info? ty with
  | none => simp [hq] at hi
  | some i =>
    have hs : i.size = 1 := by simpa [hq] using hi
    have hv : v.cells = #[v] := by cases v <;> simp_all [Value.cells, Value.oneCell']
    have ha : p.add 0 = p := by unfold Addr.add; split <;> simp_all
    have hst := run_store P w p v .plain h1
    rw [hc] at hst
    simp only [hf] at hst
    simpa [storeVar, sizeOf, typeInfo, hq, hs, hv, storeCells, ha] using hst
section
variable {P : Program} {w w' : World} {ops : Array Oper} {rest : List Oper} {o : Oper} {a : Act} {K : Act → World → Prop} {Q : Exit → Act → World → Prop} {E : Prop}
/-- A step of a region that draws, by its own run. -/
theorem step_run (hgd : o.guard = none) (v : Value) (hr : (execOp a.eval o).run P w = .ok (.value v) w') (h : K (a.put o.dst v) w') :
    if Region.wanted o (yielded ops a.tmps) = true then Oper.wp P o a w K Q else E := by
  have hw : Region.wanted o (yielded ops a.tmps) = true := by simp [Region.wanted, hgd]
  rw [if_pos hw]
  unfold Oper.wp
  rw [hr]
  exact h
theorem step_nov (hgd : o.guard = none) (hr : (execOp a.eval o).run P w = .ok .skip w') (h : K (a.put o.dst undef) w') :
    if Region.wanted o (yielded ops a.tmps) = true then Oper.wp P o a w K Q else E := by
  have hw : Region.wanted o (yielded ops a.tmps) = true := by simp [Region.wanted, hgd]
  rw [if_pos hw]
  unfold Oper.wp
  rw [hr]
  exact h
theorem exec_load (ty : TypeId) (x : Operand) (ho : o.op = .load ty x) (p : Addr) (hx : a.eval x = .pointer (some p)) (v : Value) (hr : (loadVar ty p).run P w = .ok v w) : (execOp a.eval o).run P w = .ok (.value v) w := by
  unfold execOp
  simp only [ho, hx, Instr.loadAt, Instr.sureAddr, Sem.run_bind, Sem.run_pure, Result.andThen_ok, hr]
theorem exec_store (ty : TypeId) (x y : Operand) (ho : o.op = .store ty x y) (p : Addr) (hx : a.eval x = .pointer (some p)) (v : Value) (hy : a.eval y = v) (hr : (storeVar ty p v).run P w = .ok () w') : (execOp a.eval o).run P w = .ok .skip w' := by
  unfold execOp
  simp only [ho, hx, hy, Instr.storeAt, Instr.sureAddr, Sem.run_bind, Sem.run_pure, Result.andThen_ok, hr]
theorem fill_one {size : Nat} (hs : 0 < size) {z v : Array Value} (hz : z.size = size) (hv : v.size = size) : Instr.fill (fun i => some (i * size, size)) z [(0, .agg v)] = some v := by
  obtain ⟨r, hr, h1, h2⟩ := Go.Great.fill_dense hs [.agg v] 0 z (by intro x hx; simp at hx; subst hx; exact hv) (by simp; omega)
  have e : (([Value.agg v].zipIdx 0).map fun x => (x.2, x.1)) = [(0, Value.agg v)] := rfl
  rw [e] at hr
  rw [hr]
  congr 1
  apply Array.ext_getElem?
  intro k
  rw [h2 k]
  by_cases hk : k < size
  · rw [if_pos (by simp; omega)]
    have e1 : k / size - 0 = 0 := by rw [Nat.div_eq_of_lt hk]
    rw [e1, Nat.mod_eq_of_lt hk]
    rfl
  · rw [if_neg (by simp; omega), Array.getElem?_eq_none (by omega), Array.getElem?_eq_none (by omega)]
/-- A slice literal of one struct. -/
theorem exec_buildSlice_one (t e : TypeId) (x : Operand) (ho : o.op = .buildSlice t 1 #[(0, x)]) (z : Value) (size bytes : Nat) (hu : P.underlying t = some (.slice e)) (hie : (P.info? e).map (fun i => (i.zero, i.size, i.bytes)) = some (some z, size, bytes)) (hs : 0 < size ∧ size ≤ 16777216) (cs : Array Value) (hx : a.eval x = .agg cs) (hc : cs.size = size) :
    (execOp a.eval o).run P w = .ok (.value (.slice (some ⟨w.heap.size, 0, none⟩) 1 1)) (w.alloc (.cells cs e)) := by
  obtain ⟨ie, h1, h2, h3, h4⟩ := info_parts hie
  unfold execOp
  simp only [ho]
  have := run_buildSlice (P := P) w t e 1 (#[(0, x)].map fun (i, y) => (i, a.eval y)) cs ie z hu h1 h2 (by rw [h3]; omega) (by rw [h3]; omega) (by
    rw [h3]
    have e1 : (#[(0, x)].map fun (i, y) => (i, a.eval y)).toList = [(0, Value.agg cs)] := by simp [hx]
    rw [e1]
    exact fill_one hs.1 (by simp) hc)
  rw [Sem.run_bind, this]
  rfl
/-- append to a row of one's own. -/
theorem run_append_buf (t ty : TypeId) (e : TypeId) (z : Value) (size bytes : Nat) (ht : P.underlying t = some (.slice e)) (hie : (P.info? e).map (fun i => (i.zero, i.size, i.bytes)) = some (some z, size, bytes)) (hzs : z.cells.size = size) (hsz : 0 < size)
    (v : Value) (n : Nat) (xs : List Value) (hb : Buf w e size v n xs) (ad : Addr) (m c : Nat) (news : List Value) (hl : news.length = m * size) (hnews : ∀ j u, news[j]? = some u → w.cell? (ad.add j) = some u) (h1 : ∀ u ∈ news, u.oneCell' = true)
    (hm : 0 < m) (h63 : n + m ≤ maxLen) (hbytes : (n + m) * bytes ≤ 140737488355328) :
    ∃ g cap w', (Builtin.append_ #[t, t] ty #[v, .slice (some ad) m c]).run P w = .ok (.slice (some ⟨g, 0, none⟩) (n + m) cap) w' ∧ Buf w' e size (.slice (some ⟨g, 0, none⟩) (n + m) cap) (n + m) (xs ++ news) ∧ w.grownBy w' (bufBlock v) ∧ n + m ≤ cap ∧ cap ≤ maxLen ∧
      (bufBlock v = some g ∨ g = w.heap.size) ∧ g < w'.heap.size := by
  obtain ⟨i, hi, hz, hs, hby⟩ := info_parts hie
  have conv : ∀ {w : World} {v : Value} {n : Nat} {xs : List Value}, 0 < n → w.ownsRow 0 e size v n xs → Buf w e size v n xs := by
    intro w v n xs hn h
    obtain ⟨a1, ⟨_, a2⟩ | ⟨g, cap, cur, rfl, b1, b2, b3, b4, b5, b6⟩⟩ := h
    · omega
    · exact ⟨a1, .inr ⟨g, cap, cur, rfl, b2, b3, by omega, b4, b5, b6⟩⟩
  obtain ⟨q1, ⟨rfl, rfl | ⟨g0, rfl⟩⟩ | ⟨g, cap, cur, rfl, b2, b3, b4, b5, b6, b7⟩⟩ := hb
  · obtain rfl : xs = [] := List.eq_nil_of_length_eq_zero (by simpa using q1)
    obtain ⟨g, cap, w', hr, h2, h3, h4, h5⟩ := run_append_lies (P := P) w t ty 0 e i z size bytes ht hi hz hs hby hzs hsz (.slice none 0 0) 0 [] (World.ownsRow_nil w 0 e size) ad m c news hl hnews h1 hm h63 hbytes (Nat.zero_le _) _ rfl
    have hB := conv (by omega) h2
    obtain ⟨p, c', hv, hc1, hc2⟩ := hB.shape
    simp at hv
    refine ⟨g, cap, w', hr, hB, by simpa [bufBlock, Value.ownBlock] using h3, by omega, by omega, .inr ?_, h5⟩
    rcases h4 with h4 | h4
    · simp [Value.ownBlock] at h4
    · exact h4
  · obtain rfl : xs = [] := List.eq_nil_of_length_eq_zero (by simpa using q1)
    have hr := run_append_grow (P := P) w t ty e i z ht hi hz ⟨g0, 0, none⟩ 0 0 [] (by simp) (by simp) ad m c news (by rw [hs]; exact hl) hnews (by omega) (by simp only [maxLen] at h63; omega) (by rw [hby]; exact growslice_fits (by omega) hbytes)
    have hge := grownCap_ge w (0 + m) 0 e
    have hcm := grownCap_le_maxLen w (0 + m) 0 e h63
    refine ⟨_, _, _, hr, ⟨by simp [hl], .inr ⟨w.heap.size, _, _, rfl, heap_alloc_new w.drew _, hge, by omega, hcm, ?_, ?_⟩⟩, ⟨rfl, rfl, rfl, by simp, fun k hk _ => Below.heap_alloc w.drew _ k hk⟩, hge, hcm, .inr rfl, by simp⟩
    · simp only [Array.size_append, List.size_toArray, size_zeroCells, hzs, hl, List.length_nil]
      rw [Nat.zero_add, ← Nat.add_mul]
      congr 1
      omega
    · have e : (0 + m) * size = news.length := by rw [hl, Nat.zero_add]
      rw [e]
      simp
  · obtain ⟨g', cap', w', hr, h2, h3, h4, h5⟩ := run_append_lies (P := P) w t ty 0 e i z size bytes ht hi hz hs hby hzs hsz (.slice (some ⟨g, 0, none⟩) n cap) n xs ⟨q1, .inr ⟨g, cap, cur, rfl, Nat.zero_le _, b2, b3, b5, b6, b7⟩⟩ ad m c news hl hnews h1 hm h63 hbytes (Nat.zero_le _) _ rfl
    have hB := conv (by omega) h2
    obtain ⟨p, c', hv, hc1, hc2⟩ := hB.shape
    simp at hv
    have eb : bufBlock (.slice (some ⟨g, 0, none⟩) n cap) = some g := by simp [bufBlock]; omega
    refine ⟨g', cap', w', hr, hB, by rw [eb]; exact h3, by omega, by omega, ?_, h5⟩
    rw [eb]
    simpa [Value.ownBlock] using h4
theorem exec_append_buf (s x : Operand) (t : TypeId) (ho : o.op = .call { callee := .builtin .append, args := #[s, x], argTypes := #[t, t] })
    (e : TypeId) (z : Value) (size bytes : Nat) (ht : P.underlying t = some (.slice e)) (hie : (P.info? e).map (fun i => (i.zero, i.size, i.bytes)) = some (some z, size, bytes)) (hzs : z.cells.size = size) (hsz : 0 < size)
    (v : Value) (n : Nat) (xs : List Value) (hs : a.eval s = v) (hb : Buf w e size v n xs) (ad : Addr) (m c : Nat) (hx : a.eval x = .slice (some ad) m c) (news : List Value) (hl : news.length = m * size) (hnews : ∀ j u, news[j]? = some u → w.cell? (ad.add j) = some u) (h1 : ∀ u ∈ news, u.oneCell' = true)
    (hm : 0 < m) (h63 : n + m ≤ maxLen) (hbytes : (n + m) * bytes ≤ 140737488355328) :
    ∃ g cap w', (execOp a.eval o).run P w = .ok (.value (.slice (some ⟨g, 0, none⟩) (n + m) cap)) w' ∧ Buf w' e size (.slice (some ⟨g, 0, none⟩) (n + m) cap) (n + m) (xs ++ news) ∧ w.grownBy w' (bufBlock v) ∧ n + m ≤ cap ∧ cap ≤ maxLen ∧
      (bufBlock v = some g ∨ g = w.heap.size) ∧ g < w'.heap.size := by
  obtain ⟨g, cap, w', hr, rest⟩ := run_append_buf (P := P) (w := w) t o.type e z size bytes ht hie hzs hsz v n xs hb ad m c news hl hnews h1 hm h63 hbytes
  refine ⟨g, cap, w', ?_, rest⟩
  unfold execOp
  simp only [ho, resolve, invoke, builtin, Sem.run_bind, Sem.run_pure, Result.andThen_ok, List.map_toArray, List.map_cons, List.map_nil, hs, hx, hr]
theorem step_append_buf (hgd : o.guard = none) (s x : Operand) (t : TypeId) (ho : o.op = .call { callee := .builtin .append, args := #[s, x], argTypes := #[t, t] })
    (e : TypeId) (z : Value) (size bytes : Nat) (ht : P.underlying t = some (.slice e)) (hie : (P.info? e).map (fun i => (i.zero, i.size, i.bytes)) = some (some z, size, bytes)) (hzs : z.cells.size = size) (hsz : 0 < size)
    (v : Value) (n : Nat) (xs : List Value) (hs : a.eval s = v) (hb : Buf w e size v n xs) (ad : Addr) (m c : Nat) (hx : a.eval x = .slice (some ad) m c) (news : List Value) (hl : news.length = m * size) (hnews : ∀ j u, news[j]? = some u → w.cell? (ad.add j) = some u) (h1 : ∀ u ∈ news, u.oneCell' = true)
    (hm : 0 < m) (h63 : n + m ≤ maxLen) (hbytes : (n + m) * bytes ≤ 140737488355328)
    (h : ∀ g cap w', Buf w' e size (.slice (some ⟨g, 0, none⟩) (n + m) cap) (n + m) (xs ++ news) → w.grownBy w' (bufBlock v) → n + m ≤ cap → cap ≤ maxLen → (bufBlock v = some g ∨ g = w.heap.size) → g < w'.heap.size → K (a.put o.dst (.slice (some ⟨g, 0, none⟩) (n + m) cap)) w') :
    if Region.wanted o (yielded ops a.tmps) = true then Oper.wp P o a w K Q else E := by
  obtain ⟨g, cap, w', hr, h2, h3, h4, h5, h6, h7⟩ := exec_append_buf (P := P) (w := w) (o := o) (a := a) s x t ho e z size bytes ht hie hzs hsz v n xs hs hb ad m c hx news hl hnews h1 hm h63 hbytes
  exact step_run hgd _ hr (h g cap w' h2 h3 h4 h5 h6 h7)
theorem wpList_append_buf (hgd : o.guard = none) (s x : Operand) (t : TypeId) (ho : o.op = .call { callee := .builtin .append, args := #[s, x], argTypes := #[t, t] })
    (e : TypeId) (z : Value) (size bytes : Nat) (ht : P.underlying t = some (.slice e)) (hie : (P.info? e).map (fun i => (i.zero, i.size, i.bytes)) = some (some z, size, bytes)) (hzs : z.cells.size = size) (hsz : 0 < size)
    (v : Value) (n : Nat) (xs : List Value) (hs : a.eval s = v) (hb : Buf w e size v n xs) (ad : Addr) (m c : Nat) (hx : a.eval x = .slice (some ad) m c) (news : List Value) (hl : news.length = m * size) (hnews : ∀ j u, news[j]? = some u → w.cell? (ad.add j) = some u) (h1 : ∀ u ∈ news, u.oneCell' = true)
    (hm : 0 < m) (h63 : n + m ≤ maxLen) (hbytes : (n + m) * bytes ≤ 140737488355328)
    (h : ∀ g cap w', Buf w' e size (.slice (some ⟨g, 0, none⟩) (n + m) cap) (n + m) (xs ++ news) → w.grownBy w' (bufBlock v) → n + m ≤ cap → cap ≤ maxLen → (bufBlock v = some g ∨ g = w.heap.size) → g < w'.heap.size → wpList P ops Q rest (a.put o.dst (.slice (some ⟨g, 0, none⟩) (n + m) cap)) w') :
    wpList P ops Q (o :: rest) a w := by
  obtain ⟨g, cap, w', hr, h2, h3, h4, h5, h6, h7⟩ := exec_append_buf (P := P) (w := w) (o := o) (a := a) s x t ho e z size bytes ht hie hzs hsz v n xs hs hb ad m c hx news hl hnews h1 hm h63 hbytes
  exact wpList_plain hgd fun _ hK => by
    unfold Oper.wp
    rw [hr]
    exact hK _ _ (h g cap w' h2 h3 h4 h5 h6 h7)
theorem exec_alloc (t : TypeId) (ho : o.op = .alloc t) (cs : Array Value) (hz : (zeroValue t).run P w = .ok (.agg cs) w) : (execOp a.eval o).run P w = .ok (.value (.pointer (some ⟨w.heap.size, 0, none⟩))) (w.alloc (.cells cs t)) := by
  unfold execOp
  simp [ho, Instr.alloc, newVar, newRow, hz, Value.cells]
theorem exec_copy (x y : Operand) (t e : TypeId) (ho : o.op = .call { callee := .builtin .copy, args := #[x, y], argTypes := #[t, t] }) (ht : P.underlying t = some (.slice e)) (hs : (P.info? e).map (·.size) = some 1) {g o' n c b o2 n2 c2 : Nat} (hx : a.eval x = .slice (some ⟨g, o', none⟩) n c) (hy : a.eval y = .slice (some ⟨b, o2, none⟩) n2 c2)
    {t' : TypeId} {cur : Array Value} (hg : w.heap[g]? = some (.cells cur t' (0, 0))) (cs : List Value) (hn : cs.length = Nat.min n2 n) (hsrc : ∀ j v, cs[j]? = some v → w.cell? ⟨b, o2 + j, none⟩ = some v) (hfit : o' + cs.length ≤ cur.size) (h1 : ∀ v ∈ cs, v.oneCell' = true) :
    (execOp a.eval o).run P w = .ok (.value (goInt cs.length)) (w.setRow g (cur.toList.take o' ++ cs ++ cur.toList.drop (o' + cs.length)).toArray) := by
  have := run_copy_row (P := P) w t t o.type e g o' n c ⟨b, o2, none⟩ n2 c2 cur t' cs ht hs hg hn (fun j v hv => by
    have hadd : (⟨b, o2, none⟩ : Addr).add j = ⟨b, o2 + j, none⟩ := by unfold Addr.add; split <;> simp_all
    rw [hadd]
    exact hsrc j v hv) hfit h1
  unfold execOp
  simp only [ho, resolve, invoke, builtin, Sem.run_bind, Sem.run_pure, Result.andThen_ok, List.map_toArray, List.map_cons, List.map_nil, hx, hy, this]
/-- One of a drawn region's reads, by its own run. -/
theorem still_run {R : Act → Prop} (hgd : o.guard = none) (v : Value) (hr : (execOp a.eval o).run P w = .ok (.value v) w) (h : wpStill P ops w R rest (a.put o.dst v)) : wpStill P ops w R (o :: rest) a := by
  refine wpStill_step fun K hK => ?_
  rw [if_pos (by simp [Region.wanted, hgd])]
  unfold Oper.still
  rw [hr]
  exact ⟨rfl, hK _ h⟩
theorem wpList_run (hgd : o.guard = none) (v : Value) (hr : (execOp a.eval o).run P w = .ok (.value v) w') (h : wpList P ops Q rest (a.put o.dst v) w') : wpList P ops Q (o :: rest) a w :=
  wpList_plain hgd fun _ hK => by
    unfold Oper.wp
    rw [hr]
    exact hK _ _ h
theorem wpList_nov (hgd : o.guard = none) (hr : (execOp a.eval o).run P w = .ok .skip w') (h : wpList P ops Q rest (a.put o.dst undef) w') : wpList P ops Q (o :: rest) a w :=
  wpList_plain hgd fun _ hK => by
    unfold Oper.wp
    rw [hr]
    exact hK _ _ h
theorem exec_mapUpdate (t : TypeId) (m k x : Operand) (ho : o.op = .mapUpdate t m k x) (M V X : Value) (hm : a.eval m = M) (hk : a.eval k = V) (hx : a.eval x = X) (hr : (Instr.mapUpdate t M V X).run P w = .ok () w') : (execOp a.eval o).run P w = .ok .skip w' := by
  unfold execOp
  simp only [ho, hm, hk, hx, Sem.run_bind, hr, Result.andThen_ok, Sem.run_pure]
theorem exec_lookup (t : TypeId) (m k : Operand) (c : Bool) (ho : o.op = .lookup t m k c) (M V X : Value) (hm : a.eval m = M) (hk : a.eval k = V) (hr : (Instr.lookup t M V c).run P w = .ok X w') : (execOp a.eval o).run P w = .ok (.value X) w' := by
  unfold execOp
  simp only [ho, hm, hk, Sem.run_bind, hr, Result.andThen_ok, Sem.run_pure]
/-- A region that draws its order, all but the last operations of which read: by these in the text's order. -/
theorem wp_region_tail {id : Nat} {l : List Oper} (n : Nat) (hm : P.follows .mixedOrders = true) (hB : Region.lexTailB .any l.toArray n = true)
    (h : wpStill P l.toArray w.drew (fun a' => wpList P l.toArray Q (l.drop n) a' w.drew) (l.take n) a) : (Code.region id l.toArray true).wp P Q a w := wp_region_still_tail n hm hB h
/-- Cells stored into the middle of a row. -/
theorem run_storeVar_mid' {ty : TypeId} {g o' n : Nat} {t : TypeId} {cur cs : Array Value} (hg : w.heap[g]? = some (.cells cur t (0, 0))) (hi : (P.info? ty).map (·.size) = some n) (hn : cs.size = n) (hfit : o' + n ≤ cur.size) (h1 : cs.all (·.oneCell') = true) :
    (storeVar ty ⟨g, o', none⟩ (.agg cs)).run P w = .ok () (w.setRow g (cur.toList.take o' ++ cs.toList ++ cur.toList.drop (o' + n)).toArray) := by
  have := run_storeCells_at P g o' t cs.toList 0 cur w hg (by simp; omega) (fun v hv => (Array.all_eq_true_iff_forall_mem.1 h1) v (by simpa using hv))
  cases hq : P.info? ty with
  | none => simp [hq] at hi
  | some i =>
    have hs : i.size = n := by simpa [hq] using hi
    simp only [Nat.add_zero, Array.length_toList, hn] at this
    simp [storeVar, sizeOf, typeInfo, hq, Value.cells, hs, hn, this]
theorem exec_clear (x : Operand) (t e : TypeId) (ho : o.op = .call { callee := .builtin .clear, args := #[x], argTypes := #[t] }) {g o' n c : Nat} (hx : a.eval x = .slice (some ⟨g, o', none⟩) n c) (hn : 0 < n) (ht : P.underlying t = some (.slice e)) (z : Value) (size : Nat) (hz : (zeroValue e).run P w = .ok z w) (hzs : z.cells.size = size) (h1 : ∀ v ∈ (Builtin.zeroCells z.cells n).toList, v.oneCell' = true)
    {t' : TypeId} {cur : Array Value} (hg : w.heap[g]? = some (.cells cur t' (0, 0))) (hfit : o' + n * size ≤ cur.size) :
    (execOp a.eval o).run P w = .ok (.value (.tuple #[])) (w.setRow g (cur.toList.take o' ++ (Builtin.zeroCells z.cells n).toList ++ cur.toList.drop (o' + n * size)).toArray) := by
  have hsz : (Builtin.zeroCells z.cells n).toList.length = n * size := by rw [Array.length_toList, size_zeroCells, hzs]
  have := run_storeCells_at P g o' t' (Builtin.zeroCells z.cells n).toList 0 cur w hg (by rw [hsz]; simpa using hfit) h1
  rw [hsz] at this
  simp only [Nat.add_zero] at this
  obtain ⟨k, rfl⟩ : ∃ k, n = k + 1 := ⟨n - 1, by omega⟩
  unfold execOp
  simp [ho, resolve, invoke, builtin, Builtin.clear_, run_underlying ht, hx, hz, this]
end
end Go.Proofs.YtjndfmpicnkplaaDoor.buf
