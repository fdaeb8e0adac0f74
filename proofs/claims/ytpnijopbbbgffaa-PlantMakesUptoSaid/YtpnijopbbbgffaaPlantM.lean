/- Layer 3: how sectors, writes that wait and rows of them lie in memory. Conditions: as each theorem says. -/
import Derived.Test.YtpnijopbbbgffaaPlantW
import Derived.Test.YtpnijopbbbgffaaPlantP
import Derived.Deep.WholeRow
import Derived.Laws.CopyOwn
import Derived.Test.YtpnijopbbbgffaaMapFn
import Derived.Test.YtpnijopbbbgffaaBuf
namespace Go.Proofs.Ytpnijopbbbgffaa.plantw
open Go.RowKit
open Go.Proofs.Ytpnijopbbbgffaa.plantp
open Go.Proofs.Ytpnijopbbbgffaa.buf

def u8v (c : UInt8) : Value := .int .u8 c.toNat
/-- A sector's cells. -/
def secA (l : Sec) : Array Value := (l.map u8v).toArray
/-- A waiting write's cells. -/
def wtL (x : Wt) : List Value := .int .i64 x.dev :: .int .i64 x.place :: x.b.map u8v
def wtA (x : Wt) : Array Value := (wtL x).toArray
theorem secA_size (l : Sec) : (secA l).size = l.length := by simp [secA]
theorem wtL_len (x : Wt) (h : x.b.length = 64) : (wtL x).length = 66 := by simp [wtL, h]
theorem wtA_size (x : Wt) (h : x.b.length = 64) : (wtA x).size = 66 := by simp [wtA, wtL, h]
theorem secA_one (l : Sec) : (secA l).all (·.oneCell') = true := by
  rw [Array.all_eq_true_iff_forall_mem]
  intro v hv
  simp [secA] at hv
  obtain ⟨c, _, rfl⟩ := hv
  rfl
theorem wtA_one (x : Wt) : (wtA x).all (·.oneCell') = true := by
  rw [Array.all_eq_true_iff_forall_mem]
  intro v hv
  simp [wtA, wtL] at hv
  rcases hv with rfl | rfl | ⟨c, _, rfl⟩ <;> rfl
theorem u8v_inj {a b : UInt8} (h : u8v a = u8v b) : a = b := by
  simp [u8v] at h
  exact UInt8.toNat_inj.1 (by omega)
theorem secA_inj {a b : Sec} (h : secA a = secA b) : a = b := by
  have h' : a.map u8v = b.map u8v := by simpa [secA] using h
  exact List.map_inj_right (fun _ _ => u8v_inj) |>.1 h'
theorem info70 : (Try.prog.info? 70).map (·.size) = some 64 := by kernel_rfl
theorem info72 : (Try.prog.info? 72).map (·.size) = some 66 := by kernel_rfl
theorem store70_new {w : World} (c : Array Value) (hc : c.size = 64) (h1 : c.all (·.oneCell') = true) : (storeCells ⟨w.heap.size, 0, none⟩ c.toList 0).run Try.prog (w.alloc (.cells #[.int .u8 0, .int .u8 0, .int .u8 0, .int .u8 0, .int .u8 0, .int .u8 0, .int .u8 0, .int .u8 0, .int .u8 0, .int .u8 0, .int .u8 0, .int .u8 0, .int .u8 0, .int .u8 0, .int .u8 0, .int .u8 0, .int .u8 0, .int .u8 0, .int .u8 0, .int .u8 0, .int .u8 0, .int .u8 0, .int .u8 0, .int .u8 0, .int .u8 0, .int .u8 0, .int .u8 0, .int .u8 0, .int .u8 0, .int .u8 0, .int .u8 0, .int .u8 0, .int .u8 0, .int .u8 0, .int .u8 0, .int .u8 0, .int .u8 0, .int .u8 0, .int .u8 0, .int .u8 0, .int .u8 0, .int .u8 0, .int .u8 0, .int .u8 0, .int .u8 0, .int .u8 0, .int .u8 0, .int .u8 0, .int .u8 0, .int .u8 0, .int .u8 0, .int .u8 0, .int .u8 0, .int .u8 0, .int .u8 0, .int .u8 0, .int .u8 0, .int .u8 0, .int .u8 0, .int .u8 0, .int .u8 0, .int .u8 0, .int .u8 0, .int .u8 0] 70)) = .ok () (w.alloc (.cells c 70)) :=
  run_storeCells_new (P := Try.prog) w _ _ c (by rw [hc]; exact info70) (by rw [hc]; rfl) h1
def zb64 : Array Value := #[.int .u8 0, .int .u8 0, .int .u8 0, .int .u8 0, .int .u8 0, .int .u8 0, .int .u8 0, .int .u8 0, .int .u8 0, .int .u8 0, .int .u8 0, .int .u8 0, .int .u8 0, .int .u8 0, .int .u8 0, .int .u8 0, .int .u8 0, .int .u8 0, .int .u8 0, .int .u8 0, .int .u8 0, .int .u8 0, .int .u8 0, .int .u8 0, .int .u8 0, .int .u8 0, .int .u8 0, .int .u8 0, .int .u8 0, .int .u8 0, .int .u8 0, .int .u8 0, .int .u8 0, .int .u8 0, .int .u8 0, .int .u8 0, .int .u8 0, .int .u8 0, .int .u8 0, .int .u8 0, .int .u8 0, .int .u8 0, .int .u8 0, .int .u8 0, .int .u8 0, .int .u8 0, .int .u8 0, .int .u8 0, .int .u8 0, .int .u8 0, .int .u8 0, .int .u8 0, .int .u8 0, .int .u8 0, .int .u8 0, .int .u8 0, .int .u8 0, .int .u8 0, .int .u8 0, .int .u8 0, .int .u8 0, .int .u8 0, .int .u8 0, .int .u8 0]
theorem make64 (w : World) : (Instr.makeSlice 22 (.int .i64 64) (.int .i64 64)).run Try.prog w = .ok (.slice (some ⟨w.heap.size, 0, none⟩) 64 64) (w.alloc (.cells zb64 5)) := by kernel_rfl
/-- 64 cells copied over a whole row of 64. -/
theorem copy64 {w : World} {g b : Nat} {c : Array Value} {t : TypeId} {s : Sec} (hg : w.heap[g]? = some (.cells c t (0, 0))) (hc : c.size = 64) (hs : s.length = 64) (hb : ∀ j v, (secA s)[j]? = some v → w.cell? ⟨b, j, none⟩ = some v) (gc bc : Nat) :
    (Builtin.copy_ #[22, 22] 3 #[.slice (some ⟨g, 0, none⟩) 64 gc, .slice (some ⟨b, 0, none⟩) 64 bc]).run Try.prog w = .ok (.int .i64 64) (w.setRow g (secA s)) := by
  have := run_copy_row (P := Try.prog) w 22 22 3 5 g 0 64 gc ⟨b, 0, none⟩ 64 bc c t (secA s).toList Try.underlying22 (by kernel_rfl) hg (by simp [secA, hs]) (fun j v hv => by
    have hadd : (⟨b, 0, none⟩ : Addr).add j = ⟨b, j, none⟩ := by unfold Addr.add; split <;> simp_all
    rw [hadd]
    exact hb j v (by simpa using hv)) (by simp [secA, hs, hc]) (fun v hv => (Array.all_eq_true_iff_forall_mem.1 (secA_one s)) v (by simpa using hv))
  rw [this]
  have e : ((secA s).toList).length = 64 := by simp [secA, hs]
  congr 1
  · rw [e]; rfl
  · congr 1
    apply Array.ext'
    simp [e, hc]
def z66 : Array Value := #[.int .i64 0, .int .i64 0, .int .u8 0, .int .u8 0, .int .u8 0, .int .u8 0, .int .u8 0, .int .u8 0, .int .u8 0, .int .u8 0, .int .u8 0, .int .u8 0, .int .u8 0, .int .u8 0, .int .u8 0, .int .u8 0, .int .u8 0, .int .u8 0, .int .u8 0, .int .u8 0, .int .u8 0, .int .u8 0, .int .u8 0, .int .u8 0, .int .u8 0, .int .u8 0, .int .u8 0, .int .u8 0, .int .u8 0, .int .u8 0, .int .u8 0, .int .u8 0, .int .u8 0, .int .u8 0, .int .u8 0, .int .u8 0, .int .u8 0, .int .u8 0, .int .u8 0, .int .u8 0, .int .u8 0, .int .u8 0, .int .u8 0, .int .u8 0, .int .u8 0, .int .u8 0, .int .u8 0, .int .u8 0, .int .u8 0, .int .u8 0, .int .u8 0, .int .u8 0, .int .u8 0, .int .u8 0, .int .u8 0, .int .u8 0, .int .u8 0, .int .u8 0, .int .u8 0, .int .u8 0, .int .u8 0, .int .u8 0, .int .u8 0, .int .u8 0, .int .u8 0, .int .u8 0]
theorem zero72 (w : World) : (zeroValue 72).run Try.prog w = .ok (.agg z66) w := (zero_of_info (P := Try.prog) (t := 72) (v := .agg z66) (n := 66) (by kernel_rfl)).1 w
theorem store72_new {w : World} (c : Array Value) (hc : c.size = 66) (h1 : c.all (·.oneCell') = true) : (storeCells ⟨w.heap.size, 0, none⟩ c.toList 0).run Try.prog (w.alloc (.cells z66 72)) = .ok () (w.alloc (.cells c 72)) :=
  run_storeCells_new (P := Try.prog) w _ _ c (by rw [hc]; exact info72) (by rw [hc]; rfl) h1
/-- Where a write's fields lie. -/
theorem wt_cells {w : World} {g : Nat} {x : Wt} {t : TypeId} {fr : Nat × Nat} (h : w.heap[g]? = some (.cells (wtA x) t fr)) (hx : x.b.length = 64) :
    w.cell? ⟨g, 0, none⟩ = some (.int .i64 x.dev) ∧ w.cell? ⟨g, 1, none⟩ = some (.int .i64 x.place) ∧ (loadVar 70 ⟨g, 2, none⟩).run Try.prog w = .ok (.agg (secA x.b)) w := by
  refine ⟨by rw [cells_at h]; rfl, by rw [cells_at h]; rfl, ?_⟩
  refine run_loadVar_from (n := 64) Try.underlying70 rfl info70 (by rw [secA_size, hx]) fun j v hv => ?_
  rw [cells_at h]
  simp [wtA, wtL, secA] at hv ⊢
  rw [show 2 + j = j + 1 + 1 by omega]
  simpa using hv
theorem flat_len : ∀ (l : List Wt), (∀ x ∈ l, x.b.length = 64) → (l.flatMap wtL).length = l.length * 66
  | [], _ => rfl
  | x :: l, h => by
    rw [List.flatMap_cons, List.length_append, wtL_len x (h x (by simp)), flat_len l (fun y hy => h y (by simp [hy])), List.length_cons]
    omega
theorem flat_at : ∀ (l : List Wt), (∀ x ∈ l, x.b.length = 64) → ∀ j (hj : j < l.length) o, o < 66 → (l.flatMap wtL)[j * 66 + o]? = (wtL l[j])[o]?
  | [], _, j, hj, _, _ => by simp at hj
  | x :: l, h, 0, _, o, ho => by
    rw [List.flatMap_cons, List.getElem?_append_left (by rw [wtL_len x (h x (by simp))]; omega)]
    simp
  | x :: l, h, j + 1, hj, o, ho => by
    rw [List.flatMap_cons, List.getElem?_append_right (by rw [wtL_len x (h x (by simp))]; omega), wtL_len x (h x (by simp)), show (j + 1) * 66 + o - 66 = j * 66 + o by omega]
    exact flat_at l (fun y hy => h y (by simp [hy])) j (by simpa using hj) o ho
theorem flat_take : ∀ (l : List Wt), (∀ x ∈ l, x.b.length = 64) → ∀ i, (l.flatMap wtL).take (i * 66) = (l.take i).flatMap wtL
  | [], _, i => by simp
  | x :: l, _, 0 => by simp
  | x :: l, h, i + 1 => by
    have hx := wtL_len x (h x (by simp))
    rw [List.take_succ_cons, List.flatMap_cons, List.flatMap_cons, ← flat_take l (fun y hy => h y (by simp [hy])) i, List.take_append, hx, List.take_of_length_le (by omega), show (i + 1) * 66 - 66 = i * 66 by omega]
theorem flat_drop : ∀ (l : List Wt), (∀ x ∈ l, x.b.length = 64) → ∀ i, (l.flatMap wtL).drop (i * 66) = (l.drop i).flatMap wtL
  | [], _, i => by simp
  | x :: l, _, 0 => by simp
  | x :: l, h, i + 1 => by
    have hx := wtL_len x (h x (by simp))
    rw [List.drop_succ_cons, List.flatMap_cons, ← flat_drop l (fun y hy => h y (by simp [hy])) i, List.drop_append, hx, List.drop_of_length_le (by omega), show (i + 1) * 66 - 66 = i * 66 by omega]
    rfl
theorem flat_set (l : List Wt) (h : ∀ x ∈ l, x.b.length = 64) (i : Nat) (hi : i < l.length) (x : Wt) : (l.set i x).flatMap wtL = (l.flatMap wtL).take (i * 66) ++ wtL x ++ (l.flatMap wtL).drop (i * 66 + 66) := by
  rw [flat_take l h, show i * 66 + 66 = (i + 1) * 66 by omega, flat_drop l h, List.set_eq_take_append_cons_drop, if_pos hi]
  simp
/-- One write stored into a row of writes. -/
theorem Buf.store {w : World} {v : Value} {l : List Wt} (h : Buf w 72 66 v l.length (l.flatMap wtL)) (hl : ∀ x ∈ l, x.b.length = 64) (i : Nat) (hi : i < l.length) (x : Wt) (hx : x.b.length = 64) :
    ∃ wk cap C, v = .slice (some ⟨wk, 0, none⟩) l.length cap ∧ bufBlock v = some wk ∧ (storeVar 72 ⟨wk, i * 66, none⟩ (.agg (wtA x))).run Try.prog w = .ok () (w.setRow wk C) ∧
      Buf (w.setRow wk C) 72 66 v l.length ((l.set i x).flatMap wtL) := by
  obtain ⟨h1, ⟨h2, _⟩ | ⟨g, cap, cur, rfl, h3, h4, h5, h6, h7, h8⟩⟩ := h
  · omega
  · have hcl : cur.toList.length = cap * 66 := by rw [Array.length_toList, h7]
    refine ⟨g, cap, _, rfl, by simp [bufBlock]; omega, run_storeVar_mid' (n := 66) h3 info72 (wtA_size x hx) (by omega) (wtA_one x), ?_, .inr ⟨g, cap, _, rfl, setRow_block h3, h4, h5, h6, ?_, ?_⟩⟩
    · rw [flat_len _ (fun y hy => by rcases List.mem_or_eq_of_mem_set hy with hy | rfl; exact hl y hy; exact hx), List.length_set]
    · simp [wtA, wtL_len x hx]
      omega
    · rw [flat_set l hl i hi x, ← h8]
      have hw : (wtA x).toList = wtL x := by simp [wtA]
      rw [List.toList_toArray, hw, List.append_assoc, List.take_append, List.length_take, List.take_take, List.take_append, wtL_len x hx, List.take_take, List.drop_take, List.append_assoc]
      congr 1
      · congr 1; omega
      · congr 1
        · rw [List.take_of_length_le (by rw [wtL_len x hx]; omega)]
        · congr 1; omega
/-- A row of writes cut short, behind whatever was written behind. -/
theorem Buf.cut {w : World} {wk cap : Nat} {l : List Wt} {cur C : Array Value} (hl : ∀ x ∈ l, x.b.length = 64) (i : Nat) (hi : i ≤ l.length) (h3 : w.heap[wk]? = some (.cells C 72 (0, 0))) (h4 : l.length ≤ cap) (h5 : 0 < cap) (h6 : cap ≤ maxLen) (h7 : C.size = cap * 66) (h8 : cur.toList.take (l.length * 66) = l.flatMap wtL) (hC : C.toList.take (i * 66) = cur.toList.take (i * 66)) :
    Buf w 72 66 (.slice (some ⟨wk, 0, none⟩) i cap) i ((l.take i).flatMap wtL) := by
  refine ⟨by rw [flat_len _ (fun x hx => hl x (List.mem_of_mem_take hx)), List.length_take]; congr 1; omega, .inr ⟨wk, cap, C, rfl, h3, by omega, h5, h6, h7, ?_⟩⟩
  rw [hC, ← flat_take l hl i, ← h8, List.take_take]
  congr 1
  omega
/-- One write out of a row of writes. -/
theorem Buf.load {w : World} {v : Value} {l : List Wt} (h : Buf w 72 66 v l.length (l.flatMap wtL)) (hl : ∀ x ∈ l, x.b.length = 64) (j : Nat) (hj : j < l.length) :
    ∃ wk cap, v = .slice (some ⟨wk, 0, none⟩) l.length cap ∧ bufBlock v = some wk ∧ l.length ≤ cap ∧ cap ≤ maxLen ∧ (loadVar 72 ⟨wk, j * 66, none⟩).run Try.prog w = .ok (.agg (wtA l[j])) w := by
  obtain ⟨h1, ⟨h2, _⟩ | ⟨g, cap, cur, rfl, h3, h4, h5, h6, h7, h8⟩⟩ := h
  · omega
  · refine ⟨g, cap, rfl, by simp [bufBlock]; omega, h4, h6, ?_⟩
    refine run_loadVar_from (n := 66) Try.underlying72 rfl info72 (wtA_size _ (hl _ (by simp))) fun o v hv => ?_
    have ho : o < 66 := by
      have := (Array.getElem?_eq_some_iff.1 hv).1
      rwa [wtA_size _ (hl _ (by simp))] at this
    rw [cells_at h3, take_get h8 (by omega), flat_at l hl j hj o ho]
    simpa [wtA] using hv
open Go.Proofs.Ytpnijopbbbgffaa.mapfn
/-- Sectors as a map's elements. -/
noncomputable def secE : El Sec where
  enc l := .agg (secA l)
  dat l := .agg (l.map fun c => .lit (.int .u8 c.toNat))
  enc_inj x y h := secA_inj (by simpa using h)
  dat_inj x y h := by
    have h' : x.map (fun c => (DataW.lit (.int .u8 c.toNat) : DataW Unit)) = y.map (fun c => DataW.lit (.int .u8 c.toNat)) := by simpa using h
    refine List.map_inj_right (fun a b hab => ?_) |>.1 h'
    simp at hab
    exact UInt8.toNat_inj.1 (by omega)
/-- A plant of the code: its blocks are those of O, and its own. -/
structure IsP (w : World) (g : Nat) (p : PS) (O : List Nat) : Prop where
  ok : p.Ok
  body : ∃ (dk cd : Nat) (D : Array Value) (v1 : Value) (ms : List Nat),
    Blk w g (.slice (some ⟨dk, 0, none⟩) p.most.length cd) v1 p.off p.fuse p.steps ∧ p.most.length ≤ cd ∧ cd ≤ maxLen ∧
    w.heap[dk]? = some (.cells D 67 (0, 0)) ∧ D.size = cd * 2 ∧ ms.length = p.most.length ∧
    (∀ i (h : i < p.most.length) (h' : i < ms.length), D[i * 2]? = some (.int .i64 p.most[i]) ∧ D[i * 2 + 1]? = some (.map (some ms[i])) ∧
      ∃ s f, MapFn secE Try.prog 3 w ms[i] s f ∧ (s : Int) + p.waits.length ≤ p.steps ∧ ∀ k : Nat, k < p.most[i] → (f (.int .i64 k)).getD zeroS = p.has i k) ∧
    Buf w 72 66 v1 p.waits.length (p.waits.flatMap wtL) ∧
    O = g :: dk :: ((bufBlock v1).toList ++ ms) ∧ O.Nodup
theorem Turn.of_touch {b : Nat} {O : List Nat} {w w' : World} (h : Touch b w w') (hb : b ∈ O) : Turn O w w' := ⟨h.os, h.tape, h.output, h.size, fun k hk hn => h.block k hk fun e => hn (e ▸ hb)⟩
theorem Blk.kept {w w' : World} {g : Nat} {v0 v1 : Value} {off : Bool} {fuse steps : Int} (h : Blk w g v0 v1 off fuse steps) (hb : w'.heap[g]? = w.heap[g]?) : Blk w' g v0 v1 off fuse steps := hb.trans h
/-- A plant is as it was, while its own blocks are left alone. -/
theorem IsP.keep {w w' : World} {g : Nat} {p : PS} {O : List Nat} (h : IsP w g p O) (hk : ∀ k ∈ O, w'.heap[k]? = w.heap[k]?) : IsP w' g p O := by
  obtain ⟨hok, dk, cd, D, v1, ms, h1, h2, h3, h4, h5, h6, h7, h8, rfl, h10⟩ := h
  refine ⟨hok, dk, cd, D, v1, ms, h1.kept (hk g (by simp)), h2, h3, (hk dk (by simp)).trans h4, h5, h6, fun i hi hi' => ?_, h8.kept fun k hb => hk k (by simp [hb]), rfl, h10⟩
  obtain ⟨a, b, s, f, c, d⟩ := h7 i hi hi'
  exact ⟨a, b, s, f, c.block (hk _ (by simp)), d⟩
theorem Blk.lt {w : World} {g : Nat} {v0 v1 : Value} {off : Bool} {fuse steps : Int} (h : Blk w g v0 v1 off fuse steps) : g < w.heap.size := (Array.getElem?_eq_some_iff.1 h).1
theorem IsP.lt {w : World} {g : Nat} {p : PS} {O : List Nat} (h : IsP w g p O) : ∀ k ∈ O, k < w.heap.size := by
  obtain ⟨hok, dk, cd, D, v1, ms, h1, h2, h3, h4, h5, h6, h7, h8, rfl, h10⟩ := h
  intro k hk
  simp at hk
  rcases hk with rfl | rfl | hk | hk
  · exact h1.lt
  · exact (Array.getElem?_eq_some_iff.1 h4).1
  · exact h8.lt k hk
  · obtain ⟨i, hi, rfl⟩ := List.getElem_of_mem hk
    obtain ⟨a, b, s, f, c, d⟩ := h7 i (by omega) hi
    exact c.lt
theorem IsP.turn {w w' : World} {g : Nat} {p : PS} {O O' : List Nat} (h : IsP w g p O) (ht : Turn O' w w') (hd : ∀ k ∈ O, k ∉ O') : IsP w' g p O := h.keep fun k hk => ht.block k (h.lt k hk) (hd k hk)
theorem IsP.below {w w' : World} {g : Nat} {p : PS} {O : List Nat} (h : IsP w g p O) (ht : Below w.heap.size w w') : IsP w' g p O := h.keep fun k hk => ht.block k (h.lt k hk)
end Go.Proofs.Ytpnijopbbbgffaa.plantw
