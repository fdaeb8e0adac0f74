/- Layer 5: a field put into its place: slices.Insert. Conditions: as each theorem says. -/
import Derived.Test.YtjndfmpicnkplaaDoorMsgD
import Derived.Lib.AppendZerosOnto
import Derived.Shelf.Spec.SlicesInsert
namespace Go.Proofs.YtjndfmpicnkplaaDoor.msgw
open Go.RowKit
open Go.Proofs.YtjndfmpicnkplaaDoor.msgp
open Go.Proofs.YtjndfmpicnkplaaDoor.buf
/-- A copy over the middle of a row, elements of k cells. -/
theorem run_copy_rowk {P : Program} (w : World) (dT sT ty elem : TypeId) (k g o dLen dCap : Nat) (a : Addr) (sLen sCap : Nat) (cur : Array Value) (t : TypeId) (cs : List Value)
    (hu : P.underlying dT = some (.slice elem)) (hs : (P.info? elem).map (·.size) = some k)
    (hg : w.heap[g]? = some (.cells cur t (0, 0))) (m : Nat) (hm : m = Nat.min sLen dLen) (hn : cs.length = m * k)
    (hsrc : ∀ j v, cs[j]? = some v → w.cell? (a.add j) = some v) (hfit : o + cs.length ≤ cur.size) (h1 : ∀ v ∈ cs, v.oneCell' = true) :
    (Builtin.copy_ #[dT, sT] ty #[.slice (some ⟨g, o, none⟩) dLen dCap, .slice (some a) sLen sCap]).run P w =
      .ok (goInt m) (w.setRow g (cur.toList.take o ++ cs ++ cur.toList.drop (o + cs.length)).toArray) := by
  have hl := run_loadCells_list (P := P) w a cs hsrc
  have hst := run_storeCells_at P g o t cs 0 cur w hg (by simpa using hfit) h1
  cases hq : P.info? elem with
  | none => simp [hq] at hs
  | some i =>
    have hi : i.size = k := by simpa [hq] using hs
    simp [Builtin.copy_, run_underlying hu, Builtin.lenOf, Builtin.firstCells, sizeOf, typeInfo, hq, hi, ← hm, ← hn, hl, hst]
theorem exec_copy_by {P : Program} {w w' : World} {o : Oper} {a : Act} (s x : Operand) (t : TypeId) (ho : o.op = .call { callee := .builtin .copy, args := #[s, x], argTypes := #[t, t] }) (V X r : Value) (hs : a.eval s = V) (hx : a.eval x = X) (hr : (Builtin.copy_ #[t, t] o.type #[V, X]).run P w = .ok r w') : (execOp a.eval o).run P w = .ok (.value r) w' := by
  unfold execOp
  simp only [ho, resolve, invoke, builtin, Sem.run_bind, Sem.run_pure, Result.andThen_ok, List.map_toArray, List.map_cons, List.map_nil, hs, hx, hr]
theorem exec_append_by {P : Program} {w w' : World} {o : Oper} {a : Act} (s x : Operand) (t t2 : TypeId) (ho : o.op = .call { callee := .builtin .append, args := #[s, x], argTypes := #[t, t2] }) (V X r : Value) (hs : a.eval s = V) (hx : a.eval x = X) (hr : (Builtin.append_ #[t, t2] o.type #[V, X]).run P w = .ok r w') : (execOp a.eval o).run P w = .ok (.value r) w' := by
  unfold execOp
  simp only [ho, resolve, invoke, builtin, Sem.run_bind, Sem.run_pure, Result.andThen_ok, List.map_toArray, List.map_cons, List.map_nil, hs, hx, hr]
theorem fCells_append (F G : Flds) : (F ++ G).flatMap fCells = F.flatMap fCells ++ G.flatMap fCells := List.flatMap_append
theorem fCells_take (F : Flds) (i : Nat) (hi : i ≤ F.length) : (F.take i).flatMap fCells = (F.flatMap fCells).take (i * 2) := by
  have hlen : (F.take i).length = i := by rw [List.length_take]; omega
  have e : F.flatMap fCells = (F.take i).flatMap fCells ++ (F.drop i).flatMap fCells := by rw [← List.flatMap_append, List.take_append_drop]
  rw [e, List.take_left' (by rw [fCells_len, hlen])]
theorem fCells_drop (F : Flds) (i : Nat) (hi : i ≤ F.length) : (F.drop i).flatMap fCells = (F.flatMap fCells).drop (i * 2) := by
  have hlen : (F.take i).length = i := by rw [List.length_take]; omega
  have e : F.flatMap fCells = (F.take i).flatMap fCells ++ (F.drop i).flatMap fCells := by rw [← List.flatMap_append, List.take_append_drop]
  rw [e, List.drop_left' (by rw [fCells_len, hlen])]
theorem add_at (b o j : Nat) : (⟨b, o, none⟩ : Addr).add j = ⟨b, o + j, none⟩ := by unfold Addr.add; split <;> simp_all
/-- A field in a block of its own, as it is handed to Insert. -/
def OneAt (w : World) (vb : Nat) (x : Fld) : Prop := w.heap[vb]? = some (.cells #[.int .i64 x.1, .string x.2] 45 (0, 0))
def InsAt (B : Nat) (F : Flds) (i : Nat) (x : Fld) (v : Value) (w : World) (e : Ending) (w' : World) : Prop :=
  ∃ v', e = .returned v' ∧ FBuf B w' v' (F.take i ++ x :: F.drop i) ∧ Turn (bufBlock v).toList w w'
theorem one_news {w : World} {vb : Nat} {x : Fld} (h : OneAt w vb x) : ∀ (j : Nat) u, [Value.int .i64 x.1, .string x.2][j]? = some u → w.cell? ((⟨vb, 0, none⟩ : Addr).add j) = some u := fun j u hu => by
  rw [add_at, Nat.zero_add, cells_at h]
  simpa using hu
theorem one_one (x : Fld) : ∀ u ∈ [Value.int .i64 x.1, .string x.2], u.oneCell' = true := by
  intro u hu
  simp at hu
  rcases hu with rfl | rfl <;> rfl
theorem buf_block {g n c k : Nat} (h : bufBlock (.slice (some ⟨g, 0, none⟩) n c) = some k) : k = g := by
  unfold bufBlock at h
  simp only at h
  split at h
  · cases h
  · injection h with h; exact h.symm
set_option maxHeartbeats 4000000 in
set_option maxRecDepth 100000 in
theorem insert_end {B : Nat} {w : World} {v : Value} {F : Flds} {x : Fld} {vb : Nat} (h : FBuf B w v F) (hB : B ≤ w.heap.size) (hv : OneAt w vb x) (hF : F.length ≤ 2097152) :
    Calls Tryd.prog 26 #[v, .int .i64 F.length, .slice (some ⟨vb, 0, none⟩) 1 1] w (InsAt B F F.length x v w) := by
  have hnews := one_news hv
  have hone := one_one x
  have h63 : F.length + 1 ≤ maxLen := by simp only [maxLen]; omega
  have hby : (F.length + 1) * 24 ≤ 140737488355328 := by omega
  have hbW := h.buf
  have hfin : ∀ gg cap w4, Buf w4 45 2 (.slice (some ⟨gg, 0, none⟩) (F.length + 1) cap) (F.length + 1) (F.flatMap fCells ++ [.int .i64 x.1, .string x.2]) → w.grownBy w4 (bufBlock v) → (bufBlock v = some gg ∨ gg = w.heap.size) →
      FBuf B w4 (.slice (some ⟨gg, 0, none⟩) (F.length + 1) cap) (F.take F.length ++ x :: F.drop F.length) ∧ Turn (bufBlock v).toList w w4 := fun gg cap w4 hB4 hg hat => by
    refine ⟨⟨?_, fun g hgg => ?_⟩, (Turn.refl _ _).grown hg (fun k hk => .inl (by simp [hk]))⟩
    · rw [List.take_length, List.drop_length, fCells_append, List.length_append]
      exact hB4
    · have := buf_block hgg
      subst this
      rcases hat with h2 | h2
      · exact h.new g h2
      · omega
  have HFIN := Lib.hid hfin
  unfold InsAt
  obtain ⟨O, eO⟩ : ∃ O, (bufBlock v).toList = O := ⟨_, rfl⟩
  obtain ⟨V, eV⟩ : ∃ V, bufBlock v = V := ⟨_, rfl⟩
  obtain ⟨G, eG⟩ : ∃ G, F.take F.length ++ x :: F.drop F.length = G := ⟨_, rfl⟩
  rw [eV, eG] at HFIN
  rw [eO, eG]
  have HV := Lib.hid eV
  have HO := Lib.hid (show V.toList = O by rw [← eV]; exact eO)
  obtain ⟨pw, cw, rfl, hn, hcw⟩ := h.buf.shape
  simp only [maxLen] at hcw
  clear h hv hfin eO eV eG
  go_enter Tryd.func26, Tryd.ntmps26
  go_wp2_with (refine wpList_append_buf rfl (.tmp 23) (.tmp 24) 30 rfl 45 _ 2 24 Tryd.underlying30 info45f rfl (by omega) (.slice pw F.length cw) F.length _ rfl hbW ⟨vb, 0, none⟩ 1 1 rfl [.int .i64 x.1, .string x.2] rfl hnews hone (by omega) h63 hby ?_; intro gg cap w4 hB4 hg hc1 _ hat _; obtain ⟨k0, k1⟩ := HFIN.out gg cap w4 hB4 (by rw [← HV.out]; exact hg) (by rw [← HV.out]; exact hat); have K := Lib.hid (And.intro k0 k1); clear hB4 hg hat k0 k1 hbW)
  all_goals go_ret
  all_goals exact ⟨_, rfl, K.out.1, by rw [← HO.out]; exact K.out.2⟩
set_option maxHeartbeats 4000000 in
set_option maxRecDepth 100000 in
theorem insert_grow {B : Nat} {w : World} {wk n cw i : Nat} {F : Flds} {x : Fld} {vb : Nat} (h : FBuf B w (.slice (some ⟨wk, 0, none⟩) n cw) F) (hFn : F.length = n) (hB : B ≤ w.heap.size) (hv : OneAt w vb x) (hF : n ≤ 2097152) (hi : i < n) (hc : cw < n + 1) :
    Calls Tryd.prog 26 #[.slice (some ⟨wk, 0, none⟩) n cw, .int .i64 i, .slice (some ⟨vb, 0, none⟩) 1 1] w (InsAt B F i x (.slice (some ⟨wk, 0, none⟩) n cw) w) := by
  obtain ⟨ie, hie, hz, hsz, hby⟩ := info_parts info45f
  obtain ⟨_, ⟨h2, _⟩ | ⟨g', cap', cur, hvv, h3, h4, h5, h6, h7, h8⟩⟩ := h.buf
  · omega
  simp only [Value.slice.injEq, Option.some.injEq, Addr.mk.injEq, and_true] at hvv
  obtain ⟨rfl, hnF, rfl⟩ := hvv
  clear hnF
  rw [hFn] at h4 h8
  have hxl : (F.flatMap fCells).length = n * 2 := by rw [fCells_len, hFn]
  have hold : (Builtin.firstCells ie.size i (.slice (some ⟨wk, 0, none⟩) i cw)).run Tryd.prog w.drew = .ok ((F.flatMap fCells).take (i * 2)).toArray w.drew := by
    rw [hsz]
    exact run_firstCells_some w.drew 2 i ⟨wk, 0, none⟩ i cw ((F.flatMap fCells).take (i * 2)) (by rw [List.length_take]; omega) (fun j v hj => by
      rw [add_at, Nat.zero_add]
      rw [List.getElem?_take] at hj
      split at hj
      · exact (cells_at (w := w.drew) h3 j).trans ((take_get h8 (by omega)).trans hj)
      · cases hj)
  obtain ⟨N, eN⟩ : ∃ N, w.heap.size = N := ⟨_, rfl⟩
  obtain ⟨G, eG⟩ : ∃ G, grownCap w (n + 1) cw 45 = G := ⟨_, rfl⟩
  obtain ⟨ROW, eR⟩ : ∃ ROW : Array Value, ((F.flatMap fCells).take (i * 2)).toArray ++ Builtin.zeroCells (Value.agg #[.int .i64 0, .string ⟨#[]⟩]).cells (n + 1 - i) ++ Builtin.zeroCells (Value.agg #[.int .i64 0, .string ⟨#[]⟩]).cells (G - (n + 1)) = ROW := ⟨_, rfl⟩
  have hrz : ∀ ty, (Builtin.append_ #[30, 3] ty #[.slice (some ⟨wk, 0, none⟩) i cw, .int .i64 ((n : Int) + 1 - i)]).run Tryd.prog w = .ok (.slice (some ⟨N, 0, none⟩) (n + 1) G) (w.drew.alloc (.cells ROW 45)) := fun ty => by
    have h := Lib.run_append_grow_zeros w 30 3 ty 45 ie _ .i64 .i64 Tryd.underlying30 Tryd.underlying3 hie hz (some ⟨wk, 0, none⟩) i cw ((F.flatMap fCells).take (i * 2)) hold (n + 1 - i) (by omega) (by omega) (by omega) (by omega) (by rw [hby]; omega) (by rw [hby, show i + (n + 1 - i) = n + 1 by omega]; exact growslice_fits hc (by omega))
    rw [show i + (n + 1 - i) = n + 1 by omega, eG, eR, eN] at h
    rw [show ((n : Int) + 1 - i) = ((n + 1 - i : Nat) : Int) by omega]
    exact h
  have hGn : n + 1 ≤ G := by rw [← eG]; exact grownCap_ge w _ _ _
  have hG63 : G ≤ maxLen := by rw [← eG]; exact grownCap_le_maxLen w (n + 1) cw _ (by simp only [maxLen]; omega)
  have hRs : ROW.size = G * 2 := by
    rw [← eR]
    rw [Array.size_append, Array.size_append, size_zeroCells, size_zeroCells, List.size_toArray, List.length_take, hxl]
    have e2 : (Value.agg #[.int .i64 0, .string ⟨#[]⟩]).cells.size = 2 := rfl
    rw [e2]
    omega
  have hRt : ROW.toList.take (i * 2) = (F.flatMap fCells).take (i * 2) := by
    rw [← eR, Array.toList_append, Array.toList_append, List.append_assoc, List.toList_toArray, List.take_left' (by rw [List.length_take]; omega)]
  obtain ⟨W1, eW⟩ : ∃ W, w.drew.alloc (.cells ROW 45) = W := ⟨_, rfl⟩
  rw [eW] at hrz
  have b1 : Below w.heap.size w W1 := by rw [← eW]; exact (show Below w.heap.size w w.drew from ⟨rfl, rfl, rfl, Nat.le_refl _, fun _ _ => rfl⟩).alloc (Nat.le_refl _) _
  have k1 : W1.heap[N]? = some (.cells ROW 45 (0, 0)) := by rw [← eW, ← eN]; exact heap_alloc_last w.drew _
  have e28 : ([Value.int .i64 x.1, .string x.2] : List Value).length = 2 := rfl
  obtain ⟨R1, eR1⟩ : ∃ R : Array Value, (ROW.toList.take (i * 2) ++ [Value.int .i64 x.1, Value.string x.2] ++ ROW.toList.drop (i * 2 + 2)).toArray = R := ⟨_, rfl⟩
  have hR1s : R1.size = G * 2 := by
    rw [← eR1]
    simp
    omega
  have hR1t : R1.toList.take (i * 2 + 2) = (F.flatMap fCells).take (i * 2) ++ [Value.int .i64 x.1, Value.string x.2] := by
    rw [← eR1, List.toList_toArray, List.take_left' (by rw [List.length_append, List.length_take, Array.length_toList, e28]; omega), hRt]
  have hNw : w.heap.size ≤ N := by omega
  have hwN : wk ≠ N := by have := (Array.getElem?_eq_some_iff.1 h3).1; omega
  have hvN : vb < w.heap.size := (Array.getElem?_eq_some_iff.1 hv).1
  have hc1 : ∀ ty, (Builtin.copy_ #[30, 30] ty #[.slice (some ⟨N, i * 2, none⟩) (n + 1 - i) (G - i), .slice (some ⟨vb, 0, none⟩) 1 1]).run Tryd.prog W1 = .ok (goInt 1) (W1.setRow N R1) := fun ty => by
    have := run_copy_rowk (P := Tryd.prog) W1 30 30 ty 45 2 N (i * 2) (n + 1 - i) (G - i) ⟨vb, 0, none⟩ 1 1 ROW 45 [.int .i64 x.1, .string x.2] Tryd.underlying30 info45s k1 1 (by simp only [Nat.min_def]; split <;> omega) rfl
      (one_news (show OneAt W1 vb x from (b1.block vb hvN).trans hv)) (by rw [e28]; omega) (one_one x)
    rw [this, ← eR1]
    rfl
  obtain ⟨W2, eW2⟩ : ∃ W, W1.setRow N R1 = W := ⟨_, rfl⟩
  rw [eW2] at hc1
  have k2 : W2.heap[N]? = some (.cells R1 45 (0, 0)) := by rw [← eW2]; exact setRow_block k1
  have k3 : W2.heap[wk]? = some (.cells cur 45 (0, 0)) := by rw [← eW2, setRow_other _ _ wk _ hwN]; exact (b1.block wk (Array.getElem?_eq_some_iff.1 h3).1).trans h3
  obtain ⟨R2, eR2⟩ : ∃ R : Array Value, (R1.toList.take ((i + 1) * 2) ++ (F.flatMap fCells).drop (i * 2) ++ R1.toList.drop ((i + 1) * 2 + (n - i) * 2)).toArray = R := ⟨_, rfl⟩
  have hdl : ((F.flatMap fCells).drop (i * 2)).length = (n - i) * 2 := by rw [List.length_drop, hxl]; omega
  have hc2 : ∀ ty, (Builtin.copy_ #[30, 30] ty #[.slice (some ⟨N, (i + 1) * 2, none⟩) (n - i) (G - (i + 1)), .slice (some ⟨wk, i * 2, none⟩) (n - i) (cw - i)]).run Tryd.prog W2.drew = .ok (goInt (n - i : Nat)) (W2.drew.setRow N R2) := fun ty => by
    have := run_copy_rowk (P := Tryd.prog) W2.drew 30 30 ty 45 2 N ((i + 1) * 2) (n - i) (G - (i + 1)) ⟨wk, i * 2, none⟩ (n - i) (cw - i) R1 45 ((F.flatMap fCells).drop (i * 2)) Tryd.underlying30 info45s k2 (n - i) (by simp only [Nat.min_def]; split <;> omega) hdl
      (fun j u hu => by
        rw [add_at]
        rw [List.getElem?_drop] at hu
        have hj : i * 2 + j < n * 2 := by rw [← hxl]; exact (List.getElem?_eq_some_iff.1 hu).1
        exact (cells_at (w := W2.drew) k3 (i * 2 + j)).trans ((take_get h8 hj).trans hu)) (by rw [hdl]; omega) (fun u hu => fCells_one F u (List.mem_of_mem_drop hu))
    rw [this, hdl, ← eR2]
  have hR2s : R2.size = G * 2 := by
    rw [← eR2]
    simp only [List.size_toArray, List.length_append, List.length_take, List.length_drop, Array.length_toList, hxl]
    omega
  have hR2t : R2.toList.take ((n + 1) * 2) = (F.take i ++ x :: F.drop i).flatMap fCells := by
    rw [← eR2, List.toList_toArray, List.take_left' (by rw [List.length_append, List.length_take, Array.length_toList, hdl]; omega), show (i + 1) * 2 = i * 2 + 2 by omega, hR1t, fCells_append, List.flatMap_cons, fCells_take F i (by omega), fCells_drop F i (by omega), List.append_assoc]
    rfl
  have HC1 := Lib.hid hc1
  have HC2 := Lib.hid hc2
  have HFIN := Lib.hid (show FBuf B (W2.drew.setRow N R2) (.slice (some ⟨N, 0, none⟩) (n + 1) G) (F.take i ++ x :: F.drop i) ∧ Turn (bufBlock (.slice (some ⟨wk, 0, none⟩) n cw)).toList w (W2.drew.setRow N R2) from by
    have hlen : (F.take i ++ x :: F.drop i).length = n + 1 := by rw [List.length_append, List.length_take, List.length_cons, List.length_drop, hFn]; omega
    refine ⟨⟨⟨by rw [fCells_len], .inr ⟨N, G, R2, by rw [hlen], setRow_block (w := W2.drew) k2, by omega, by omega, hG63, hR2s, by rw [hlen]; exact hR2t⟩⟩, fun g hg => by have := buf_block hg; omega⟩, ?_⟩
    rw [← eW2]
    exact (((Turn.of_below b1).setRow (.inr hNw) R1).drew).setRow (.inr hNw) R2)
  have HRZ := Lib.hid hrz
  have hz2 : ¬ ((i : Int) = (n : Int)) := by omega
  have hz3 : (cw : Int) < (n : Int) + 1 := by omega
  have hGi : ¬ (G = i) := by omega
  have hGim : ¬ (G = i + 1) := by omega
  have hci : ¬ (cw = i) := by omega
  have hi' : (i : Int) ≤ n := by omega
  have HH := Lib.hid h
  have HK := Lib.hid k1
  have HB := Lib.hid b1
  have HFN := Lib.hid hFn
  have HXL := Lib.hid hxl
  have HV := Lib.hid hv
  have HRT := Lib.hid hRt
  have HC3 := Lib.hid h3
  have HC8 := Lib.hid h8
  simp only [maxLen] at h6 hG63
  unfold InsAt
  obtain ⟨O, eO⟩ : ∃ O, (bufBlock (.slice (some ⟨wk, 0, none⟩) n cw)).toList = O := ⟨_, rfl⟩
  obtain ⟨L, eL⟩ : ∃ L, F.take i ++ x :: F.drop i = L := ⟨_, rfl⟩
  rw [eO, eL] at HFIN
  rw [eO, eL]
  clear hFn hxl hv hrz k1 b1 eW eR eG hold hie hz hsz hby h h3 h8 hRt eO eL hc1 hc2 k2 k3 eR1 eR2 hR1s hR1t hR2s hR2t hdl e28 hRs eW2 hNw hwN hvN
  go_enter Tryd.func26, Tryd.ntmps26
  go_wp2_with (first | refine wpList_run rfl _ (exec_append_by (.tmp 34) (.tmp 39) 30 3 rfl (.slice (some ⟨wk, 0, none⟩) i cw) (.int .i64 ((n : Int) + 1 - i)) (.slice (some ⟨N, 0, none⟩) (n + 1) G) rfl rfl (HRZ.out _)) ?_ | refine wpList_run rfl _ (exec_copy_by (.tmp 43) (.tmp 44) 30 rfl (.slice (some ⟨N, i * 2, none⟩) (n + 1 - i) (G - i)) (.slice (some ⟨vb, 0, none⟩) 1 1) (goInt 1) rfl rfl (HC1.out _)) ?_)
  have hw1 : IntKind.i64.wrap ((i : Int) + 1) = (i : Int) + 1 := by rw [IntKind.wrap_i64]; omega
  have hb1 : (0 : Int) ≤ (i : Int) + 1 := by omega
  have hb2 : (i : Int) + 1 ≤ (n : Int) + 1 := by omega
  have htn : ((i : Int) + 1).toNat = i + 1 := by omega
  refine wp_region_tail 8 rfl (by kernel_rfl) ?_
  simp only [List.take_succ_cons, List.take_zero, List.drop_succ_cons, List.drop_zero]
  iterate 8 still_step
  refine wpStill_nil ?_
  refine wpList_run rfl _ (exec_copy_by (.tmp 50) (.tmp 53) 30 rfl (.slice (some ⟨N, (i + 1) * 2, none⟩) (n - i) (G - (i + 1))) (.slice (some ⟨wk, i * 2, none⟩) (n - i) (cw - i)) (goInt (n - i : Nat)) rfl rfl (HC2.out _)) ?_
  go_wp2_with fail
  go_ret
  exact ⟨_, rfl, HFIN.out⟩
end Go.Proofs.YtjndfmpicnkplaaDoor.msgw
