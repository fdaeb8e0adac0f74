/- Layer 5: a field put into its place where there is room: slices.Insert. Conditions: as each theorem says. -/
import Derived.Test.YtjndfmpicnkplaaDoorMsgE
namespace Go.Proofs.YtjndfmpicnkplaaDoor.msgw
open Go.RowKit
open Go.Proofs.YtjndfmpicnkplaaDoor.msgp
open Go.Proofs.YtjndfmpicnkplaaDoor.buf
set_option maxHeartbeats 4000000 in
set_option maxRecDepth 100000 in
theorem insert_shift {B : Nat} {w : World} {wk n cw i : Nat} {F : Flds} {x : Fld} {vb : Nat} (h : FBuf B w (.slice (some ⟨wk, 0, none⟩) n cw) F) (hFn : F.length = n) (hv : OneAt w vb x) (hvb : vb ≠ wk) (hF : n ≤ 2097152) (hi : i < n) (hc : n + 1 ≤ cw) :
    Calls Tryd.prog 26 #[.slice (some ⟨wk, 0, none⟩) n cw, .int .i64 i, .slice (some ⟨vb, 0, none⟩) 1 1] w (InsAt B F i x (.slice (some ⟨wk, 0, none⟩) n cw) w) := by
  obtain ⟨_, ⟨h2, _⟩ | ⟨g', cap', cur, hvv, h3, h4, h5, h6, h7, h8⟩⟩ := h.buf
  · omega
  simp only [Value.slice.injEq, Option.some.injEq, Addr.mk.injEq, and_true] at hvv
  obtain ⟨rfl, hnF, rfl⟩ := hvv
  clear hnF
  rw [hFn] at h4 h8
  have hxl : (F.flatMap fCells).length = n * 2 := by rw [fCells_len, hFn]
  have hcl : cur.toList.length = cw * 2 := by rw [Array.length_toList, h7]
  have e28 : ([Value.int .i64 x.1, .string x.2] : List Value).length = 2 := rfl
  have hdl : ((F.flatMap fCells).drop (i * 2)).length = (n - i) * 2 := by rw [List.length_drop, hxl]; omega
  have hct : cur.toList.take (i * 2) = (F.flatMap fCells).take (i * 2) := by
    rw [← h8, List.take_take]
    congr 1
    omega
  obtain ⟨R1, eR1⟩ : ∃ R : Array Value, (cur.toList.take ((i + 1) * 2) ++ (F.flatMap fCells).drop (i * 2) ++ cur.toList.drop ((i + 1) * 2 + (n - i) * 2)).toArray = R := ⟨_, rfl⟩
  have hR1s : R1.size = cw * 2 := by
    rw [← eR1]
    simp only [List.size_toArray, List.length_append, List.length_take, List.length_drop, hcl, hxl]
    omega
  have hR1t : R1.toList.take (i * 2) = (F.flatMap fCells).take (i * 2) := by
    rw [← eR1, List.toList_toArray, List.append_assoc, List.take_append_of_le_length (by rw [List.length_take, hcl]; omega), List.take_take, ← hct]
    congr 1
    omega
  have hR1d : R1.toList.drop (i * 2 + 2) = (F.flatMap fCells).drop (i * 2) ++ cur.toList.drop ((i + 1) * 2 + (n - i) * 2) := by
    rw [← eR1, List.toList_toArray, List.append_assoc, List.drop_left' (by rw [List.length_take, hcl]; omega)]
  obtain ⟨W1, eW1⟩ : ∃ W, w.drew.setRow wk R1 = W := ⟨_, rfl⟩
  have k0 : w.drew.heap[wk]? = some (.cells cur 45 (0, 0)) := h3
  have k1 : W1.heap[wk]? = some (.cells R1 45 (0, 0)) := by rw [← eW1]; exact setRow_block k0
  have kv : OneAt W1 vb x := by
    unfold OneAt
    rw [← eW1, setRow_other _ _ vb _ hvb]
    exact hv
  have hc1 : ∀ ty, (Builtin.copy_ #[30, 30] ty #[.slice (some ⟨wk, (i + 1) * 2, none⟩) (n - i) (cw - (i + 1)), .slice (some ⟨wk, i * 2, none⟩) (n + 1 - i) (cw - i)]).run Tryd.prog w.drew = .ok (goInt (n - i : Nat)) W1 := fun ty => by
    have := run_copy_rowk (P := Tryd.prog) w.drew 30 30 ty 45 2 wk ((i + 1) * 2) (n - i) (cw - (i + 1)) ⟨wk, i * 2, none⟩ (n + 1 - i) (cw - i) cur 45 ((F.flatMap fCells).drop (i * 2)) Tryd.underlying30 info45s k0 (n - i) (by simp only [Nat.min_def]; split <;> omega) hdl
      (fun j u hu => by
        rw [add_at]
        rw [List.getElem?_drop] at hu
        have hj : i * 2 + j < n * 2 := by rw [← hxl]; exact (List.getElem?_eq_some_iff.1 hu).1
        exact (cells_at k0 (i * 2 + j)).trans ((take_get h8 hj).trans hu)) (by rw [hdl]; omega) (fun u hu => fCells_one F u (List.mem_of_mem_drop hu))
    rw [this, hdl, eR1, eW1]
  obtain ⟨R2, eR2⟩ : ∃ R : Array Value, (R1.toList.take (i * 2) ++ [Value.int .i64 x.1, Value.string x.2] ++ R1.toList.drop (i * 2 + 2)).toArray = R := ⟨_, rfl⟩
  have hc2 : ∀ ty, (Builtin.copy_ #[30, 30] ty #[.slice (some ⟨wk, i * 2, none⟩) (n + 1 - i) (cw - i), .slice (some ⟨vb, 0, none⟩) 1 1]).run Tryd.prog W1 = .ok (goInt 1) (W1.setRow wk R2) := fun ty => by
    have := run_copy_rowk (P := Tryd.prog) W1 30 30 ty 45 2 wk (i * 2) (n + 1 - i) (cw - i) ⟨vb, 0, none⟩ 1 1 R1 45 [.int .i64 x.1, .string x.2] Tryd.underlying30 info45s k1 1 (by simp only [Nat.min_def]; split <;> omega) rfl
      (one_news kv) (by rw [e28]; omega) (one_one x)
    rw [this, ← eR2]
    rfl
  have hR2s : R2.size = cw * 2 := by
    rw [← eR2]
    simp only [List.size_toArray, List.length_append, List.length_take, List.length_drop, Array.length_toList, hR1s, e28]
    omega
  have hR2t : R2.toList.take ((n + 1) * 2) = (F.take i ++ x :: F.drop i).flatMap fCells := by
    rw [← eR2, List.toList_toArray, hR1t, hR1d, ← List.append_assoc, List.take_left' (by rw [List.length_append, List.length_append, List.length_take, hxl, hdl, e28]; omega), fCells_append, List.flatMap_cons, fCells_take F i (by omega), fCells_drop F i (by omega), List.append_assoc]
    rfl
  have hvl : w.shape? vb = some (45, 2) := by unfold World.shape?; rw [show w.heap[vb]? = _ from hv]; rfl
  have hwl : w.shape? wk = some (45, cur.size) := by unfold World.shape?; rw [h3]
  have hov : ∀ lb cb, (callFunc 35 #[.slice (some ⟨vb, 0, none⟩) 1 1, .slice (some ⟨wk, (i + 1) * 2, none⟩) lb cb]).run Tryd.prog w = .ok (.value (.bool false)) w := fun lb cb => by
    rw [run_callFunc_extern Tryd.func35 (by kernel_rfl) (by kernel_rfl) (by kernel_rfl) (e := Extern.SlicesOverlaps.overlaps #[30, 30] #[4]) (by kernel_rfl),
      Lib.run_overlaps_apart w 30 4 45 Tryd.underlying30 2 Tryd.sizeOf45 ⟨vb, 0, none⟩ ⟨wk, (i + 1) * 2, none⟩ 1 1 lb cb hvb _ _ _ _ hvl hwl (by omega) (frozen_at (show w.heap[vb]? = _ from hv) 0) (frozen_at (show w.heap[vb]? = _ from hv) 2)]
    rfl
  have HFIN := Lib.hid (show FBuf B (W1.setRow wk R2) (.slice (some ⟨wk, 0, none⟩) (n + 1) cw) (F.take i ++ x :: F.drop i) ∧ Turn (bufBlock (.slice (some ⟨wk, 0, none⟩) n cw)).toList w (W1.setRow wk R2) from by
    have hlen : (F.take i ++ x :: F.drop i).length = n + 1 := by rw [List.length_append, List.length_take, List.length_cons, List.length_drop, hFn]; omega
    have hbk : bufBlock (.slice (some ⟨wk, 0, none⟩) n cw) = some wk := by simp [bufBlock]; omega
    refine ⟨⟨⟨by rw [fCells_len], .inr ⟨wk, cw, R2, by rw [hlen], setRow_block k1, by omega, by omega, h6, hR2s, by rw [hlen]; exact hR2t⟩⟩, fun g hg => by
      have := buf_block hg
      subst this
      exact h.new g hbk⟩, ?_⟩
    rw [← eW1, hbk]
    exact (((Turn.refl _ w).drew).setRow (.inl (by simp)) R1).setRow (.inl (by simp)) R2)
  have hz2 : ¬ ((i : Int) = (n : Int)) := by omega
  have hz3 : (n : Int) + 1 ≤ (cw : Int) := by omega
  have hb3 : (i : Int) ≤ (n : Int) + 1 := by omega
  have hi' : (i : Int) ≤ n := by omega
  have hw1 : IntKind.i64.wrap ((i : Int) + 1) = (i : Int) + 1 := by rw [IntKind.wrap_i64]; omega
  have hb1 : (0 : Int) ≤ (i : Int) + 1 := by omega
  have hb2 : (i : Int) + 1 ≤ (n : Int) + 1 := by omega
  have htn : ((i : Int) + 1).toNat = i + 1 := by omega
  have hci : ¬ (cw = i) := by omega
  have hci1 : ¬ (cw = i + 1) := by omega
  have HC1 := Lib.hid hc1
  have HC2 := Lib.hid hc2
  have HOV := Lib.hid hov
  unfold InsAt
  obtain ⟨O, eO⟩ : ∃ O, (bufBlock (.slice (some ⟨wk, 0, none⟩) n cw)).toList = O := ⟨_, rfl⟩
  obtain ⟨L, eL⟩ : ∃ L, F.take i ++ x :: F.drop i = L := ⟨_, rfl⟩
  rw [eO, eL] at HFIN
  rw [eO, eL]
  simp only [maxLen] at h6
  clear hFn hxl hv k0 k1 kv eW1 h h3 h8 eO eL hc1 hc2 eR1 eR2 hR1s hR1t hR1d hR2s hR2t hdl e28 hvl hwl hov hct hcl
  go_enter Tryd.func26, Tryd.ntmps26
  go_wp2_with (simp only [HOV.out])
  refine wp_region_tail 8 rfl (by kernel_rfl) ?_
  simp only [List.take_succ_cons, List.take_zero, List.drop_succ_cons, List.drop_zero]
  iterate 8 still_step
  refine wpStill_nil ?_
  refine wpList_run rfl _ (exec_copy_by (.tmp 73) (.tmp 76) 30 rfl (.slice (some ⟨wk, (i + 1) * 2, none⟩) (n - i) (cw - (i + 1))) (.slice (some ⟨wk, i * 2, none⟩) (n + 1 - i) (cw - i)) (goInt (n - i : Nat)) rfl rfl (HC1.out _)) ?_
  go_wp2_with (refine wpList_run rfl _ (exec_copy_by (.tmp 80) (.tmp 81) 30 rfl (.slice (some ⟨wk, i * 2, none⟩) (n + 1 - i) (cw - i)) (.slice (some ⟨vb, 0, none⟩) 1 1) (goInt 1) rfl rfl (HC2.out _)) ?_)
  go_ret
  exact ⟨_, rfl, HFIN.out⟩
/-- A field put into its place, whatever room there is. -/
theorem insert_any {B : Nat} {w : World} {v : Value} {F : Flds} {x : Fld} {vb i : Nat} (h : FBuf B w v F) (hB : B ≤ w.heap.size) (hv : OneAt w vb x) (hvb : ∀ k, bufBlock v = some k → vb ≠ k) (hF : F.length ≤ 2097152) (hi : i ≤ F.length) :
    Calls Tryd.prog 26 #[v, .int .i64 i, .slice (some ⟨vb, 0, none⟩) 1 1] w (InsAt B F i x v w) := by
  by_cases he : i = F.length
  · subst he
    exact insert_end h hB hv hF
  · obtain ⟨_, ⟨h2, _⟩ | ⟨g', cap', cur, rfl, h3, h4, h5, h6, h7, h8⟩⟩ := h.buf
    · omega
    · have hbk : bufBlock (.slice (some ⟨g', 0, none⟩) F.length cap') = some g' := by simp [bufBlock]; omega
      by_cases hc : cap' < F.length + 1
      · exact insert_grow h rfl hB hv hF (by omega) hc
      · exact insert_shift h rfl hv (hvb g' hbk) hF (by omega) (by omega)
end Go.Proofs.YtjndfmpicnkplaaDoor.msgw
