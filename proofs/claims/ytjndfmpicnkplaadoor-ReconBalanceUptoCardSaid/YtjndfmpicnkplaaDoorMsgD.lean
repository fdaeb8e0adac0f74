/- Layer 5: fields of a number taken away: slices.DeleteFunc. Conditions: as each theorem says. -/
import Derived.Test.YtjndfmpicnkplaaDoorMsgC
namespace Go.Proofs.YtjndfmpicnkplaaDoor.msgw
open Go.RowKit
open Go.Proofs.YtjndfmpicnkplaaDoor.msgp
open Go.Proofs.YtjndfmpicnkplaaDoor.buf
theorem take_put {α : Type} (L t : List α) (o m : Nat) (h : o + t.length ≤ m) : (L.take o ++ t ++ L.drop (o + t.length)).take m = (L.take m).take o ++ t ++ (L.take m).drop (o + t.length) ∨ L.length < o + t.length := by
  by_cases hL : o + t.length ≤ L.length
  · left
    apply List.ext_getElem?
    intro i
    rw [List.getElem?_take]
    have l1 : (L.take o).length = o := by rw [List.length_take]; omega
    have l2 : ((L.take m).take o).length = o := by rw [List.length_take, List.length_take]; omega
    by_cases h1 : i < o
    · rw [if_pos (by omega), List.append_assoc, List.append_assoc, List.getElem?_append_left (by omega), List.getElem?_append_left (by omega), List.getElem?_take, List.getElem?_take, List.getElem?_take, if_pos h1, if_pos h1, if_pos (by omega)]
    · by_cases h2 : i < o + t.length
      · have e1 : (L.take o ++ t ++ L.drop (o + t.length))[i]? = t[i - o]? := by
          rw [List.append_assoc, List.getElem?_append_right (by omega), l1, List.getElem?_append_left (by omega)]
        have e2 : ((L.take m).take o ++ t ++ (L.take m).drop (o + t.length))[i]? = t[i - o]? := by
          rw [List.append_assoc, List.getElem?_append_right (by omega), l2, List.getElem?_append_left (by omega)]
        rw [if_pos (by omega), e1, e2]
      · rw [List.getElem?_append_right (by rw [List.length_append]; omega), List.getElem?_append_right (by rw [List.length_append]; omega), List.length_append, List.length_append, l1, l2, List.getElem?_drop, List.getElem?_drop, List.getElem?_take]
        have e : o + t.length + (i - (o + t.length)) = i := by omega
        rw [e]
  · right
    omega
theorem fCells_set : ∀ (c : Flds) (i : Nat) (x : Fld), i < c.length → (c.set i x).flatMap fCells = (c.flatMap fCells).take (i * 2) ++ fCells x ++ (c.flatMap fCells).drop (i * 2 + 2)
  | [], i, x, h => by simp at h
  | y :: c, 0, x, _ => by simp [fCells]
  | y :: c, i + 1, x, h => by
    have := fCells_set c i x (by simpa using h)
    rw [List.set_cons_succ, List.flatMap_cons, this, List.flatMap_cons]
    have e1 : (i + 1) * 2 = (fCells y).length + i * 2 := by simp [fCells]; omega
    have e2 : (i + 1) * 2 + 2 = (fCells y).length + (i * 2 + 2) := by simp [fCells]; omega
    rw [e2, e1, List.take_length_add_append, List.drop_length_add_append]
    simp
theorem info45s : (Tryd.prog.info? 45).map (·.size) = some 2 := by kernel_rfl
/-- A field written over another one. -/
theorem put_field {w : World} {wk n cap : Nat} {c : Flds} (h : Buf w 45 2 (.slice (some ⟨wk, 0, none⟩) n cap) n (c.flatMap fCells)) (hc : c.length = n) (i : Nat) (hi : i < n) (x : Fld) :
    ∃ C, (storeVar 45 ⟨wk, i * 2, none⟩ (.agg #[.int .i64 x.1, .string x.2])).run Tryd.prog w = .ok () (w.setRow wk C) ∧ Buf (w.setRow wk C) 45 2 (.slice (some ⟨wk, 0, none⟩) n cap) n ((c.set i x).flatMap fCells) := by
  obtain ⟨h1, ⟨h2, _⟩ | ⟨g, cap', cur, hv, h3, h4, h5, h6, h7, h8⟩⟩ := h
  · omega
  · simp only [Value.slice.injEq, Option.some.injEq, Addr.mk.injEq, and_true, true_and] at hv
    obtain ⟨rfl, rfl⟩ := hv
    have hst := run_storeVar_mid' (P := Tryd.prog) (ty := 45) (g := wk) (o' := i * 2) (n := 2) (cs := #[.int .i64 x.1, .string x.2]) h3 info45s rfl (by omega) (by rw [Array.all_eq_true_iff_forall_mem]; intro u hu; simp at hu; rcases hu with rfl | rfl <;> rfl)
    refine ⟨_, hst, by rw [fCells_len, List.length_set, hc], .inr ⟨wk, cap, _, rfl, setRow_block h3, h4, h5, h6, ?_, ?_⟩⟩
    · simp
      omega
    · rw [fCells_set c i x (by omega), List.toList_toArray]
      rcases take_put cur.toList [Value.int .i64 x.1, .string x.2] (i * 2) (n * 2) (by simp; omega) with h | h
      · simp only [List.length_cons, List.length_nil] at h
        rw [h, h8]
        rfl
      · simp at h
        omega
theorem delM_none {F : Flds} {no : Int} (h : ∀ j (hj : j < F.length), decide (F[j].1 = no) = false) : delM F no = F := by
  refine List.filter_eq_self.2 fun x hx => ?_
  obtain ⟨j, hj, rfl⟩ := List.getElem_of_mem hx
  rw [h j hj]
  rfl
theorem zero45 (w : World) : (zeroValue 45).run Tryd.prog w = .ok (.agg #[.int .i64 0, .string ⟨#[]⟩]) w := (zero_of_info (P := Tryd.prog) (t := 45) (v := .agg #[.int .i64 0, .string ⟨#[]⟩]) (n := 2) (by kernel_rfl)).1 w
theorem zero45_one {n : Nat} : ∀ v ∈ (Builtin.zeroCells (Value.agg #[.int .i64 0, .string ⟨#[]⟩]).cells n).toList, v.oneCell' = true := by
  intro v hv
  have h1 : ∀ u ∈ #[Value.int .i64 0, .string ⟨#[]⟩].toList, u.oneCell' = true := by decide
  simp only [Builtin.zeroCells, Array.toList_map, List.mem_map] at hv
  obtain ⟨a, _, rfl⟩ := hv
  have h2 : a % (Value.agg #[.int .i64 0, .string ⟨#[]⟩]).cells.size < 2 := Nat.mod_lt _ (by decide)
  rw [getElem!_pos (Value.agg #[.int .i64 0, .string ⟨#[]⟩]).cells _ h2]
  exact h1 _ (by simp [Value.cells])
/-- A row cut short. -/
theorem cut_buf {w : World} {wk n cap : Nat} {c : Flds} {C : Array Value} (i : Nat) (hi : i ≤ n) (hc : c.length = n) (h3 : w.heap[wk]? = some (.cells C 45 (0, 0))) (h4 : n ≤ cap) (h5 : 0 < cap) (h6 : cap ≤ maxLen) (h7 : C.size = cap * 2) (h8 : C.toList.take (i * 2) = (c.flatMap fCells).take (i * 2)) :
    Buf w 45 2 (.slice (some ⟨wk, 0, none⟩) i cap) i ((c.take i).flatMap fCells) := by
  have hlen : (c.take i).length = i := by rw [List.length_take]; omega
  refine ⟨by rw [fCells_len, hlen], .inr ⟨wk, cap, C, rfl, h3, by omega, h5, h6, h7, ?_⟩⟩
  rw [h8]
  have e : c.flatMap fCells = (c.take i).flatMap fCells ++ (c.drop i).flatMap fCells := by rw [← List.flatMap_append, List.take_append_drop]
  rw [e, List.take_left' (by rw [fCells_len, hlen])]
set_option maxHeartbeats 4000000 in
set_option maxRecDepth 100000 in
theorem del_any {B : Nat} {w : World} {bn : Nat} {no : Int} (hb : w.cell? ⟨bn, 0, none⟩ = some (.int .i64 no)) {v : Value} {F : Flds} (h : FBuf B w v F) (hvb : ∀ k, bufBlock v = some k → k ≠ bn) (hF : F.length ≤ 2097152) :
    Calls Tryd.prog 21 #[v, .func (.func 23) #[] #[.pointer (some ⟨bn, 0, none⟩)]] w fun e w' => ∃ v', e = .returned v' ∧ FBuf B w' v' (delM F no) ∧ bufBlock v' = bufBlock v ∧ Turn (bufBlock v).toList w w' := by
  have hFm : F.length ≤ maxLen := by simp only [maxLen]; omega
  have HI := Lib.hid (index_is hb (h.fs hFm))
  have HN := Lib.hid hb
  have H := Lib.hid h
  obtain ⟨pw, cw, rfl, hn, hcw⟩ := h.buf.shape
  simp only [maxLen] at hcw
  clear h hb
  go_enter Tryd.func21, Tryd.ntmps21
  go_wp2_with fail
  refine HI.out.mono ?_
  rintro e w1 ⟨rfl, b1⟩
  have HB1 := Lib.hid b1
  clear b1 HI
  by_cases hlt : F.findIdx (fun x => decide (x.1 = no)) < F.length
  · have key : ∃ r, r < F.length ∧ F.findIdx (fun x => decide (x.1 = no)) = r ∧ (∀ j (hj : j < F.length), j < r → decide (F[j].1 = no) = false) ∧ ∀ h : r < F.length, decide (F[r].1 = no) = true :=
      ⟨_, hlt, rfl, fun j hj hjr => by
        have := List.not_of_lt_findIdx (p := fun x : Fld => decide (x.1 = no)) (xs := F) (i := j) hjr
        simpa using this, fun h => List.findIdx_getElem (w := h)⟩
    rw [if_pos hlt]
    obtain ⟨r, hrl, er, hno, hyes⟩ := key
    rw [er]
    have HNO := Lib.hid hno
    have HYES := Lib.hid (hyes hrl)
    have HLE := Lib.hid hrl
    clear hno hyes er hlt
    have hrn : ((r : Int) == -1) = false := by simp
    have hr63 : (r : Int) + 1 ≤ 9223372036854775807 := by omega
    go_wp2_with fail
    go_loopw [5, 6] (fun ii jj wr => ∃ (i j : Nat) (c : Flds), i < j ∧ j ≤ F.length ∧ ii = .int .i64 i ∧ jj = .int .i64 j ∧ c.length = F.length ∧ c.take i = delM (F.take j) no ∧ c.drop j = F.drop j ∧
        Buf wr 45 2 (.slice pw F.length cw) F.length (c.flatMap fCells) ∧ Turn (bufBlock (.slice pw F.length cw)).toList w wr) (fun _ jj _ => F.length - (intOf jj).toNat)
    case atStart =>
      refine ⟨r, r + 1, F, by omega, by omega, rfl, by go_num, rfl, ?_, rfl, (H.out.below HB1.out).buf, Turn.of_below HB1.out⟩
      rw [List.take_succ_eq_append_getElem hrl, delM, List.filter_append]
      have e1 : List.filter (fun x => !decide (x.1 = no)) (F.take r) = F.take r := delM_none (F := F.take r) fun j hj => by
        rw [List.getElem_take]
        exact HNO.out j (by have := List.length_take (i := r) (l := F); omega) (by have := List.length_take (i := r) (l := F); omega)
      rw [e1]
      have := HYES.out
      simp [this]
    case round =>
      obtain ⟨i, j, c, hij, hj, rfl, rfl, hcl, htk, hdr, hB, ht⟩ := hrel
      have HTK := Lib.hid htk
      have HDR := Lib.hid hdr
      have HCL := Lib.hid hcl
      have HB := Lib.hid hB
      have HT := Lib.hid ht
      by_cases hlt2 : j < F.length
      · have hlt2' : (j : Int) < F.length := by omega
        have hcj : j < c.length := by omega
        have hcx : c[j] = F[j] := by
          have h1 : c[j]? = F[j]? := by
            have := congrArg (fun q => q[0]?) hdr
            simpa using this
          rw [List.getElem?_eq_getElem hcj, List.getElem?_eq_getElem hlt2] at h1
          simpa using h1
        obtain ⟨_, ⟨h2, _⟩ | ⟨wk, cap', cur, hv, h3, h4, h5, h6, h7, h8⟩⟩ := hB
        · omega
        simp only [Value.slice.injEq, true_and] at hv
        obtain ⟨rfl, rfl⟩ := hv
        have hbk : bufBlock (.slice (some ⟨wk, 0, none⟩) F.length cw) = some wk := by simp [bufBlock]; omega
        have hwb : wk ≠ bn := hvb wk hbk
        obtain ⟨f0, f1⟩ := fCells_at c j hcj
        rw [hcx] at f0 f1
        have q0 : wr.cell? ⟨wk, j * 2, none⟩ = some (.int .i64 F[j].1) := by rw [cells_at h3, take_get h8 (by omega)]; exact f0
        have q1 : wr.cell? ⟨wk, j * 2 + 1, none⟩ = some (.string F[j].2) := by rw [cells_at h3, take_get h8 (by omega)]; exact f1
        obtain ⟨x, ex⟩ : ∃ x, x = F[j] := ⟨_, rfl⟩
        rw [← ex] at q0 q1
        have hnb : wr.cell? ⟨bn, 0, none⟩ = some (.int .i64 no) := (World.cell?_of_block (a := ⟨bn, 0, none⟩) (ht.block bn (World.block_lt_of_cell? w _ HN.out) (by rw [hbk]; simp; exact fun e => hwb e.symm))).trans HN.out
        obtain ⟨wa, ea⟩ : ∃ W, wr.alloc (.cells #[.int .i64 x.1, .string x.2] 45) = W := ⟨_, rfl⟩
        have ba : Below wr.heap.size wr wa := by rw [← ea]; exact (Below.refl _ _).alloc (Nat.le_refl _) _
        have hla : wa.heap[wr.heap.size]? = some (.cells #[.int .i64 x.1, .string x.2] 45 (0, 0)) := by rw [← ea]; exact heap_alloc_last _ _
        have HC := Lib.hid (clos_is (ba.keptCell hnb) x)
        have HX := Lib.hid ex
        have HTS := Lib.hid (List.take_succ_eq_append_getElem hlt2)
        have HBA := Lib.hid ba
        have HLA := Lib.hid hla
        have HEA := Lib.hid ea
        have HBK := Lib.hid hbk
        obtain ⟨pb, hpb⟩ : ∃ pb, decide (x.1 = no) = pb := ⟨_, rfl⟩
        rw [hpb] at HC
        have HPB := Lib.hid hpb
        obtain ⟨n0, s0⟩ := x
        clear htk hdr hcl ht f0 f1 hcx h3 h4 h5 h6 h7 h8 hbk hnb ba hla ex hpb hcj ea
        go_wp2_with fail
        rw [HEA.out]
        refine HC.out.mono ?_
        rintro e w3 ⟨rfl, b3⟩
        have HB3 := Lib.hid (HBA.out.trans (b3.mono HBA.out.size))
        have hl3 := (b3.block wr.heap.size (Array.getElem?_eq_some_iff.1 HLA.out).1).trans HLA.out
        have z0 : w3.cell? ⟨wr.heap.size, 0, none⟩ = some (.int .i64 n0) := cells_at hl3 0
        have z1 : w3.cell? ⟨wr.heap.size, 1, none⟩ = some (.string s0) := cells_at hl3 1
        have HBF := Lib.hid (HB.out.kept fun k hk => HB3.out.block k (HB.out.lt k hk))
        have HT3 := Lib.hid (HT.out.trans (Turn.of_below HB3.out))
        clear b3 HC HEA hl3 q0 q1 HB HT
        cases pb with
        | true =>
          go_wp2_with fail
          go_roundw
          case rel =>
            refine ⟨i, j + 1, c, by omega, by omega, rfl, by go_num, HCL.out, ?_, ?_, HBF.out, HT3.out⟩
            · rw [HTK.out, HTS.out, delM, delM, List.filter_append, ← HX.out]
              have := HPB.out
              simp [this]
            · have := congrArg (List.drop 1) HDR.out
              simpa using this
          case measure => simp [intOf]; omega
        | false =>
          obtain ⟨C, hst, hB4⟩ := put_field HBF.out HCL.out i (by omega) (n0, s0)
          have HB4 := Lib.hid hB4
          have HST := Lib.hid hst
          have hil : (i : Int) < (F.length : Int) := by omega
          clear hB4 hst HBF
          go_wp2_with (with_reducible refine wpList_store_at rfl 45 (.tmp 33) (.tmp 32) rfl _ rfl _ rfl HST.out ?_)
          go_roundw
          case rel =>
            refine ⟨i + 1, j + 1, c.set i (n0, s0), by omega, by omega, by go_num, by go_num, by rw [List.length_set]; exact HCL.out, ?_, ?_, HB4.out, HT3.out.setRow (.inl (by rw [HBK.out]; simp)) _⟩
            · have hlen : (delM (F.take j) no).length = i := by
                rw [← HTK.out, List.length_take, HCL.out]
                omega
              rw [HTS.out, delM, List.filter_append, List.take_set, List.take_succ_eq_append_getElem (by rw [HCL.out]; omega), HTK.out]
              rw [List.set_append_right _ _ (by rw [hlen]; exact Nat.le_refl _), hlen, ← HX.out]
              have := HPB.out
              simp [this, delM]
            · rw [List.drop_set, if_pos (by omega)]
              have := congrArg (List.drop 1) HDR.out
              simpa using this
          case measure => simp [intOf]; omega
      · obtain rfl : j = F.length := by omega
        have hlt2' : ¬ (F.length : Int) < F.length := by omega
        obtain ⟨_, ⟨h2, _⟩ | ⟨wk, cap', cur, hv, h3, h4, h5, h6, h7, h8⟩⟩ := hB
        · omega
        simp only [Value.slice.injEq, true_and] at hv
        obtain ⟨rfl, rfl⟩ := hv
        have hz := zero45 wr
        have HG := Lib.hid h3
        have HCS := Lib.hid h7
        have HCT := Lib.hid h8
        have hbk : Hid (bufBlock (.slice (some ⟨wk, 0, none⟩) F.length cw) = some wk) := Lib.hid (by simp [bufBlock]; omega)
        have hfit : i * 2 + (F.length - i) * 2 ≤ cur.size := by rw [h7]; omega
        have h456 := Lib.hid (And.intro h4 (And.intro h5 h6))
        clear h3 h4 h5 h6 h7 h8 htk hdr hcl ht
        go_wp2_with (refine wpList_run rfl _ (exec_clear (.tmp 38) 30 45 rfl (g := wk) (o' := i * 2) (n := F.length - i) (c := cw - i) rfl (by omega) Tryd.underlying30 (.agg #[.int .i64 0, .string ⟨#[]⟩]) 2 hz rfl zero45_one HG.out hfit) ?_)
        go_ret
        have hk : c.take i = delM F no := by have := HTK.out; rwa [List.take_length] at this
        have hki : (delM F no).length = i := by
          rw [← hk, List.length_take, HCL.out]
          omega
        refine ⟨.slice (some ⟨wk, 0, none⟩) i cw, rfl, ⟨?_, fun g hg => ?_⟩, by rw [hbk.out]; simp [bufBlock]; have := h456.out.2.1; omega, HT.out.setRow (.inl (by simp [hbk.out])) _⟩
        · rw [hki, ← hk]
          refine cut_buf i (by omega) HCL.out (setRow_block HG.out) h456.out.1 h456.out.2.1 h456.out.2.2 ?_ ?_
          · have := HCS.out
            simp [Builtin.zeroCells]
            omega
          · rw [List.toList_toArray, List.take_left' (by rw [List.length_take, Array.length_toList]; omega), ← HCT.out, List.take_take]
            congr 1
            omega
        · have : g = wk := by
            unfold bufBlock at hg
            simp only at hg
            split at hg
            · cases hg
            · injection hg with hg; exact hg.symm
          subst this
          exact H.out.new g hbk.out
  · rw [if_neg hlt]
    have hk : delM F no = F := delM_none fun j hj => by
      have := List.not_of_lt_findIdx (p := fun x : Fld => decide (x.1 = no)) (xs := F) (i := j) (by omega)
      simpa using this
    have HK := Lib.hid hk
    clear hk hlt
    go_wp2_with fail
    go_ret
    exact ⟨_, rfl, by rw [HK.out]; exact H.out.below HB1.out, rfl, Turn.of_below HB1.out⟩
end Go.Proofs.YtjndfmpicnkplaaDoor.msgw
