/- Walks of layer 3: slices.DeleteFunc in Flush. Conditions: as each theorem says. -/
import Derived.Test.YtpnijopbbbgffaaPlantV
namespace Go.Proofs.Ytpnijopbbbgffaa.plantw
open Go.RowKit
open Go.Proofs.Ytpnijopbbbgffaa.plantp
open Go.Proofs.Ytpnijopbbbgffaa.mapfn
open Go.Proofs.Ytpnijopbbbgffaa.buf
/-- What a flush of disk d leaves waiting. -/
def keepL (d : Nat) (l : List Wt) : List Wt := l.filter (fun w => w.dev != d)
def DelAt (d m s : Nat) (l : List Wt) (f : Lit → Option Sec) (v : Value) (w : World) (e : Ending) (w' : World) : Prop :=
  ∃ (s' : Nat) (v' : Value), e = .returned v' ∧ Buf w' 72 66 v' (keepL d l).length ((keepL d l).flatMap wtL) ∧ bufBlock v' = bufBlock v ∧ Turn (m :: (bufBlock v).toList) w w' ∧
    MapFn secE Try.prog 3 w' m s' (fl d l f) ∧ s' + (keepL d l).length ≤ s + l.length
theorem load_whole {w : World} {b : Nat} {x : Wt} {t : TypeId} {fr : Nat × Nat} (h : w.heap[b]? = some (.cells (wtA x) t fr)) (hx : x.b.length = 64) : (loadVar 72 ⟨b, 0, none⟩).run Try.prog w = .ok (.agg (wtA x)) w :=
  run_loadVar_from (n := 66) Try.underlying72 rfl info72 (wtA_size x hx) fun j v hv => by
    rw [cells_at h]
    simpa using hv
theorem zero_one {n : Nat} : ∀ v ∈ (Builtin.zeroCells (Value.agg z66).cells n).toList, v.oneCell' = true := by
  intro v hv
  have h1 : ∀ u ∈ z66.toList, u.oneCell' = true := by decide
  simp only [Builtin.zeroCells, Array.toList_map, List.mem_map] at hv
  obtain ⟨a, _, rfl⟩ := hv
  have h2 : a % (Value.agg z66).cells.size < z66.size := Nat.mod_lt _ (by decide)
  rw [getElem!_pos (Value.agg z66).cells _ h2]
  exact h1 _ (by simp [Value.cells])
theorem keep_none {d : Nat} {l : List Wt} (h : ∀ j (h : j < l.length), l[j].dev ≠ d) : keepL d l = l := by
  refine List.filter_eq_self.2 fun x hx => ?_
  obtain ⟨j, hj, rfl⟩ := List.getElem_of_mem hx
  simpa using h j hj
set_option maxHeartbeats 4000000 in
set_option maxRecDepth 100000 in
theorem del_any {w : World} {bd bp g dk n cd d m s : Nat} {f : Lit → Option Sec} (hE : Env w bd bp g dk n cd d m) (hM : MapFn secE Try.prog 3 w m s f)
    {v : Value} {l : List Wt} (hbuf : Buf w 72 66 v l.length (l.flatMap wtL)) (hvm : bufBlock v ≠ some m) (hvO : ∀ k, bufBlock v = some k → k ≠ bd ∧ k ≠ bp ∧ k ≠ g ∧ k ≠ dk) (hl : ∀ x ∈ l, x.b.length = 64 ∧ x.place ≤ 65536) (hs : s + l.length < 1099511627776) :
    Calls Try.prog 34 #[v, .func (.func 35) #[] #[.pointer (some ⟨bd, 0, none⟩), .pointer (some ⟨bp, 0, none⟩)]] w (DelAt d m s l f v w) := by
  have HI := Lib.hid (index_any hE hM hbuf hvm hl hs)
  have HR := Lib.hid hbuf
  obtain ⟨pw, cw, rfl, hn, hcw⟩ := hbuf.shape
  unfold maxLen at hcw
  clear hbuf
  go_enter Try.func34, Try.ntmps34
  go_wp2_with fail
  refine HI.out.mono ?_
  rintro e w1 ⟨r, s1, hno, hor, ht1, hM1⟩
  have HNO := Lib.hid hno
  have HM1 := Lib.hid hM1
  clear hno hM1
  rcases hor with ⟨rfl, hs1, rfl⟩ | ⟨hrl, hrd, hs1, rfl⟩
  · go_wp2_with fail
    go_ret
    have hk := keep_none fun j h => HNO.out j h h
    refine ⟨s1, _, rfl, ?_, rfl, ht1.mono (by simp), ?_, by rw [hk]; omega⟩
    · rw [hk]
      exact HR.out.kept fun k hk => ht1.block k (HR.out.lt k hk) (by simp; exact fun e => hvm (by rw [hk, e]))
    · have := HM1.out
      rwa [List.take_of_length_le (by omega)] at this
  · have HRD := Lib.hid hrd
    clear hrd
    have hrn : ((r : Int) == -1) = false := by simp
    go_wp2_with fail
    go_loopw [5, 6] (fun ii jj wr => ∃ (i j s' : Nat) (c : List Wt), i < j ∧ j ≤ l.length ∧ ii = .int .i64 i ∧ jj = .int .i64 j ∧ c.length = l.length ∧ (∀ x ∈ c, x.b.length = 64) ∧ c.take i = keepL d (l.take j) ∧ c.drop j = l.drop j ∧
        Buf wr 72 66 (.slice pw l.length cw) l.length (c.flatMap wtL) ∧ Turn (m :: (bufBlock (.slice pw l.length cw)).toList) w wr ∧ MapFn secE Try.prog 3 wr m s' (fl d (l.take j) f) ∧ s' + i ≤ s + j) (fun _ jj _ => l.length - (intOf jj).toNat)
    case atStart =>
      refine ⟨r, r + 1, s1, l, by omega, by omega, rfl, by go_num, rfl, fun x hx => (hl x hx).1, ?_, rfl, HR.out.kept fun k hk => ht1.block k (HR.out.lt k hk) (by simp; exact fun e => hvm (by rw [hk, e])), ht1.mono (by simp), HM1.out, by omega⟩
      rw [List.take_succ_eq_append_getElem hrl, keepL, List.filter_append]
      have e1 : List.filter (fun w => w.dev != d) (l.take r) = l.take r := keep_none fun j h => by
        have hj : j < r := by simp at h; omega
        rw [List.getElem_take]
        exact HNO.out j (by omega) hj
      rw [e1]
      have := HRD.out
      simp [this]
    case round =>
      obtain ⟨i, j, s', c, hij, hj, rfl, rfl, hcl, hc64, htk, hdr, hB, ht, hM', hs'⟩ := hrel
      have HTK := Lib.hid htk
      have HDR := Lib.hid hdr
      have HB := Lib.hid hB
      have HMM := Lib.hid hM'
      have HCL := Lib.hid hcl
      clear htk hdr hB hM' hcl
      by_cases hlt2 : j < l.length
      · have hcj : j < c.length := by rw [HCL.out]; exact hlt2
        have hcl : c[j] = l[j] := by
          have h1 : c[j]? = l[j]? := by
            have := congrArg (fun q => q[0]?) HDR.out
            simpa using this
          rw [List.getElem?_eq_getElem hcj, List.getElem?_eq_getElem hlt2] at h1
          simpa using h1
        have hBc : Buf wr 72 66 (.slice pw l.length cw) c.length (c.flatMap wtL) := by rw [HCL.out]; exact HB.out
        obtain ⟨wk, cap, hv, hbk, hn', hcw', hld⟩ := Buf.load hBc hc64 j hcj
        obtain ⟨rfl, rfl⟩ : pw = some ⟨wk, 0, none⟩ ∧ cw = cap := by
          simp at hv
          exact ⟨hv.1, hv.2.2⟩
        rw [hcl] at hld
        have hx := (hl l[j] (by simp)).1
        have hxp := (hl l[j] (by simp)).2
        have hlw : (loadVar 72 ⟨wr.heap.size, 0, none⟩).run Try.prog (wr.alloc (.cells (wtA l[j]) 72)) = .ok (.agg (wtA l[j])) (wr.alloc (.cells (wtA l[j]) 72)) := load_whole (heap_alloc_last _ _) hx
        have hta : Turn [] wr (wr.alloc (.cells (wtA l[j]) 72)) := (Turn.refl _ _).alloc _
        have hOn : ∀ k ∈ m :: (bufBlock (.slice (some ⟨wk, 0, none⟩) l.length cw)).toList, k ≠ bd ∧ k ≠ bp ∧ k ≠ g ∧ k ≠ dk := fun k hk => by
          rcases List.mem_cons.1 hk with rfl | hk
          · exact ⟨hE.ne.1.symm, hE.ne.2.1.symm, hE.ne.2.2.1.symm, hE.ne.2.2.2.symm⟩
          · exact hvO k (by simpa using hk)
        have hE' := (hE.turn ht hOn).turn hta (by simp)
        have hMa : MapFn secE Try.prog 3 (wr.alloc (.cells (wtA l[j]) 72)) m s' (fl d (l.take j) f) := HMM.out.block (Below.heap_alloc _ _ _ HMM.out.lt)
        have HC := Lib.hid (clos_any hE'.hbd hE'.hbp hE'.hg hE'.hd hE'.hm hMa (by omega) l[j] hx hxp hE'.ne.1)
        have HT := Lib.hid (List.take_succ_eq_append_getElem hlt2)
        have sz1 := wtA_size l[j] hx
        have hz := zero72 wr
        have hst := store72_new (w := wr) (wtA l[j]) sz1 (wtA_one _)
        have HX := Lib.hid hx
        have HBc := Lib.hid hBc
        have HMlt := Lib.hid HMM.out.lt
        have HKD := Lib.hid hbk
        clear hE' hMa hcl hbk hn' hcw' hv hx hBc
        by_cases he : l[j].dev = d
        · have hb : (l[j].dev == d) = true := by simp [he]
          unfold ClosAt at HC
          rw [hb, if_pos he] at HC
          have HE := Lib.hid he
          clear he hb
          go_wp2_with (first | (with_reducible refine wpList_load_at rfl 72 (.tmp 24) rfl _ rfl _ hld ?_) | (with_reducible refine wpList_load_at rfl 72 (.tmp 7) rfl _ rfl _ hlw ?_))
          refine HC.out.mono ?_
          rintro e w3 ⟨rfl, ht3, s3, hM3, hs3⟩
          have HM3 := Lib.hid hM3
          clear hM3
          go_wp2_with fail
          go_roundw
          case rel =>
            refine ⟨i, j + 1, s3, c, by omega, by omega, rfl, by go_num, HCL.out, hc64, ?_, ?_, ?_, ht.trans (((Turn.refl _ _).alloc _).trans (ht3.mono (by simp))), ?_, by rw [if_pos HE.out] at hs3; omega⟩
            · rw [HT.out, keepL, List.filter_append, HTK.out, keepL]
              have := HE.out
              simp [this]
            · have := congrArg (List.drop 1) HDR.out
              simpa using this
            · refine HB.out.kept fun k hk => ?_
              have hlt := HB.out.lt k hk
              rw [ht3.block k (by simp; omega) (by simp; exact fun e => hvm (by rw [hk, e]))]
              exact Below.heap_alloc _ _ _ hlt
            · rw [HT.out, fl_snoc, if_pos HE.out]
              exact HM3.out
          case measure => simp [intOf]; omega
        · have hb : (l[j].dev == d) = false := by simp [he]
          unfold ClosAt at HC
          rw [hb, if_neg he] at HC
          have HE := Lib.hid he
          clear he hb
          go_wp2_with (first | (with_reducible refine wpList_load_at rfl 72 (.tmp 24) rfl _ rfl _ hld ?_) | (with_reducible refine wpList_load_at rfl 72 (.tmp 7) rfl _ rfl _ hlw ?_))
          refine HC.out.mono ?_
          rintro e w3 ⟨rfl, ht3, s3, hM3, hs3⟩
          have HM3 := Lib.hid hM3
          clear hM3
          have hlw3 : (loadVar 72 ⟨wr.heap.size, 0, none⟩).run Try.prog w3 = .ok (.agg (wtA l[j])) w3 := load_whole ((ht3.block wr.heap.size (by simp) (by have := HMlt.out; simp; omega)).trans (heap_alloc_last _ _)) HX.out
          have hB3 : Buf w3 72 66 (.slice (some ⟨wk, 0, none⟩) l.length cw) c.length (c.flatMap wtL) := HBc.out.kept fun k hk => by
            have hlt := HB.out.lt k hk
            rw [ht3.block k (by simp; omega) (by simp; exact fun e => hvm (by rw [hk, e]))]
            exact Below.heap_alloc _ _ _ hlt
          obtain ⟨wk', cap', C, hv', hbk', hst3, hB4⟩ := Buf.store hB3 hc64 i (by omega) l[j] HX.out
          obtain rfl : wk = wk' := by simp at hv'; exact hv'.1
          have HB4 := Lib.hid hB4
          have hil : (i : Int) < (l.length : Int) := by omega
          clear hB3 hB4 hv' hbk'
          go_wp2_with (first | (with_reducible refine wpList_load_at rfl 72 (.tmp 7) rfl _ rfl _ hlw3 ?_) | (with_reducible refine wpList_store_at rfl 72 (.tmp 33) (.tmp 32) rfl _ rfl _ rfl hst3 ?_))
          go_roundw
          case rel =>
            refine ⟨i + 1, j + 1, s3, c.set i l[j], by omega, by omega, by go_num, by go_num, by simp [HCL.out], fun x hx => ?_, ?_, ?_, ?_, (ht.trans (((Turn.refl _ _).alloc _).trans (ht3.mono (by simp)))).setRow (.inl (by simp [HKD.out])) _, ?_, by rw [if_neg HE.out] at hs3; omega⟩
            · rcases List.mem_or_eq_of_mem_set hx with hx | rfl
              · exact hc64 x hx
              · exact HX.out
            · rw [HT.out, keepL, List.filter_append, List.take_set, List.take_succ_eq_append_getElem (by omega), HTK.out, keepL]
              have h1 := HE.out
              have h2 : (List.filter (fun w => w.dev != d) (List.take j l)).length = i := by
                have := congrArg List.length HTK.out
                rw [List.length_take, keepL] at this
                omega
              rw [List.set_append_right _ _ (by omega), h2]
              simp [h1]
            · rw [List.drop_set, if_pos (by omega)]
              have := congrArg (List.drop 1) HDR.out
              simpa using this
            · have := HB4.out
              rw [HCL.out] at this
              exact this
            · rw [HT.out, fl_snoc, if_neg HE.out]
              exact HM3.out.block (setRow_other _ _ m _ (fun e => hvm (by rw [HKD.out, e])))
          case measure => simp [intOf]; omega
      · obtain rfl : j = l.length := by omega
        obtain ⟨_, ⟨h0, _⟩ | ⟨wk, cap, cur, hv, hg, hnc, hc0, hcm, hcs, hct⟩⟩ := HB.out
        · omega
        obtain ⟨rfl, rfl⟩ : pw = some ⟨wk, 0, none⟩ ∧ cw = cap := by
          simp at hv
          exact hv
        have hz := zero72 wr
        have HG := Lib.hid hg
        have HCS := Lib.hid hcs
        have HCT := Lib.hid hct
        have hbk : Hid (bufBlock (.slice (some ⟨wk, 0, none⟩) l.length cw) = some wk) := Lib.hid (by simp [bufBlock]; omega)
        have hfit : i * 66 + (l.length - i) * 66 ≤ cur.size := by rw [hcs, ← Nat.add_mul]; exact Nat.mul_le_mul_right _ (by omega)
        clear hv hg hcs hct
        go_wp2_with (refine wpList_run rfl _ (exec_clear (.tmp 38) 62 72 rfl (g := wk) (o' := i * 66) (n := l.length - i) (c := cw - i) rfl (by omega) Try.underlying62 (.agg z66) 66 hz rfl zero_one HG.out hfit) ?_)
        go_ret
        have hk : c.take i = keepL d l := by have := HTK.out; rwa [List.take_length] at this
        have hki : (keepL d l).length = i := by
          rw [← hk, List.length_take, HCL.out]
          omega
        have hcl := HCL.out
        refine ⟨s', .slice (some ⟨wk, 0, none⟩) i cw, rfl, ?_, by rw [hbk.out]; simp [bufBlock]; omega, ht.setRow (.inl (by simp [hbk.out])) _, ?_, by rw [hki]; exact hs'⟩
        · rw [hki, ← hk]
          refine Buf.cut (cur := cur) hc64 i (by omega) (setRow_block HG.out) (by omega) hc0 hcm ?_ (by rw [hcl]; exact HCT.out) ?_
          · have := HCS.out
            have hz6 : z66.size = 66 := rfl
            simp [Builtin.zeroCells, hz6]
            omega
          · rw [List.toList_toArray, List.take_append, List.length_take, List.take_take, Array.length_toList]
            have e : i * 66 - min (i * 66) cur.size = 0 := by omega
            rw [e, List.take_zero, List.append_nil]
            congr 1
            omega
        · have := HMM.out
          rw [List.take_length] at this
          exact this.block (setRow_other _ _ m _ (fun e => hvm (by rw [hbk.out, e])))
end Go.Proofs.Ytpnijopbbbgffaa.plantw
