/- Layer 11: the order in which prefixes were added is not seen: the law's walk. Conditions: as the theorem says. -/
import Derived.Test.YthfncbnokjikfaaDoorRtJ
import Derived.Test.YthfncbnokjikfaaDoorRtK
namespace Go.Proofs.YthfncbnokjikfaaDoor.routew
open Go.RowKit
open Go.Proofs.YthfncbnokjikfaaDoor.routep
open Go.Proofs.YthfncbnokjikfaaDoor.mapfn
open Go.Proofs.YthfncbnokjikfaaDoor.buf
open Go.Sort
/-- A row of routes in a block of one's own; their numbers lie anywhere. -/
structure InBuf (B : Nat) (W : World) (v : Value) (rs : List RtV) : Prop where
  buf : Buf W 25 2 v rs.length (rs.flatMap rtCells)
  new : ∀ g, bufBlock v = some g → B ≤ g
  rows : ∀ r ∈ rs, r.k.size ≤ maxLen ∧ r.to.length ≤ 1048576
theorem InBuf.routes {B : Nat} {W : World} {v : Value} {rs : List RtV} (h : InBuf B W v rs) (hr : ∀ r ∈ rs, r.Ok W) : ∃ A c, v = .slice A rs.length c ∧ RoutesIn W A rs := by
  obtain ⟨⟨h1, ⟨h2, h3⟩ | ⟨g, cap, cur, rfl, h3, h4, h5, h6, h7, h8⟩⟩, h9, h10⟩ := h
  · obtain rfl := List.eq_nil_of_length_eq_zero h2
    rcases h3 with rfl | ⟨g, rfl⟩
    · exact ⟨_, _, rfl, fun i hi => by simp at hi⟩
    · exact ⟨_, _, rfl, fun i hi => by simp at hi⟩
  · refine ⟨_, cap, rfl, fun i hi => ⟨g, 0, rfl, (Array.getElem?_eq_some_iff.1 h3).1, hr _ (List.getElem_mem hi), ?_, ?_⟩⟩
    · rw [cells_at h3, take_get h8 (by omega), Nat.zero_add]
      exact (rtCells_at rs i hi).1
    · rw [cells_at h3, take_get h8 (by omega), Nat.zero_add]
      exact (rtCells_at rs i hi).2
theorem InBuf.below {B : Nat} {W W' : World} {v : Value} {rs : List RtV} (h : InBuf B W v rs) (hb : Below W.heap.size W W') : InBuf B W' v rs :=
  ⟨h.buf.kept fun k hk => hb.block k (h.buf.lt k hk), h.new, h.rows⟩
theorem listOf_reverse {l : Tab} (h : (l.map (·.1)).Nodup) : listOf l.reverse = listOf l := by
  have e : sortedKeys l.reverse = sortedKeys l := mergeSort_of_perm ((List.reverse_perm l).map _)
  unfold listOf
  rw [e]
  exact List.map_congr_left fun k _ => by rw [get_reverse h]
/-- New at a number of members that may not be. -/
theorem new_bad {w : World} {v : Value} {mem : Int} (hm : ¬ (1 ≤ mem ∧ mem ≤ 6)) : Calls Tryd.prog 8 #[v, .int .i64 mem] w fun e w' => e = .returned (.tuple #[.pointer none, .int .i64 130]) ∧ w' = w := by
  go_enter Tryd.func8, Tryd.ntmps8
  by_cases h1 : mem < 1
  · go_wp2_with fail
    go_ret2
    exact ⟨rfl, rfl⟩
  · have h2 : 6 < mem := by omega
    go_wp2_with fail
    go_ret2
    exact ⟨rfl, rfl⟩
theorem new_uni {w : World} {A : Option Addr} {rs : List RtV} (h : RoutesIn w A rs) (hn : rs.length ≤ 1048576) (c : Nat) (mem : Int) :
    Calls Tryd.prog 8 #[.slice A rs.length c, .int .i64 mem] w fun e w' => Below w.heap.size w w' ∧
      ((∃ ee, (ee ≠ 0 ∧ ¬ (okT mem (tabOf rs) ∧ 1 ≤ mem ∧ mem ≤ 6)) ∧ e = .returned (.tuple #[.pointer none, .int .i64 ee])) ∨
       (okT mem (tabOf rs) ∧ (1 ≤ mem ∧ mem ≤ 6) ∧ ∃ g b, e = .returned (.tuple #[.pointer (some ⟨g, 0, none⟩), .int .i64 0]) ∧ TabAt w' g b mem (tabOf rs))) := by
  by_cases hm : 1 ≤ mem ∧ mem ≤ 6
  · refine (new_in h hn c hm).mono ?_
    rintro e w' ⟨hb, ⟨h1, rfl⟩ | ⟨h1, g, b, rfl, hT, _⟩⟩
    · exact ⟨hb, .inl ⟨_, ⟨h1, fun hok => h1 ((newR_ok mem (tabOf rs) [] ⟨fun p h => (by cases h), by simp, by simp⟩).1.2 (by simpa using hok.1))⟩, rfl⟩⟩
    · exact ⟨hb, .inr ⟨by have := (newR_ok mem (tabOf rs) [] ⟨fun p h => (by cases h), by simp, by simp⟩).1.1 h1; simpa using this, hm, g, b, rfl, hT⟩⟩
  · refine (new_bad hm).mono ?_
    rintro e w' ⟨rfl, rfl⟩
    exact ⟨Below.refl _ _, .inl ⟨130, ⟨by decide, fun hok => hm hok.2⟩, rfl⟩⟩
/-- Cards that came in. -/
def PansIn (w : World) (A : Option Addr) (ps : List ByteArray) : Prop := ∀ i (hi : i < ps.length), ∃ b o, A = some ⟨b, o, none⟩ ∧ ps[i].size ≤ maxLen ∧ w.cell? ⟨b, o + i, none⟩ = some (.string ps[i])
theorem PansIn.below {w w' : World} {A : Option Addr} {ps : List ByteArray} (h : PansIn w A ps) (hb : Below w.heap.size w w') : PansIn w' A ps := by
  intro i hi
  obtain ⟨b, o, h1, h2, h3⟩ := h i hi
  exact ⟨b, o, h1, h2, hb.keptCell h3⟩
theorem rows_ok {w : World} {A : Option Addr} {rs : List RtV} (h : RoutesIn w A rs) {mem : Int} (hok : okT mem (tabOf rs)) : Rows (tabOf rs) := by
  intro p hp
  obtain ⟨i, hi, rfl⟩ := List.getElem_of_mem hp
  have hi' : i < rs.length := by simpa [tabOf] using hi
  obtain ⟨_, _, _, _, h1, _⟩ := h i hi'
  have h2 := (hok.1 _ hp).2
  have e : (tabOf rs)[i] = (rs[i].k.data.toList, rs[i].to) := by simp [tabOf]
  rw [e] at h2 ⊢
  exact ⟨fun e0 => by simp [mayRow, show rs[i].to = [] from e0] at h2, h1.2.1⟩
theorem tabOf_reverse (rs : List RtV) : tabOf rs.reverse = (tabOf rs).reverse := by simp [tabOf]
set_option maxRecDepth 100000 in
set_option maxHeartbeats 4000000 in
theorem order_walk (w : World) {A A2 : Option Addr} {rs : List RtV} {ps : List ByteArray} (c c2 : Nat) (h : RoutesIn w A rs) (hn : rs.length ≤ 1048576) (mem : Int) (hps : PansIn w A2 ps) (hpn : ps.length ≤ 1048576) :
    Calls Tryd.prog 4 #[.slice A rs.length c, .int .i64 mem, .slice A2 ps.length c2] w fun e w' => e = .returned (.bool true) ∧ Below w.heap.size w w' := by
  have H0 := Lib.hid h
  have P0 := Lib.hid hps
  have HS := Lib.hid (shown_any w)
  clear h hps
  go_enter Tryd.func4, Tryd.ntmps4
  go_wp2_with fail
  refine HS.out.mono ?_
  rintro e w1 ⟨rfl, b1⟩
  have HN := Lib.hid (new_uni (H0.out.below b1) hn c mem)
  have HR1 := Lib.hid (H0.out.below b1)
  have HP1 := Lib.hid (P0.out.below b1)
  have BB1 := Lib.hid b1
  clear HS H0 P0 b1
  go_wp2_with fail
  refine HN.out.mono ?_
  rintro e w2 ⟨b2, ⟨ee, ⟨hne, _⟩, rfl⟩ | ⟨hok, hm, g, b, rfl, hT⟩⟩
  · have BB2 := Lib.hid (BB1.out.trans (b2.mono BB1.out.size))
    clear HN BB1 HR1 HP1 b2
    go_wp2_with fail
    go_ret
    exact ⟨rfl, BB2.out⟩
  have OK := Lib.hid hok
  have RW := Lib.hid (rows_ok HR1.out hok)
  have T2 := Lib.hid hT
  have R2 := Lib.hid (HR1.out.below b2)
  have P2 := Lib.hid (HP1.out.below b2)
  have BB2 := Lib.hid (BB1.out.trans (b2.mono BB1.out.size))
  have HM := Lib.hid hm
  clear hT hok hm b2 HN BB1 HR1 HP1
  go_wp2_with fail
  have b3 : Below w2.heap.size w2 (w2.alloc (.cells #[] 25)) := (Below.refl _ _).alloc (Nat.le_refl _) _
  obtain ⟨w3, e3⟩ : ∃ W, w2.alloc (.cells #[] 25) = W := ⟨_, rfl⟩
  rw [e3] at b3
  rw [e3]
  have B3 := Lib.hid b3
  clear b3 e3
  go_loopw [11, 10] (fun i v wr => ∃ k : Nat, k ≤ rs.length ∧ i = .int .i64 ((rs.length : Int) - 1 - k) ∧ Below w2.heap.size w2 wr ∧ InBuf w2.heap.size wr v (rs.reverse.take k)) (fun i _ _ => (intOf i + 1).toNat)
  case atStart => exact ⟨0, by omega, by go_num, B3.out, ⟨⟨rfl, .inl ⟨rfl, .inr ⟨_, rfl⟩⟩⟩, fun g hg => by simp [bufBlock] at hg, fun r hr => by simp at hr⟩⟩
  case round =>
    obtain ⟨k, hk, rfl, hbw, hI⟩ := hrel
    by_cases hlt : k < rs.length
    · obtain ⟨j, hj⟩ : ∃ j : Nat, (rs.length : Int) - 1 - k = j := ⟨rs.length - 1 - k, by omega⟩
      have hjl : j < rs.length := by omega
      have hjl' : (j : Int) < rs.length := by omega
      have hj0 : (0 : Int) ≤ j := by omega
      rw [hj]
      obtain ⟨b1, o1, rfl, _, ok1, p0, p1⟩ := (R2.out.below hbw) j hjl
      have hrev : rs.reverse[k]? = some rs[j] := by
        rw [List.getElem?_reverse hlt]
        have : rs.length - 1 - k = j := by omega
        rw [this, List.getElem?_eq_getElem hjl]
      obtain ⟨x, ex⟩ : ∃ x, x = rs[j] := ⟨_, rfl⟩
      rw [← ex] at ok1 p0 p1 hrev
      obtain ⟨p', c', ev⟩ := ok1.2.2.shape
      have htk : rs.reverse.take (k + 1) = rs.reverse.take k ++ [x] := by
        rw [List.take_add_one, hrev]
        rfl
      have HTK := Lib.hid htk
      rw [ev] at p1
      have HXV := Lib.hid ev
      have HOK1 := Lib.hid (And.intro ok1.1 ok1.2.1)
      have HI := Lib.hid hI
      have HBW := Lib.hid hbw
      have hlen : (rs.reverse.take k).length = k := by rw [List.length_take, List.length_reverse]; omega
      obtain ⟨W1, e1⟩ : ∃ W, wr.alloc (.cells #[.string x.k, .slice p' x.to.length c'] 25) = W := ⟨_, rfl⟩
      have b11 : Below wr.heap.size wr W1 := by rw [← e1]; exact (Below.refl _ _).alloc (Nat.le_refl _) _
      have hlast : W1.heap[wr.heap.size]? = some (.cells #[.string x.k, .slice p' x.to.length c'] 25 (0, 0)) := by rw [← e1]; exact heap_alloc_last _ _
      have hbW : Buf W1 25 2 u10 k ((rs.reverse.take k).flatMap rtCells) := by
        have := (hI.below b11).buf
        rwa [hlen] at this
      have hnews : ∀ (q : Nat) u, [Value.string x.k, .slice p' x.to.length c'][q]? = some u → W1.cell? ((⟨wr.heap.size, 0, none⟩ : Addr).add q) = some u := fun q u hu => by
        have hadd : (⟨wr.heap.size, 0, none⟩ : Addr).add q = ⟨wr.heap.size, q, none⟩ := by unfold Addr.add; split <;> simp_all
        rw [hadd, cells_at hlast]
        simpa using hu
      have hone : ∀ u ∈ [Value.string x.k, .slice p' x.to.length c'], u.oneCell' = true := by
        intro u hu
        simp at hu
        rcases hu with rfl | rfl <;> rfl
      have h63 : k + 1 ≤ maxLen := by simp only [maxLen]; omega
      have hby : (k + 1) * 40 ≤ 140737488355328 := by omega
      have hfin : ∀ gg cap w4, Buf w4 25 2 (.slice (some ⟨gg, 0, none⟩) (k + 1) cap) (k + 1) ((rs.reverse.take k).flatMap rtCells ++ [.string x.k, .slice p' x.to.length c']) → W1.grownBy w4 (bufBlock u10) → (bufBlock u10 = some gg ∨ gg = W1.heap.size) →
          Below w2.heap.size w2 w4 ∧ InBuf w2.heap.size w4 (.slice (some ⟨gg, 0, none⟩) (k + 1) cap) (rs.reverse.take (k + 1)) := fun gg cap w4 hB hg hat => by
        have hb1 := HBW.out.trans (b11.mono HBW.out.size)
        refine ⟨⟨hg.os.trans hb1.os, hg.tape.trans hb1.tape, hg.output.trans hb1.output, by have := hg.size; have := hb1.size; omega, fun q hq => ?_⟩, ?_, fun q hq => ?_, fun r hr => ?_⟩
        · refine (hg.block q (by have := hb1.size; omega) fun e => ?_).trans (hb1.block q hq)
          have := HI.out.new q e.symm
          omega
        · rw [HTK.out, List.length_append, hlen, List.flatMap_append]
          have : [x].flatMap rtCells = [.string x.k, .slice p' x.to.length c'] := by simp [rtCells, HXV.out]
          rw [this]
          exact hB
        · have : q = gg := by
            unfold bufBlock at hq
            simp only at hq
            split at hq
            · cases hq
            · injection hq with hq; exact hq.symm
          subst this
          rcases hat with h2 | h2
          · exact HI.out.new q h2
          · have := hb1.size; omega
        · rw [HTK.out] at hr
          rcases List.mem_append.1 hr with hr | hr
          · exact HI.out.rows r hr
          · obtain rfl : r = x := by simpa using hr
            exact HOK1.out
      have HFIN := Lib.hid hfin
      have E1 := Lib.hid e1
      clear hfin hlast b11 e1 hI hbw ok1 ex hrev htk ev hlen
      go_wp2_with (rw [E1.out]; refine wpList_append_buf rfl (.tmp 46) (.tmp 51) 22 rfl 25 _ 2 40 Tryd.underlying22 info25f rfl (by omega) u10 k _ rfl hbW ⟨wr.heap.size, 0, none⟩ 1 1 rfl [.string x.k, .slice p' x.to.length c'] rfl hnews hone (by omega) h63 hby ?_; intro gg cap w4 hB hg hc1 _ hat _; obtain ⟨k0, k1⟩ := HFIN.out gg cap w4 hB hg hat; clear hB hg hat)
      go_roundw
      case rel => exact ⟨k + 1, by omega, by go_num, k0, k1⟩
      case measure => simp [intOf] <;> omega
    · obtain rfl : k = rs.length := by omega
      have hm1 : ((rs.length : Int) - 1 - rs.length) = -1 := by omega
      rw [hm1]
      have hrt : rs.reverse.take rs.length = rs.reverse := by rw [List.take_of_length_le]; simp
      rw [hrt] at hI
      have hRw := R2.out.below hbw
      obtain ⟨A3, c3, rfl, hR3⟩ := hI.routes (fun r hr => by
        obtain ⟨q, hq, rfl⟩ := List.getElem_of_mem (List.mem_reverse.1 hr)
        obtain ⟨_, _, _, _, h1, _⟩ := hRw q hq
        exact h1)
      have hrl : rs.reverse.length = rs.length := by simp
      have HN := Lib.hid (new_uni hR3 (by rw [hrl]; exact hn) c3 mem)
      rw [hrl] at HN
      have HBW := Lib.hid hbw
      have HRL := Lib.hid hrl
      rw [hrl]
      clear hm1 hrt hRw hR3 hI hbw hrl
      go_wp2_with fail
      refine HN.out.mono ?_
      rintro e w4 ⟨b4, ⟨ee, ⟨_, hno⟩, rfl⟩ | ⟨_, _, g2, bb2, rfl, hT4⟩⟩
      · exact absurd ⟨by rw [tabOf_reverse]; exact okT_reverse OK.out, HM.out⟩ hno
      rw [tabOf_reverse] at hT4
      have HB4 := HBW.out.trans (b4.mono HBW.out.size)
      have X4 := Lib.hid (T2.out.below HB4)
      have Y4 := Lib.hid hT4
      have P4 := Lib.hid (P2.out.below HB4)
      have BB4 := Lib.hid (BB2.out.trans (HB4.mono BB2.out.size))
      obtain ⟨tab, etab⟩ : ∃ t, tabOf rs = t := ⟨_, rfl⟩
      rw [etab] at X4 Y4 OK RW
      have OKR := Lib.hid (okT_reverse OK.out)
      have RWR := Lib.hid (show Rows tab.reverse from fun p hp => RW.out p (List.mem_reverse.1 hp))
      have hk8 : ∀ {l : Tab}, okT mem l → ∀ p ∈ l, p.1.length ≤ 8 := fun hok p hpm => by
        have := (hok.1 p hpm).1
        simp only [mayKey, Bool.and_eq_true, decide_eq_true_eq] at this
        exact this.1.2
      have L4 := Lib.hid (list_any X4.out OK.out.2.1 OK.out.2.2 RW.out (hk8 OK.out))
      have HK8 := Lib.hid (hk8 OKR.out)
      clear b4 HB4 hT4 etab hk8 HN HBW BB2 T2 P2 R2 B3
      go_wp2_with fail
      refine L4.out.mono ?_
      rintro e w5 ⟨v5, rs5, rfl, b5, o5, t5⟩
      have X5 := Lib.hid (X4.out.below b5)
      have Y5 := Lib.hid (Y4.out.below b5)
      have P5 := Lib.hid (P4.out.below b5)
      have BB5 := Lib.hid (BB4.out.trans (b5.mono BB4.out.size))
      obtain ⟨A5, c5, rfl, r5⟩ := o5.routes
      have R5 := Lib.hid r5
      have TT5 := Lib.hid t5
      have L5 := Lib.hid (list_any Y5.out OKR.out.2.1 OKR.out.2.2 RWR.out HK8.out)
      clear b5 o5 t5 r5 L4 X4 Y4 P4 BB4
      go_wp2_with fail
      refine L5.out.mono ?_
      rintro e w6 ⟨v6, rs6, rfl, b6, o6, t6⟩
      have X6 := Lib.hid (X5.out.below b6)
      have Y6 := Lib.hid (Y5.out.below b6)
      have P6 := Lib.hid (P5.out.below b6)
      have BB6 := Lib.hid (BB5.out.trans (b6.mono BB5.out.size))
      obtain ⟨A6, c6, rfl, r6⟩ := o6.routes
      have hl5 : rs5.length ≤ 1048576 := by
        have := congrArg List.length TT5.out
        rw [show (tabOf rs5).length = rs5.length by simp [tabOf], show (listOf tab).length = tab.length by simp [listOf]; exact sortedKeys_len _] at this
        have := OK.out.2.2
        omega
      have SM := Lib.hid (same_any (c := c5) (c2 := c6) (R5.out.below b6) r6 hl5)
      rw [decide_eq_true (show tabOf rs5 = tabOf rs6 by rw [TT5.out, t6, listOf_reverse OK.out.2.1])] at SM
      clear b6 o6 t6 r6 hl5 L5 X5 Y5 P5 BB5 R5 TT5
      go_wp2_with fail
      refine SM.out.mono ?_
      rintro e w7 ⟨rfl, b7⟩
      have X7 := Lib.hid (X6.out.below b7)
      have Y7 := Lib.hid (Y6.out.below b7)
      have P7 := Lib.hid (P6.out.below b7)
      have BB7 := Lib.hid (BB6.out.trans (b7.mono BB6.out.size))
      clear b7 SM X6 Y6 P6 BB6
      go_wp2_with fail
      go_loopw [15, 14] (fun i ok wr => ∃ k : Nat, k ≤ ps.length ∧ i = .int .i64 k ∧ ok = .bool true ∧ Below w7.heap.size w7 wr) (fun i _ _ => ps.length - (intOf i).toNat)
      case atStart => exact ⟨0, by omega, rfl, rfl, Below.refl _ _⟩
      case round =>
        obtain ⟨k, hk, rfl, rfl, hbw⟩ := hrel
        by_cases hlt : k < ps.length
        · have hlt' : (k : Int) < ps.length := by omega
          obtain ⟨b1, o1, rfl, ok1, p0⟩ := (P7.out.below hbw) k hlt
          obtain ⟨x, ex⟩ : ∃ x, x = ps[k] := ⟨_, rfl⟩
          rw [← ex] at ok1 p0
          have F1 := Lib.hid (find_uni (X7.out.below hbw) RW.out x ok1)
          have HBW := Lib.hid hbw
          have HX := Lib.hid ok1
          clear ex ok1 hbw
          go_wp2_with fail
          refine F1.out.mono ?_
          rintro e w8 ⟨va, rfl, ia, b8⟩
          have q0 : w8.cell? ⟨b1, o1 + k, none⟩ = some (.string x) := b8.keptCell p0
          have HB8 := Lib.hid (HBW.out.trans (b8.mono HBW.out.size))
          have IA := Lib.hid ia
          have F2 := Lib.hid (find_uni (Y7.out.below HB8.out) RWR.out x HX.out)
          rw [find_reverse OK.out.2.1] at F2
          obtain ⟨fx, hfx⟩ : ∃ fx, find tab x.data.toList = fx := ⟨_, rfl⟩
          rw [hfx] at F2 IA
          rw [hfx]
          clear p0 ia b8 F1 hfx HBW
          go_wp2_with fail
          refine F2.out.mono ?_
          rintro e w9 ⟨vb, rfl, ib, b9⟩
          have FI := Lib.hid (ints_any (IA.out.below b9) ib)
          rw [decide_eq_true rfl] at FI
          have HB9 := Lib.hid (HB8.out.trans (b9.mono HB8.out.size))
          have hself : (fx.isSome == fx.isSome) = true := by simp
          clear q0 ib b9 F2 IA HB8
          go_wp2_with fail
          refine FI.out.mono ?_
          rintro e w10 ⟨rfl, b10⟩
          have HB10 := Lib.hid (HB9.out.trans (b10.mono HB9.out.size))
          clear b10 FI HB9
          go_wp2_with fail
          go_roundw
          case rel => exact ⟨k + 1, by omega, by go_num, by simp, HB10.out⟩
          case measure => simp [intOf]; omega
        · obtain rfl : k = ps.length := by omega
          have hlt' : ¬ (ps.length : Int) < ps.length := by omega
          have HBW := Lib.hid (BB7.out.trans (hbw.mono BB7.out.size))
          clear hbw
          go_wp2_with fail
          go_ret
          exact ⟨rfl, HBW.out⟩
end Go.Proofs.YthfncbnokjikfaaDoor.routew
