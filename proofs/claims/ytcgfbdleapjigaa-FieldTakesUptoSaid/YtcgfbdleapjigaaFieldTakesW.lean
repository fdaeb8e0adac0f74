/- The walk of the law FieldTakes: it answers true. Conditions: as the theorems say. -/
import Derived.Test.YtcgfbdleapjigaaFieldN
import Derived.Test.YtcgfbdleapjigaaFieldRT
namespace Go.Proofs.Ytcgfbdleapjigaa.fieldw
open Go.RowKit Go.Proofs.Ytcgfbdleapjigaa.fieldp Go.Proofs.YtcgfbdleapjigaaW.PrintWords Go.Proofs.YtcgfbdleapjigaaW.PrintLast Go.Proofs.Ytcgfbdleapjigaa.fieldl

set_option maxHeartbeats 4000000 in
set_option maxRecDepth 100000 in
theorem take_own (k n c : Int) (A0 : Option Addr) (c0 : Nat) (l0 : List Int) (w : World) (hr0 : Kd.C (Kd.int .u8) w A0 l0.length l0) :
    Calls Try.prog 17 #[.slice A0 l0.length c0, .agg #[.int .i64 k, .int .i64 n, .int .i64 c]] w fun e w' => ∃ v1_ : Value, e = .returned (.tuple #[.string (takeR l0 k n c).1, v1_, .int .i64 (takeR l0 k n c).2.2]) ∧ ((v1_ = .slice none 0 0 ∧ (takeR l0 k n c).2.1 = []) ∨ ∃ (b cap : Nat) (l : List UInt8), v1_ = .slice (some ⟨b, 0, none⟩) l.length cap ∧ (takeR l0 k n c).2.1 = nums8 l ∧ l.length ≤ cap ∧ w.heap.size ≤ b ∧ BytesAt w' b l ∧ l.length ≤ 9223372036854775807) ∧ Below w.heap.size w w' := by
  have HM := Lib.hid (may_any k n c)
  have HR0 := Aside0.mk hr0
  clear hr0
  cases hm : mayB k n c with
  | false =>
    have e : takeR l0 k n c = (⟨#[]⟩, [], 40) := by simp [takeR, hm]
    rw [e]
    rw [hm] at HM
    clear e hm
    go_enter Try.func17, Try.ntmps17
    go_wp2_with fail
    refine (HM.out _).mono ?_
    rintro e w1 ⟨rfl, hb1⟩
    have HB := Lib.hid (((Below.refl w.heap.size w).alloc (Nat.le_refl _) _).trans (hb1.mono (by simp)))
    clear hb1
    go_wp2_with fail
    go_ret3
    exact ⟨_, rfl, .inl (by first | exact ⟨rfl, trivial⟩ | rfl | exact ⟨rfl, rfl⟩), HB.out⟩
  | true =>
    have hn : 1 ≤ n ∧ n ≤ 64 := by simp [mayB] at hm; omega
    have hlen := textL_len k n c (strOfNums l0).data.toList hn.1 hn.2
    have hR := fun w s (hs : s.size ≤ 100000000) => right_any k n c s w hs hn.1 hn.2
    have HRT := Lib.hid hR
    clear hR
    have HF := Lib.hid (show takeR l0 k n c = if (textL k n c (strOfNums l0).data.toList).2.2 ≠ 0 then (⟨#[]⟩, [], (textL k n c (strOfNums l0).data.toList).2.2)
      else if rightB k n (textL k n c (strOfNums l0).data.toList).1 = true then (⟨(textL k n c (strOfNums l0).data.toList).1.toArray⟩, nums8 (textL k n c (strOfNums l0).data.toList).2.1, 0)
      else (⟨#[]⟩, [], 42) by simp [takeR, hm])
    have HT := Lib.hid (fun b w hrd => text_any k n c b (strOfNums l0).data.toList w hrd hm)
    generalize takeR l0 k n c = R at HF ⊢
    have hrest := textL_rest k n c (strOfNums l0).data.toList
    generalize textL k n c (strOfNums l0).data.toList = T at HF HT hlen hrest
    obtain ⟨t, l', e'⟩ := T
    simp only at HF HT hlen hrest
    rw [hm] at HM
    have hl63 : l'.length ≤ 9223372036854775807 := Nat.le_trans hrest (by have := HR0.out.2.1; rw [strOf_len]; exact this)
    clear hm hn hrest
    go_enter Try.func17, Try.ntmps17
    go_wp2_with fail
    refine (HM.out _).mono ?_
    rintro e w1 ⟨rfl, hb1⟩
    have hz1 : w.heap.size < w1.heap.size := by have := hb1.size; simp at this; omega
    have hcv := Kd.C_string (P := Try.prog) (c := c0) Try.underlying22 Try.underlying5 Try.underlying9 (Kd.C_below (Kd.C_below HR0.out ((Below.refl _ _).alloc (Nat.le_refl _) _)) hb1)
    obtain ⟨hc1, hf1⟩ := bcell hb1
    have HB1 := Aside0.mk (((Below.refl w.heap.size w).alloc (Nat.le_refl _) _).trans (hb1.mono (by simp)))
    clear hb1
    have hk0 : ∀ o : Obj, (w1.alloc o).cell? ⟨w.heap.size, 0, none⟩ = some (.int .i64 k) := fun o => by
      rw [((Below.refl _ _).alloc (Nat.le_refl _) _).cell (p := ⟨w.heap.size, 0, none⟩) hz1, hc1 _ _ (by simp)]; go_simp
    have hk1 : ∀ o : Obj, (w1.alloc o).cell? ⟨w.heap.size, 1, none⟩ = some (.int .i64 n) := fun o => by
      rw [((Below.refl _ _).alloc (Nat.le_refl _) _).cell (p := ⟨w.heap.size, 1, none⟩) hz1, hc1 _ _ (by simp)]; go_simp
    have hk2 : ∀ o : Obj, (w1.alloc o).cell? ⟨w.heap.size, 2, none⟩ = some (.int .i64 c) := fun o => by
      rw [((Below.refl _ _).alloc (Nat.le_refl _) _).cell (p := ⟨w.heap.size, 2, none⟩) hz1, hc1 _ _ (by simp)]; go_simp
    have HK := Aside0.mk (And.intro hk0 (And.intro hk1 hk2))
    clear hk0 hk1 hk2
    go_wp2_with fail
    refine (HT.out _ _ (by show (w1.heap.push _)[w1.heap.size]? = _; simp)).mono ?_
    rintro e w3 ⟨rfl, hrd3, ht3⟩
    have hk0 : w3.cell? ⟨w.heap.size, 0, none⟩ = some (.int .i64 k) := ht3.cell (by show w.heap.size ≠ w1.heap.size; omega) (HK.out.1 _)
    have hk1 : w3.cell? ⟨w.heap.size, 1, none⟩ = some (.int .i64 n) := ht3.cell (by show w.heap.size ≠ w1.heap.size; omega) (HK.out.2.1 _)
    have hk2 : w3.cell? ⟨w.heap.size, 2, none⟩ = some (.int .i64 c) := ht3.cell (by show w.heap.size ≠ w1.heap.size; omega) (HK.out.2.2 _)
    have hr0 : w3.cell? ⟨w1.heap.size, 0, none⟩ = some (.string ⟨l'.toArray⟩) := blk_cell hrd3 0
    have hr1 : w3.cell? ⟨w1.heap.size, 1, none⟩ = some (.int .i64 e') := blk_cell hrd3 1
    have HB3 := Aside0.mk ((HB1.out.alloc (by omega) _).trans (ht3.below (by simp; omega) (by omega)))
    clear hrd3 ht3 hc1 hf1 hcv
    obtain ⟨D, hD⟩ : ∃ D : ByteArray, D = ⟨t.toArray⟩ := ⟨_, rfl⟩
    have hDs : D.size ≤ 100000000 := by rw [hD, size_arr]; omega
    have hDl : D.data.toList = t := by rw [hD]
    simp only [← hD] at HF ⊢
    have HDL := Lib.hid hDl
    clear hD hDl
    by_cases he : e' = 0
    · subst he
      have hRc := fun w => HRT.out w D hDs
      rw [HDL.out] at hRc
      have HRc := Lib.hid hRc
      clear hRc
      generalize rightB k n t = rb at HF HRc
      cases rb with
      | false =>
        have hRe : R = (⟨#[]⟩, [], 42) := by rw [HF.out]; simp
        subst hRe
        clear HF
        go_wp2_with fail
        refine (HRc.out _).mono ?_
        rintro e w4 ⟨rfl, hb4⟩
        have HB4 := Aside0.mk (HB3.out.trans (hb4.mono HB3.out.size))
        clear hb4
        go_wp2_with fail
        go_ret3
        exact ⟨_, rfl, .inl (by first | exact ⟨rfl, trivial⟩ | rfl | exact ⟨rfl, rfl⟩), HB4.out⟩
      | true =>
        have hRe : R = (D, nums8 l', 0) := by rw [HF.out]; simp
        subst hRe
        clear HF
        go_wp2_with fail
        refine (HRc.out _).mono ?_
        rintro e w4 ⟨rfl, hb4⟩
        have hr0' : w4.cell? ⟨w1.heap.size, 0, none⟩ = some (.string ⟨l'.toArray⟩) := (hb4.cell (World.block_lt_of_cell? w3 _ hr0)).trans hr0
        have HB4 := Aside0.mk (HB3.out.trans (hb4.mono HB3.out.size))
        clear hb4 hk0 hk1 hk2 hr0 hr1
        obtain ⟨S, hS⟩ : ∃ S : ByteArray, S = ⟨l'.toArray⟩ := ⟨_, rfl⟩
        rw [← hS] at hr0'
        have HS := Lib.hid hS
        clear hS
        have hcv := fun W => run_bytes_of_string (P := Try.prog) W 9 22 5 S Try.underlying9 Try.underlying22 Try.underlying5
        go_wp2_with fail
        go_region
        have HV := Aside0.mk (BytesAt.fresh w4 S (grownCap w4.drew S.size 0 5))
        have hcap := grownCap_ge w4.drew S.size 0 5
        have hSl : S.size = l'.length := by rw [HS.out]; exact size_arr l'
        have hSd : S.data.toList = l' := by rw [HS.out]
        rw [hSd] at HV
        have HSL := Lib.hid hSl
        have HCAP := Lib.hid hcap
        clear hcv hSl hSd hcap
        go_wp2_with fail
        go_ret3
        exact ⟨_, rfl, .inr ⟨w4.heap.size, grownCap w4.drew S.size 0 5, l', by rw [← HSL.out]; rfl, rfl, by have := HCAP.out; rw [HSL.out] at this ⊢; exact this, HB4.out.size, HV.out, hl63⟩, ((HB4.out.alloc HB4.out.size _).drew).drew⟩
    · have hne : (e' != 0) = true := by simpa using he
      have hRe : R = (⟨#[]⟩, [], e') := by rw [HF.out, if_pos he]
      subst hRe
      clear HF he
      go_wp2_with fail
      go_quiet (fail)
      go_wp2_with fail
      go_ret3
      exact ⟨_, rfl, .inl (by first | exact ⟨rfl, trivial⟩ | rfl | exact ⟨rfl, rfl⟩), pw_below_drewN HB3.out _⟩
/-- Take of the reference, of any form. -/
theorem reft_any (k n c : Int) (A0 : Option Addr) (c0 : Nat) (L : List UInt8) (hL : L.length ≤ 1048576) (w : World) (hr0 : Kd.C (Kd.int .u8) w A0 (nums8 L).length (nums8 L)) (hc0 : (nums8 L).length ≤ c0) :
    Calls Try.prog 18 #[.slice A0 (nums8 L).length c0, .agg #[.int .i64 k, .int .i64 n, .int .i64 c]] w fun e w' => ∃ v1_ : Value, e = .returned (.tuple #[.string (takeR (nums8 L) k n c).1, v1_, .int .i64 (takeR (nums8 L) k n c).2.2]) ∧ Kd.V (Kd.int .u8) 5 w' w.heap.size (fun k_ => (w.heap.size ≤ k_)) v1_ (takeR (nums8 L) k n c).2.1 ∧ Below w.heap.size w w' := by
  by_cases h : k = 2
  · subst h
    exact reft.reft_two n c A0 c0 L hL w hr0 hc0
  · exact reft.reft_one k n c h A0 c0 L hL w hr0 hc0
set_option maxHeartbeats 4000000 in
set_option maxRecDepth 100000 in
theorem takes_law (k n c : Int) (A0 : Option Addr) (c0 : Nat) (L : List UInt8) (hL : L.length ≤ 1048576) (w : World) (hr0 : Kd.C (Kd.int .u8) w A0 (nums8 L).length (nums8 L)) (hc0 : (nums8 L).length ≤ c0) :
    Calls Try.prog 4 #[.slice A0 (nums8 L).length c0, .agg #[.int .i64 k, .int .i64 n, .int .i64 c]] w fun e w' => e = .returned (.bool true) ∧ Below w.heap.size w w' := by
  have HS := Lib.hid shown_any
  have HR0 := Aside0.mk hr0
  have HC0 := Aside0.mk hc0
  have hlen : (nums8 L).length ≤ 1048576 := by simpa [nums8] using hL
  have HREF := Lib.hid (fun w' h => reft_any k n c A0 c0 L hL w' h hc0)
  clear hr0 hc0 hL
  have HOWN := Lib.hid (fun A cc w' h => take_own k n c A cc (nums8 L) w' h)
  generalize nums8 L = l0 at *
  go_enter Try.func4, Try.ntmps4
  go_wp2_with fail
  refine (HS.out _).mono ?_
  rintro e w1 ⟨rfl, hb1⟩
  have hfm := blk_below (blk_new w (.cells #[.int .i64 k, .int .i64 n, .int .i64 c] 24)) hb1
  have HFM := Aside0.mk hfm
  have HB1 := Aside0.mk (((Below.refl w.heap.size w).alloc (Nat.le_refl _) _).trans (hb1.mono (by simp)))
  have hz1 : w.heap.size < w1.heap.size := blk_lt hfm
  have HR1 := Aside0.mk (Kd.C_below (Kd.C_below HR0.out ((Below.refl w.heap.size w).alloc (Nat.le_refl _) _)) hb1)
  clear hb1 hfm
  go_wp2_with (first
    | ((with_reducible refine gate_dst (N := 15) rfl ?_); refine Kd.R_lit (Kd.int .u8) _ 5 ?hg (N := 15) ?hd (xs := ([] : List Int)) (inner := []) (ok := fun _ => True) (okp := fun _ => True) ?hr ?hp (fun _ hk => hk) trivial (Below.refl w1.heap.size w1) (Nat.le_refl _) (by simp) ?_; (case hd => rfl); (case hg => rfl); (case hr => first | (go_simp; done) | (go_simp; rfl)); (case hp => exact Reps.none _ _); intro v4 w4 ho hb hg_ hnew_; clear hg_; have HO4 := Aside0.mk ho; have HB4 := Aside0.mk hb; clear ho hb hnew_)
    | ((with_reducible refine gate_builtin (b := .append) (xs := #[.tmp 15, .tmp 16]) rfl ?_); at_builtin; refine Kd.R_append_rows (Kd.int .u8) (w0 := w1) w1.heap.size rfl (.tmp 15) (.tmp 16) 22 5 (.int .u8 0) 1 rfl Try.underlying22 infoU8 rfl (by decide) (by omega) v4 [] l0 _ _ _ (fun _ => True) (fun _ => False) rfl rfl ?aO ?aR (fun _ _ h => h) (fun _ h => h.elim) (fun _ _ => trivial) ?aB ?aS ?aL ?_; (case aO => exact HO4.out); (case aR => exact Kd.C_below HR1.out HB4.out); (case aB => exact HB4.out); (case aS => exact HB4.out.size); (case aL => simp; omega); intro v5 w5 ho hb hg_ hat_; rw [List.nil_append] at ho; have HO5 := Aside0.mk ho; have HB5 := Aside0.mk hb; clear ho hb hat_ hg_; obtain ⟨A5, c5, hv5⟩ := Kd.R_slice HO5.out; subst hv5; have hfm5 := blk_below HFM.out HB5.out; have f0 : w5.cell? ⟨w.heap.size, 0, none⟩ = some (.int .i64 k) := blk_cell hfm5 0; have f1 : w5.cell? ⟨w.heap.size, 1, none⟩ = some (.int .i64 n) := blk_cell hfm5 1; have f2 : w5.cell? ⟨w.heap.size, 2, none⟩ = some (.int .i64 c) := blk_cell hfm5 2; have HFM5 := Aside0.mk hfm5; clear hfm5))
  have H5 := Aside0.mk ((Kd.R_reads' HO5.out).2)
  have HR5 := Aside0.mk (Kd.C_below HR1.out HB5.out)
  have HBW5 := Aside0.mk (HB1.out.trans (HB5.out.mono (Nat.le_of_lt hz1)))
  clear HO4 HB4 HO5
  refine (HOWN.out A5 c5 _ H5.out.2).mono ?_
  rintro e w6 ⟨v6, rfl, hv6, hb6⟩
  have HV6 := Lib.hid hv6
  have HB6 := Aside0.mk hb6
  have HFM6 := Aside0.mk (blk_below HFM5.out hb6)
  have HR6 := Aside0.mk (Kd.C_below HR5.out hb6)
  have HC6 := Aside0.mk (Kd.C_below H5.out.2 hb6)
  have HBW6 := Aside0.mk (HBW5.out.trans (hb6.mono HBW5.out.size))
  have g0 : w6.cell? ⟨w.heap.size, 0, none⟩ = some (.int .i64 k) := blk_cell HFM6.out 0
  have g1 : w6.cell? ⟨w.heap.size, 1, none⟩ = some (.int .i64 n) := blk_cell HFM6.out 1
  have g2 : w6.cell? ⟨w.heap.size, 2, none⟩ = some (.int .i64 c) := blk_cell HFM6.out 2
  clear hv6 hb6 f0 f1 f2
  go_wp2_with fail
  refine (HREF.out _ HR6.out).mono ?_
  rintro e w7 ⟨v7, rfl, hv7, hb7⟩
  obtain ⟨A7, c7, rfl⟩ := Kd.V_slice hv7
  have HB7 := Aside0.mk hb7
  have HY7 := Aside0.mk (Kd.V_reads' hv7).2.2
  have HR7 := Aside0.mk (Kd.C_below HR6.out hb7)
  have HC7 := Aside0.mk (Kd.C_below HC6.out hb7)
  have HBW7 := Aside0.mk (HBW6.out.trans (hb7.mono HBW6.out.size))
  clear hv7 hb7 g0 g1 g2 HREF HOWN
  have hz56 : w5.heap.size ≤ w6.heap.size := HB6.out.size
  have hz67 : w6.heap.size ≤ w7.heap.size := HB7.out.size
  have HB57 := Aside0.mk (HB6.out.trans (HB7.out.mono hz56))
  have HC5 := Aside0.mk H5.out.2
  have hV := HV6.out
  clear HV6
  generalize takeR l0 k n c = R at *
  obtain ⟨R1, R2, R3⟩ := R
  simp only at hV HY7 ⊢
  rcases hV with ⟨rfl, hR2⟩ | ⟨b, cap, l, rfl, hR2, hcap, hbb, hBA, hl63⟩
  · subst hR2
    have ey : (convert 22 9 (.slice A7 0 c7)).run Try.prog w7 = .ok (.string (strOfNums [])) w7 := Kd.C_string (P := Try.prog) (w := w7) (c := c7) Try.underlying22 Try.underlying5 Try.underlying9 HY7.out
    have ex : (convert 22 9 (.slice none 0 0)).run Try.prog w7 = .ok (.string (strOfNums [])) w7 := Kd.C_string (P := Try.prog) (w := w7) (A := none) (c := 0) Try.underlying22 Try.underlying5 Try.underlying9 (show Kd.C (Kd.int .u8) w7 none ([] : List Int).length [] from ⟨rfl, Nat.zero_le _, fun h => absurd h (by decide)⟩)
    go_wp2_with fail
    go_loopw [13] (fun i wr => i = .int .i64 0 ∧ Below w5.heap.size w5 wr) (fun _ _ => 0)
    case atStart => exact ⟨rfl, HB57.out⟩
    case round =>
      obtain ⟨rfl, hB⟩ := hrel
      have HB := Aside0.mk hB
      clear hB ey ex
      have er := Kd.C_string (P := Try.prog) (w := wr) (c := c0) Try.underlying22 Try.underlying5 Try.underlying9 (Kd.C_below HR5.out HB.out)
      have eo := Kd.C_string (P := Try.prog) (w := wr) (c := c5) Try.underlying22 Try.underlying5 Try.underlying9 (Kd.C_below HC5.out HB.out)
      go_wp2_with fail
      go_ret
      exact ⟨by simp, HBW5.out.trans (HB.out.mono HBW5.out.size)⟩
  · subst hR2
    have hnl : (nums8 l).length = l.length := by simp [nums8]
    rw [hnl] at HY7
    have hBA7 : BytesAt w7 b l := by
      obtain ⟨C, fr, h1, h2, h3⟩ := hBA
      exact ⟨C, fr, (HB7.out.block b (Array.getElem?_eq_some_iff.1 h1).1).trans h1, h2, h3⟩
    have HBA7 := Lib.hid hBA7
    have ey : (convert 22 9 (.slice A7 l.length c7)).run Try.prog w7 = .ok (.string ⟨l.toArray⟩) w7 := by
      have h := Kd.C_string (P := Try.prog) (w := w7) (c := c7) Try.underlying22 Try.underlying5 Try.underlying9 (show Kd.C (Kd.int .u8) w7 A7 (nums8 l).length (nums8 l) from by rw [hnl]; exact HY7.out)
      rw [hnl, str_nums] at h
      exact h
    have ex := BytesAt.back (cap := cap) hBA7
    have HL63 := Lib.hid hl63
    clear hBA hBA7 hl63
    obtain ⟨D, hD⟩ : ∃ D : ByteArray, D = ⟨l.toArray⟩ := ⟨_, rfl⟩
    rw [← hD] at ex ey
    clear hD
    go_wp2_with fail
    go_loopw [13] (fun i wr => ∃ (j : Nat) (l' : List UInt8), j ≤ l.length ∧ i = .int .i64 j ∧ BytesAt wr b l' ∧ l'.length = l.length ∧ Below w5.heap.size w5 wr) (fun i _ => l.length - (intOf i).toNat)
    case atStart => exact ⟨0, l, Nat.zero_le _, rfl, HBA7.out, rfl, HB57.out⟩
    case round =>
      obtain ⟨j, l', hj, rfl, hbl, hll, hB⟩ := hrel
      have HB := Aside0.mk hB
      have HBL2 := Aside0.mk hbl
      clear ey ex hB
      by_cases hlt : j < l.length
      · have hold := hbl.cell j (by omega)
        have hfr := hbl.frozen j (by omega)
        have hwj : IntKind.i64.wrap ((j : Int) + 1) = (j : Int) + 1 := IntWalk.i64_in _ (by have := HL63.out; omega)
        clear hbl
        go_wp2_with fail
        exact ⟨⟨j + 1, l'.set j 99, by omega, by go_num, HBL2.out.set j 99, by simpa using hll, HB.out.setCell (Nat.le_trans (Nat.le_refl _) hbb) _⟩, by simp [intOf]; omega⟩
      · clear hbl
        have er := Kd.C_string (P := Try.prog) (w := wr) (c := c0) Try.underlying22 Try.underlying5 Try.underlying9 (Kd.C_below HR5.out HB.out)
        have eo := Kd.C_string (P := Try.prog) (w := wr) (c := c5) Try.underlying22 Try.underlying5 Try.underlying9 (Kd.C_below HC5.out HB.out)
        go_wp2_with fail
        go_ret
        exact ⟨by simp, HBW5.out.trans (HB.out.mono HBW5.out.size)⟩
end Go.Proofs.Ytcgfbdleapjigaa.fieldw
