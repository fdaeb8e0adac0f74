/- The walk of the reference's Take. Conditions: as each theorem says. -/
import Derived.Test.YtcgfbdleapjigaaRefT
import Derived.Test.YtcgfbdleapjigaaFieldN
namespace Go.Proofs.Ytcgfbdleapjigaa.reft
open Go.RowKit Go.Proofs.YtcgfbdleapjigaaW.PrintWords Go.Proofs.YtcgfbdleapjigaaW.PrintLast Go.Proofs.Ytcgfbdleapjigaa.PFieldTakes Go.Proofs.Ytcgfbdleapjigaa.fieldp Go.Proofs.Ytcgfbdleapjigaa.fieldw Go.Proofs.Ytcgfbdleapjigaa.fieldl

set_option maxHeartbeats 4000000 in
set_option maxRecDepth 100000 in
theorem reft_one (k n c : Int) (hk2 : k ≠ 2) (A0 : Option Addr) (c0 : Nat) (L : List UInt8) (hL : L.length ≤ 1048576) (w : World) (hr0 : Kd.C (Kd.int .u8) w A0 (nums8 L).length (nums8 L)) (hc0 : (nums8 L).length ≤ c0) :
    Calls Try.prog 18 #[.slice A0 (nums8 L).length c0, .agg #[.int .i64 k, .int .i64 n, .int .i64 c]] w fun e w' => ∃ v1_ : Value, e = .returned (.tuple #[.string (takeR (nums8 L) k n c).1, v1_, .int .i64 (takeR (nums8 L) k n c).2.2]) ∧ Kd.V (Kd.int .u8) 5 w' w.heap.size (fun k_ => (w.heap.size ≤ k_)) v1_ (takeR (nums8 L) k n c).2.1 ∧ Below w.heap.size w w' := by
  have HM := Lib.hid (fun w => groatref04_may.calls k n c _ w (ref_may k n c))
  have HR0 := Aside0.mk hr0
  have HC0 := Aside0.mk hc0
  have hk2' : (k == 2) = false := by simpa using hk2
  clear hr0 hc0
  cases hm : mayB k n c with
  | false =>
    have e : takeR (nums8 L) k n c = (⟨#[]⟩, [], 40) := by simp [takeR, hm]
    rw [e]
    rw [hm] at HM
    clear e hm
    go_enter Try.func18, Try.ntmps18
    go_wp2_with fail
    refine (HM.out _).mono ?_
    rintro e w1 ⟨rfl, hb1⟩
    have HB := Lib.hid (((Below.refl w.heap.size w).alloc (Nat.le_refl _) _).trans (hb1.mono (by simp)))
    clear hb1
    go_wp2_with fail
    go_ret3
    exact ⟨_, rfl, Kd.V_nil _ _ _ _ _, HB.out⟩
  | true =>
    have hn : 1 ≤ n ∧ n ≤ 64 := by simp [mayB] at hm; omega
    have hszp : 0 ≤ szN k n c n := by
      unfold szN
      repeat' split
      all_goals omega
    obtain ⟨sz, hsz⟩ : ∃ sz : Nat, szN k n c n = (sz : Int) := ⟨(szN k n c n).toNat, by omega⟩
    have hszb : sz ≤ 200 := by
      unfold szN at hsz
      repeat' split at hsz
      all_goals omega
    have HZ := Lib.hid (fun w => groatref04_size.calls k n c n _ w (ref_size k n c n (by omega) (by omega)))
    rw [hsz] at HZ
    rw [hm] at HM
    have hll : (nums8 L).length = L.length := by simp [nums8]
    have hsh := fun h : (L.length : Int) < szN k n c n => take_short hk2 hm (L := L) h
    have hlg := fun h : sz ≤ L.length => take_long hk2 hm sz hsz h
    rw [hsz] at hsh
    have HSH := Lib.hid hsh
    have HLG := Lib.hid hlg
    clear hm hsz hszp hsh hlg
    generalize takeR (nums8 L) k n c = R at HSH HLG ⊢
    go_enter Try.func18, Try.ntmps18
    go_wp2_with fail
    refine (HM.out _).mono ?_
    rintro e w1 ⟨rfl, hb1⟩
    have hfm := blk_below (blk_new w (.cells #[.int .i64 k, .int .i64 n, .int .i64 c] 24)) hb1
    have HFM := Aside0.mk hfm
    have HB1 := Aside0.mk (((Below.refl w.heap.size w).alloc (Nat.le_refl _) _).trans (hb1.mono (by simp)))
    have hz1 : w.heap.size < w1.heap.size := blk_lt hfm
    have HR1 := Aside0.mk (Kd.C_below (Kd.C_below HR0.out ((Below.refl _ _).alloc (Nat.le_refl _) _)) hb1)
    have f0 : w1.cell? ⟨w.heap.size, 0, none⟩ = some (.int .i64 k) := blk_cell hfm 0
    have f1 : w1.cell? ⟨w.heap.size, 1, none⟩ = some (.int .i64 n) := blk_cell hfm 1
    have f2 : w1.cell? ⟨w.heap.size, 2, none⟩ = some (.int .i64 c) := blk_cell hfm 2
    clear hb1 hfm
    go_wp2_with fail
    refine (HZ.out _).mono ?_
    rintro e w2 ⟨rfl, hb2⟩
    have HB2 := Aside0.mk (HB1.out.trans (hb2.mono (Nat.le_of_lt hz1)))
    have HFM2 := Aside0.mk (blk_below HFM.out hb2)
    have HR2 := Aside0.mk (Kd.C_below HR1.out hb2)
    have g0 : w2.cell? ⟨w.heap.size, 0, none⟩ = some (.int .i64 k) := blk_cell HFM2.out 0
    have g1 : w2.cell? ⟨w.heap.size, 1, none⟩ = some (.int .i64 n) := blk_cell HFM2.out 1
    have g2 : w2.cell? ⟨w.heap.size, 2, none⟩ = some (.int .i64 c) := blk_cell HFM2.out 2
    clear hb2 f0 f1 f2
    by_cases hlt : L.length < sz
    · have hlt' : ((nums8 L).length : Int) < (sz : Int) := by omega
      have hR := HSH.out (by omega)
      subst hR
      clear HLG HSH
      go_wp2_with fail
      go_ret3
      exact ⟨_, rfl, Kd.V_nil _ _ _ _ _, HB2.out⟩
    · have hlt' : ¬ ((nums8 L).length : Int) < (sz : Int) := by omega
      obtain ⟨s, okb, htx, hR⟩ := HLG.out (by omega)
      subst hR
      clear HLG HSH
      obtain ⟨i0, hi, hzz⟩ := Option.map_eq_some_iff.1 infoU8
      simp only [Prod.mk.injEq] at hzz
      obtain ⟨hzi, hz1i, hz2i⟩ := hzz
      have hcT := cut_to (P := Try.prog) 22 5 .i64 Try.underlying22 hi A0 L.length c0 sz (by omega) (by omega) (by have := HC0.out; omega)
      have hcD := cut_from (P := Try.prog) 22 5 .i64 Try.underlying22 hi 1 hz1i A0 L.length c0 sz (by omega) (by omega)
      rw [Int.toNat_natCast] at hcT hcD
      have hlT : (nums8 (L.take sz)).length = sz := by simp [nums8]; omega
      have hlD : (nums8 (L.drop sz)).length = L.length - sz := by simp [nums8]
      have hcC : sz ≤ c0 := by have := HC0.out; omega
      have hdC : L.length - sz ≤ c0 - sz := by have := HC0.out; omega
      have HT := Lib.hid (fun w' h => groatref04_text.calls 1500000 k n c A0 c0 (nums8 (L.take sz)) n s okb w' h (by omega) htx)
      rw [hlT] at HT
      have HCT := Lib.hid (fun (w' : World) (h : Kd.C (Kd.int .u8) w' A0 (nums8 L).length (nums8 L)) => (show Kd.C (Kd.int .u8) w' A0 sz (nums8 (L.take sz)) from by
        have h2 := Kd.C_take (m := sz) h (by omega)
        rw [show (nums8 L).take sz = nums8 (L.take sz) by simp [nums8], hlT] at h2
        exact h2))
      obtain ⟨AD, hAD⟩ : ∃ A1, A1 = (if c0 = sz then A0 else (A0 : Option Addr).map (·.add (sz * 1))) := ⟨_, rfl⟩
      rw [← hAD] at hcD
      have HCD := Lib.hid (fun (w' : World) (h : Kd.C (Kd.int .u8) w' A0 (nums8 L).length (nums8 L)) => (show Kd.C (Kd.int .u8) w' AD (nums8 (L.drop sz)).length (nums8 (L.drop sz)) from by
        have h2 := Kd.C_drop (m := sz) (c := c0) h (by omega) HC0.out
        rw [show (nums8 L).drop sz = nums8 (L.drop sz) by simp [nums8]] at h2
        rw [hAD]
        exact h2))
      obtain ⟨Y, hYe⟩ : ∃ Y, Y = nums8 (L.drop sz) := ⟨_, rfl⟩
      rw [← hYe] at HCD hlD
      have HYE := Lib.hid hYe
      clear hYe
      rw [← hlD] at hcD hdC
      generalize c0 - sz = cD at hcD hdC
      have HcD := Lib.hid hcD
      have hY : Y.length ≤ 1048576 := by omega
      clear hi hzi hz1i hz2i htx hAD hcD
      go_wp2_with fail
      go_region_held3 (fun w' => w'.cell? ⟨w.heap.size, 0, none⟩ = some (.int .i64 k) ∧ w'.cell? ⟨w.heap.size, 1, none⟩ = some (.int .i64 n) ∧ w'.cell? ⟨w.heap.size, 2, none⟩ = some (.int .i64 c)) (go_keep)
        (first | (go_at_call 34; refine (HT.out _ (HCT.out w2.drew (Kd.C_drew HR2.out))).mono ?_; rintro e_ w3 ⟨rfl, hb3⟩; have hB3 : Below w2.heap.size w2 w3 := ((Below.refl _ _).drew).trans hb3; have HB3 := Aside0.mk hB3; have r0 : w3.cell? ⟨w.heap.size, 0, none⟩ = some (.int .i64 k) := blk_cell (blk_below HFM2.out hB3) 0; have r1 : w3.cell? ⟨w.heap.size, 1, none⟩ = some (.int .i64 n) := blk_cell (blk_below HFM2.out hB3) 1; have r2 : w3.cell? ⟨w.heap.size, 2, none⟩ = some (.int .i64 c) := blk_cell (blk_below HFM2.out hB3) 2; clear hb3 hB3))
      clear r0 r1 r2 g0 g1 g2 HT HCT hcT hlT
      have hz2 : w.heap.size ≤ w2.heap.size := HB2.out.size
      have HBW3 := Aside0.mk (HB2.out.trans (HB3.out.mono hz2))
      have HR3 := Aside0.mk (Kd.C_below HR2.out HB3.out)
      cases okb with
      | false =>
        go_wp2_with fail
        go_ret3
        exact ⟨_, rfl, Kd.V_nil _ _ _ _ _, HBW3.out⟩
      | true =>
        clear hlD hlt
        have hcD := HcD.out
        have h0 : (0 : Int) ≤ (sz : Int) := by omega
        have hle : (sz : Int) ≤ (L.length : Int) := by omega
        go_wp2_with (first
          | ((with_reducible refine gate_dst (N := 72) rfl ?_); refine Kd.R_lit (Kd.int .u8) _ 5 ?hg (N := 72) ?hd (xs := ([] : List Int)) (inner := []) (ok := fun _ => True) (okp := fun _ => True) ?hr ?hp (fun _ hk => hk) trivial (Below.refl w3.heap.size w3) (Nat.le_refl _) (by simp) ?_; (case hd => rfl); (case hg => rfl); (case hr => first | (go_simp; done) | (go_simp; rfl)); (case hp => exact Reps.none _ _); intro v4 w4 ho hb hg_ hnew_; clear hg_; have HO4 := Aside0.mk ho; have HB4 := Aside0.mk hb; clear ho hb hnew_)
          | ((with_reducible refine gate_builtin (b := .append) (xs := #[.tmp 72, .tmp 75]) rfl ?_); at_builtin; refine Kd.R_append_rows (Kd.int .u8) (w0 := w3) w3.heap.size rfl (.tmp 72) (.tmp 75) 22 5 (.int .u8 0) 1 rfl Try.underlying22 infoU8 rfl (by decide) (by omega) v4 [] Y _ _ _ (fun _ => True) (fun _ => False) rfl rfl ?aO ?aR (fun _ _ h => h) (fun _ h => h.elim) (fun _ _ => trivial) ?aB ?aS ?aL ?_; (case aO => exact HO4.out); (case aR => exact HCD.out _ (Kd.C_below HR3.out HB4.out)); (case aB => exact HB4.out); (case aS => exact HB4.out.size); (case aL => simp; omega); intro v5 w5 ho hb hg_ hat_; rw [List.nil_append] at ho; have HO5 := Aside0.mk ho; have HB5 := Aside0.mk hb; clear ho hb hat_ hg_))
        go_ret3
        have hv := Kd.R_V (base' := w.heap.size) (Kd.R_mono (ok' := fun k_ => w.heap.size ≤ k_) (Kd.R_bound HO5.out) (fun k_ hk => Nat.le_trans HBW3.out.size hk.2.1))
        rw [HYE.out] at hv
        exact ⟨_, rfl, hv, HBW3.out.trans (HB5.out.mono HBW3.out.size)⟩
theorem ten_sub {b : UInt8} (h : inRow tenL b = true) : (b - 48).toNat < 10 := by
  obtain ⟨i, hi, rfl⟩ := ten_val h
  have : ∀ i : Fin 10, (UInt8.ofNat (48 + i.1) - 48).toNat < 10 := by decide
  exact this ⟨i, by omega⟩
set_option maxHeartbeats 4000000 in
set_option maxRecDepth 100000 in
theorem reft_two (n c : Int) (A0 : Option Addr) (c0 : Nat) (L : List UInt8) (hL : L.length ≤ 1048576) (w : World) (hr0 : Kd.C (Kd.int .u8) w A0 (nums8 L).length (nums8 L)) (hc0 : (nums8 L).length ≤ c0) :
    Calls Try.prog 18 #[.slice A0 (nums8 L).length c0, .agg #[.int .i64 2, .int .i64 n, .int .i64 c]] w fun e w' => ∃ v1_ : Value, e = .returned (.tuple #[.string (takeR (nums8 L) 2 n c).1, v1_, .int .i64 (takeR (nums8 L) 2 n c).2.2]) ∧ Kd.V (Kd.int .u8) 5 w' w.heap.size (fun k_ => (w.heap.size ≤ k_)) v1_ (takeR (nums8 L) 2 n c).2.1 ∧ Below w.heap.size w w' := by
  have HM := Lib.hid (fun w => groatref04_may.calls 2 n c _ w (ref_may 2 n c))
  have HR0 := Aside0.mk hr0
  have HC0 := Aside0.mk hc0
  have HT1 := Lib.hid (fun w' h => reft_one 1 2 c (by decide) A0 c0 L hL w' h hc0)
  clear hr0 hc0
  cases hm : mayB 2 n c with
  | false =>
    have e : takeR (nums8 L) 2 n c = (⟨#[]⟩, [], 40) := by simp [takeR, hm]
    rw [e]
    rw [hm] at HM
    clear e hm
    go_enter Try.func18, Try.ntmps18
    go_wp2_with fail
    refine (HM.out _).mono ?_
    rintro e w1 ⟨rfl, hb1⟩
    have HB := Lib.hid (((Below.refl w.heap.size w).alloc (Nat.le_refl _) _).trans (hb1.mono (by simp)))
    clear hb1
    go_wp2_with fail
    go_ret3
    exact ⟨_, rfl, Kd.V_nil _ _ _ _ _, HB.out⟩
  | true =>
    have hn : 1 ≤ n ∧ n ≤ 64 := by simp [mayB] at hm; omega
    have hhd := two_head hm L
    rw [hm] at HM
    have hll : (nums8 L).length = L.length := by simp [nums8]
    have HMAY := Lib.hid hm
    rw [hll] at HT1 HR0
    clear hm
    generalize hR2 : takeR (nums8 L) 2 n c = R at hhd ⊢
    clear hR2
    generalize takeR (nums8 L) 1 2 c = T at HT1 hhd
    obtain ⟨t1, t2, t3⟩ := T
    simp only at HT1 hhd
    have HD := Lib.hid hhd
    clear hhd
    go_enter Try.func18, Try.ntmps18
    go_wp2_with fail
    refine (HM.out _).mono ?_
    rintro e w1 ⟨rfl, hb1⟩
    have hfm := blk_below (blk_new w (.cells #[.int .i64 2, .int .i64 n, .int .i64 c] 24)) hb1
    have HFM := Aside0.mk hfm
    have HB1 := Aside0.mk (((Below.refl w.heap.size w).alloc (Nat.le_refl _) _).trans (hb1.mono (by simp)))
    have hz1 : w.heap.size < w1.heap.size := blk_lt hfm
    have HR1 := Aside0.mk (Kd.C_below (Kd.C_below HR0.out ((Below.refl _ _).alloc (Nat.le_refl _) _)) hb1)
    have f0 : w1.cell? ⟨w.heap.size, 0, none⟩ = some (.int .i64 2) := blk_cell hfm 0
    have f1 : w1.cell? ⟨w.heap.size, 1, none⟩ = some (.int .i64 n) := blk_cell hfm 1
    have f2 : w1.cell? ⟨w.heap.size, 2, none⟩ = some (.int .i64 c) := blk_cell hfm 2
    clear hb1 hfm
    go_wp2_with fail
    refine (HT1.out _ (Kd.C_alloc HR1.out _)).mono ?_
    rintro e w2 ⟨v1, rfl, hv1, hb2⟩
    obtain ⟨A2, c2, rfl⟩ := Kd.V_slice hv1
    have hb12 : Below w1.heap.size w1 w2 := ((Below.refl _ _).alloc (Nat.le_refl _) _).trans (hb2.mono (by simp))
    have HB2 := Aside0.mk (HB1.out.trans (hb12.mono (Nat.le_of_lt hz1)))
    have HFM2 := Aside0.mk (blk_below HFM.out hb12)
    have HV2 := Aside0.mk (Kd.V_reads' hv1).2
    have g0 : w2.cell? ⟨w.heap.size, 0, none⟩ = some (.int .i64 2) := blk_cell HFM2.out 0
    have g1 : w2.cell? ⟨w.heap.size, 1, none⟩ = some (.int .i64 n) := blk_cell HFM2.out 1
    have g2 : w2.cell? ⟨w.heap.size, 2, none⟩ = some (.int .i64 c) := blk_cell HFM2.out 2
    clear hb2 hb12 hv1 f0 f1 f2 HT1
    rcases HD.out with ⟨hne, hR⟩ | ⟨x, y, r, hT, hrl, hx, hy, hR⟩
    · have hne' : (t3 != 0) = true := by simpa using hne
      subst hR
      clear HD hne
      go_wp2_with fail
      go_ret3
      exact ⟨_, rfl, Kd.V_nil _ _ _ _ _, HB2.out⟩
    · injection hT with e1 e2
      injection e2 with e2 e3
      subst e1 e2 e3
      clear HD
      have HRR := Lib.hid hR
      clear hR
      obtain ⟨m, hm⟩ : ∃ m : Int, m = toldN [x, y] := ⟨_, rfl⟩
      have hx10 : (x - 48).toNat < 10 := ten_sub hx
      have hy10 : (y - 48).toNat < 10 := ten_sub hy
      have hm2 : m = 10 * (((x - 48).toNat : Nat) : Int) + (((y - 48).toNat : Nat) : Int) := hm
      have HRR2 := HRR.out
      rw [← hm] at HRR2
      have HRR := Lib.hid HRR2
      have HX := Lib.hid (show ∀ w, Calls Try.prog 32 #[.int .u8 ((((⟨#[x, y]⟩ : ByteArray)[0]'(by show 0 < 2; decide)).toNat : Nat) : Int)] w (fun e w' => e = .returned (.int .i64 (((x - 48).toNat : Nat) : Int)) ∧ Drawn0 w w') from fun w => groatref04_value.calls _ _ w (ten_value hx))
      have HY := Lib.hid (show ∀ w, Calls Try.prog 32 #[.int .u8 ((((⟨#[x, y]⟩ : ByteArray)[1]'(by show 1 < 2; decide)).toNat : Nat) : Int)] w (fun e w' => e = .returned (.int .i64 (((y - 48).toNat : Nat) : Int)) ∧ Drawn0 w w') from fun w => groatref04_value.calls _ _ w (ten_value hy))
      clear HRR2 hm hx hy
      generalize (x - 48).toNat = dx at *
      generalize (y - 48).toNat = dy at *
      have hwx : IntKind.i64.wrap (10 * (dx : Int)) = 10 * (dx : Int) := IntWalk.i64_in _ (by omega)
      have hwy : IntKind.i64.wrap (10 * (dx : Int) + (dy : Int)) = m := by rw [hm2]; exact IntWalk.i64_in _ (by omega)
      have HM2 := Lib.hid hm2
      clear hm2
      go_wp2_with fail
      go_region_held3 (fun w' => True) (trivial)
        (first
          | (go_at_call 32; with_reducible refine (HX.out _).mono ?_; rintro e_ w3 ⟨rfl, hd3⟩; have HD3 := Aside0.mk hd3; clear hd3)
          | (go_at_call 32; with_reducible refine (HY.out _).mono ?_; rintro e_ w4 ⟨rfl, hd4⟩; have HD4 := Aside0.mk hd4; clear hd4))
      all_goals
        have hb34 : Below w2.heap.size w2 w4 := (((Below.refl _ _).drew).trans (HD3.out.below.mono (Nat.le_refl _))).trans (HD4.out.below.mono (HD3.out.below.size))
        have hz2 : w.heap.size ≤ w2.heap.size := HB2.out.size
        have HB4 := Aside0.mk (HB2.out.trans (hb34.mono hz2))
        have HFM4 := Aside0.mk (blk_below HFM2.out hb34)
        have HR4 := Aside0.mk (Kd.C_below HV2.out.2 hb34)
        have HC4 := Aside0.mk HV2.out.1
        have g0 : w4.cell? ⟨w.heap.size, 0, none⟩ = some (.int .i64 2) := blk_cell HFM4.out 0
        have g1 : w4.cell? ⟨w.heap.size, 1, none⟩ = some (.int .i64 n) := blk_cell HFM4.out 1
        have g2 : w4.cell? ⟨w.heap.size, 2, none⟩ = some (.int .i64 c) := blk_cell HFM4.out 2
        clear hb34 HD3 HD4 hwx hwy HX HY
        by_cases h1 : m < 1
        · have hR := HRR.out
          rw [if_pos (.inl h1)] at hR
          subst hR
          go_wp2_with fail
          go_ret3
          exact ⟨_, rfl, Kd.V_nil _ _ _ _ _, HB4.out⟩
        · by_cases h2 : n < m
          · have hR := HRR.out
            rw [if_pos (.inr h2)] at hR
            subst hR
            go_wp2_with fail
            go_ret3
            exact ⟨_, rfl, Kd.V_nil _ _ _ _ _, HB4.out⟩
          · have hR := HRR.out
            rw [if_neg (fun h => h.elim h1 h2)] at hR
            have HR := Lib.hid hR
            clear hR HRR
            go_wp2_with fail
            refine (groatref04_size.calls 2 n c m _ _ (ref_size 2 n c m (by omega) (by omega))).mono ?_
            rintro e w5 ⟨rfl, hb5⟩
            have hszp : 0 ≤ szN 2 n c m := by
              unfold szN
              repeat' split
              all_goals omega
            obtain ⟨sz, hsz⟩ : ∃ sz : Nat, szN 2 n c m = (sz : Int) := ⟨(szN 2 n c m).toNat, by omega⟩
            have hszb : sz ≤ 200 := by
              unfold szN at hsz
              repeat' split at hsz
              all_goals omega
            have hlr : (nums8 r).length = r.length := by simp [nums8]
            have HB5 := Aside0.mk (HB4.out.trans (hb5.mono HB4.out.size))
            have HFM5 := Aside0.mk (blk_below HFM4.out hb5)
            have HR5 := Aside0.mk (Kd.C_below HR4.out hb5)
            have g0 : w5.cell? ⟨w.heap.size, 0, none⟩ = some (.int .i64 2) := blk_cell HFM5.out 0
            have g1 : w5.cell? ⟨w.heap.size, 1, none⟩ = some (.int .i64 n) := blk_cell HFM5.out 1
            have g2 : w5.cell? ⟨w.heap.size, 2, none⟩ = some (.int .i64 c) := blk_cell HFM5.out 2
            clear hb5 hszp
            by_cases hlt : r.length < sz
            · have hlt' : ((nums8 r).length : Int) < (sz : Int) := by omega
              have hnx : nextL (digitsC c) m r 0 = ([], r, 43) := two_short (n := n) (by omega)
              have hR := HR.out
              rw [hnx] at hR
              rw [if_pos (show (43 : Int) ≠ 0 by decide)] at hR
              subst hR
              rw [hsz]
              clear hlr
              go_wp2_with fail
              go_ret3
              exact ⟨_, rfl, Kd.V_nil _ _ _ _ _, HB5.out⟩
            · have hlt' : ¬ ((nums8 r).length : Int) < (sz : Int) := by omega
              obtain ⟨S, okb, htx, hyes, hno⟩ := two_rest HMAY.out (r := r) (m := m) (by omega) (by omega) sz hsz (by omega)
              obtain ⟨s, hs⟩ : ∃ s : ByteArray, s = ⟨S.toArray⟩ := ⟨_, rfl⟩
              rw [← hs] at htx
              have hRe : R = if okb = true then (s, nums8 (r.drop sz), 0) else (⟨#[]⟩, [], 42) := by
                have hR := HR.out
                cases okb with
                | true =>
                  obtain ⟨h1, h2⟩ := hyes rfl
                  rw [h1] at hR
                  rw [if_neg (by simp), if_pos h2] at hR
                  rw [hR, if_pos rfl, hs]
                | false =>
                  rw [hno rfl] at hR
                  rw [if_pos (show (42 : Int) ≠ 0 by decide)] at hR
                  rw [hR, if_neg (by simp)]
              subst hRe
              rw [hsz]
              clear hs
              obtain ⟨i0, hi, hzz⟩ := Option.map_eq_some_iff.1 infoU8
              simp only [Prod.mk.injEq] at hzz
              obtain ⟨hzi, hz1i, hz2i⟩ := hzz
              have hcT := cut_to (P := Try.prog) 22 5 .i64 Try.underlying22 hi A2 (nums8 r).length c2 sz (by omega) (by omega) (by have := HC4.out; omega)
              have hcD := cut_from (P := Try.prog) 22 5 .i64 Try.underlying22 hi 1 hz1i A2 (nums8 r).length c2 sz (by omega) (by omega)
              rw [Int.toNat_natCast] at hcT hcD
              have hlT : (nums8 (r.take sz)).length = sz := by simp [nums8]; omega
              have hlD : (nums8 (r.drop sz)).length = (nums8 r).length - sz := by simp [nums8]
              have hcC : sz ≤ c2 := by have := HC4.out; omega
              have hdC : (nums8 r).length - sz ≤ c2 - sz := by have := HC4.out; omega
              have HT := Lib.hid (fun w' h => groatref04_text.calls 1500000 2 n c A2 c2 (nums8 (r.take sz)) m s okb w' h (by omega) htx)
              rw [hlT] at HT
              have HCT := Lib.hid (fun (w' : World) (h : Kd.C (Kd.int .u8) w' A2 (nums8 r).length (nums8 r)) => (show Kd.C (Kd.int .u8) w' A2 sz (nums8 (r.take sz)) from by
                have h2 := Kd.C_take (m := sz) h (by omega)
                rw [show (nums8 r).take sz = nums8 (r.take sz) by simp [nums8], hlT] at h2
                exact h2))
              obtain ⟨AD, hAD⟩ : ∃ A1, A1 = (if c2 = sz then A2 else (A2 : Option Addr).map (·.add (sz * 1))) := ⟨_, rfl⟩
              rw [← hAD] at hcD
              have HCD := Lib.hid (fun (w' : World) (h : Kd.C (Kd.int .u8) w' A2 (nums8 r).length (nums8 r)) => (show Kd.C (Kd.int .u8) w' AD (nums8 (r.drop sz)).length (nums8 (r.drop sz)) from by
                have h2 := Kd.C_drop (m := sz) (c := c2) h (by omega) HC4.out
                rw [show (nums8 r).drop sz = nums8 (r.drop sz) by simp [nums8]] at h2
                rw [hAD]
                exact h2))
              obtain ⟨Y, hYe⟩ : ∃ Y, Y = nums8 (r.drop sz) := ⟨_, rfl⟩
              rw [← hYe] at HCD hlD
              have HYE := Lib.hid hYe
              have hY : Y.length ≤ 1048576 := by omega
              have h0 : (0 : Int) ≤ (sz : Int) := by omega
              have hle : (sz : Int) ≤ ((nums8 r).length : Int) := by omega
              rw [← hlD] at hcD hdC
              generalize c2 - sz = cD at hcD hdC
              have HcD := Lib.hid hcD
              clear hi hzi hz1i hz2i htx hAD hcD hYe hlr hyes hno
              go_wp2_with fail
              go_region_held3 (fun w' => w'.cell? ⟨w.heap.size, 0, none⟩ = some (.int .i64 2) ∧ w'.cell? ⟨w.heap.size, 1, none⟩ = some (.int .i64 n) ∧ w'.cell? ⟨w.heap.size, 2, none⟩ = some (.int .i64 c)) (go_keep)
                (first | (go_at_call 34; refine (HT.out _ (HCT.out w5.drew (Kd.C_drew HR5.out))).mono ?_; rintro e_ w6 ⟨rfl, hb6⟩; have hB6 : Below w5.heap.size w5 w6 := ((Below.refl _ _).drew).trans hb6; have HB6 := Aside0.mk hB6; have r0 : w6.cell? ⟨w.heap.size, 0, none⟩ = some (.int .i64 2) := blk_cell (blk_below HFM5.out hB6) 0; have r1 : w6.cell? ⟨w.heap.size, 1, none⟩ = some (.int .i64 n) := blk_cell (blk_below HFM5.out hB6) 1; have r2 : w6.cell? ⟨w.heap.size, 2, none⟩ = some (.int .i64 c) := blk_cell (blk_below HFM5.out hB6) 2; clear hb6 hB6))
              clear r0 r1 r2 g0 g1 g2 HT HCT hcT hlT
              have hz5 : w.heap.size ≤ w5.heap.size := HB5.out.size
              have HBW6 := Aside0.mk (HB5.out.trans (HB6.out.mono hz5))
              have HR6 := Aside0.mk (Kd.C_below HR5.out HB6.out)
              cases okb with
              | false =>
                go_wp2_with fail
                go_ret3
                exact ⟨_, rfl, Kd.V_nil _ _ _ _ _, HBW6.out⟩
              | true =>
                clear hlD hlt
                have hcD := HcD.out
                go_wp2_with (first
                  | ((with_reducible refine gate_dst (N := 72) rfl ?_); refine Kd.R_lit (Kd.int .u8) _ 5 ?hg (N := 72) ?hd (xs := ([] : List Int)) (inner := []) (ok := fun _ => True) (okp := fun _ => True) ?hr ?hp (fun _ hk => hk) trivial (Below.refl w6.heap.size w6) (Nat.le_refl _) (by simp) ?_; (case hd => rfl); (case hg => rfl); (case hr => first | (go_simp; done) | (go_simp; rfl)); (case hp => exact Reps.none _ _); intro v7 w7 ho hb hg_ hnew_; clear hg_; have HO7 := Aside0.mk ho; have HB7 := Aside0.mk hb; clear ho hb hnew_)
                  | ((with_reducible refine gate_builtin (b := .append) (xs := #[.tmp 72, .tmp 75]) rfl ?_); at_builtin; refine Kd.R_append_rows (Kd.int .u8) (w0 := w6) w6.heap.size rfl (.tmp 72) (.tmp 75) 22 5 (.int .u8 0) 1 rfl Try.underlying22 infoU8 rfl (by decide) (by omega) v7 [] Y _ _ _ (fun _ => True) (fun _ => False) rfl rfl ?aO ?aR (fun _ _ h => h) (fun _ h => h.elim) (fun _ _ => trivial) ?aB ?aS ?aL ?_; (case aO => exact HO7.out); (case aR => exact HCD.out _ (Kd.C_below HR6.out HB7.out)); (case aB => exact HB7.out); (case aS => exact HB7.out.size); (case aL => simp; omega); intro v8 w8 ho hb hg_ hat_; rw [List.nil_append] at ho; have HO8 := Aside0.mk ho; have HB8 := Aside0.mk hb; clear ho hb hat_ hg_))
                go_ret3
                have hv := Kd.R_V (base' := w.heap.size) (Kd.R_mono (ok' := fun k_ => w.heap.size ≤ k_) (Kd.R_bound HO8.out) (fun k_ hk => Nat.le_trans HBW6.out.size hk.2.1))
                rw [HYE.out] at hv
                exact ⟨_, rfl, hv, HBW6.out.trans (HB8.out.mono HBW6.out.size)⟩
end Go.Proofs.Ytcgfbdleapjigaa.reft
