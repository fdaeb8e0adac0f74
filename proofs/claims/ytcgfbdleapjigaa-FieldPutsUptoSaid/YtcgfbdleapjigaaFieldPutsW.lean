/- The walk of the law FieldPuts: it answers true. Conditions: as the theorem says. -/
import Derived.Test.YtcgfbdleapjigaaFieldN
import Derived.Test.YtcgfbdleapjigaaFieldRefP
namespace Go.Proofs.Ytcgfbdleapjigaa.fieldw
open Go.RowKit Go.Proofs.Ytcgfbdleapjigaa.fieldp Go.Proofs.YtcgfbdleapjigaaW.PrintWords Go.Proofs.YtcgfbdleapjigaaW.PrintLast Go.Proofs.Ytcgfbdleapjigaa.fieldl

theorem C_prefix {w : World} {g : Nat} {l : List Int} {a : Int} (h : Kd.C (Kd.int .u8) w (some ⟨g, 0, none⟩) (l ++ [a]).length (l ++ [a])) : Kd.C (Kd.int .u8) w (some ⟨g, 0, none⟩) l.length l ∧ w.cell? ⟨g, l.length, none⟩ = some (.int .u8 a) := by
  obtain ⟨h1, h2, h3⟩ := h
  obtain ⟨ad, he, hc⟩ := h3 (by simp)
  cases he
  simp only [List.length_append, List.length_cons, List.length_nil] at h2
  refine ⟨⟨rfl, by omega, fun _ => ⟨_, rfl, ?_⟩⟩, ?_⟩
  · intro j p hj
    exact hc j p (by rw [List.getElem?_append_left (List.getElem?_eq_some_iff.1 hj).1]; exact hj)
  · obtain ⟨cs, hl, hk, hcc⟩ := hc l.length a (by simp)
    have hk' : cs = [.int .u8 a] := hk
    subst hk'
    have := hcc 0 _ rfl
    rw [← this]
    congr 1
    show _ = (⟨g, 0, none⟩ : Addr).add (l.length * 1 + 0)
    unfold Addr.add
    simp
    try (intro h; simp [h])
theorem R_some {w : World} {base : Nat} {v : Value} {l : List Int} (h : Kd.R (Kd.int .u8) 5 w base (fun _ => True) v l) (hl : 0 < l.length) : ∃ g c, v = .slice (some ⟨g, 0, none⟩) l.length c ∧ l.length ≤ c := by
  rcases (Kd.own_of_R h).2 with ⟨_, e⟩ | ⟨g, c, cur, hv, _, _, hc, _⟩
  · omega
  · exact ⟨g, c, hv, hc⟩
set_option maxHeartbeats 4000000 in
set_option maxRecDepth 100000 in
theorem puts_law (k n c : Int) (s : ByteArray) (A0 : Option Addr) (c0 : Nat) (l0 : List Int) (hs : s.size ≤ 1048576) (hl0 : l0.length ≤ 1048576) (w : World) (hr0 : Kd.C (Kd.int .u8) w A0 l0.length l0) (hc0 : l0.length ≤ c0) :
    Calls Try.prog 3 #[.slice A0 l0.length c0, .agg #[.int .i64 k, .int .i64 n, .int .i64 c], .string s] w fun e w' => e = .returned (.bool true) ∧ Below w.heap.size w w' := by
  have HS := Lib.hid shown_any
  have HR0 := Aside0.mk hr0
  have HC0 := Aside0.mk hc0
  clear hr0 hc0
  have hw : IntKind.i64.wrap ((l0.length : Int) + 200) = (l0.length : Int) + 200 := IntWalk.i64_in _ (by omega)
  go_enter Try.func3, Try.ntmps3
  go_wp2_with fail
  refine (HS.out _).mono ?_
  rintro e w1 ⟨rfl, hb1⟩
  have hfm := blk_below (blk_new w (.cells #[.int .i64 k, .int .i64 n, .int .i64 c] 24)) hb1
  have HFM := Aside0.mk hfm
  have HB1 := Aside0.mk (((Below.refl w.heap.size w).alloc (Nat.le_refl _) _).trans (hb1.mono (by simp)))
  have hz1 : w.heap.size < w1.heap.size := blk_lt hfm
  have HR1 := Aside0.mk (Kd.C_below (Kd.C_below HR0.out ((Below.refl w.heap.size w).alloc (Nat.le_refl _) _)) hb1)
  clear hb1 hfm
  go_wp2_with (first
    | ((with_reducible refine gate_dst (N := 16) rfl ?_); refine Kd.R_lit (Kd.int .u8) _ 5 ?hg (N := 16) ?hd (xs := ([] : List Int)) (inner := []) (ok := fun _ => True) (okp := fun _ => True) ?hr ?hp (fun _ hk => hk) trivial (Below.refl w1.heap.size w1) (Nat.le_refl _) (by simp) ?_; (case hd => rfl); (case hg => rfl); (case hr => first | (go_simp; done) | (go_simp; rfl)); (case hp => exact Reps.none _ _); intro v4 w4 ho hb hg_ hnew_; clear hg_; have HO4 := Aside0.mk ho; have HB4 := Aside0.mk hb; have HN4 := Aside0.mk hnew_; clear ho hb hnew_)
    | ((with_reducible refine gate_builtin (b := .append) (xs := #[.tmp 16, .tmp 17]) rfl ?_); at_builtin; refine Kd.R_append_rows (Kd.int .u8) (w0 := w1) w1.heap.size rfl (.tmp 16) (.tmp 17) 22 5 (.int .u8 0) 1 rfl Try.underlying22 infoU8 rfl (by decide) (by omega) v4 [] l0 _ _ _ (fun _ => True) (fun _ => False) rfl rfl ?aO ?aR (fun _ _ h => h) (fun _ h => h.elim) (fun _ _ => trivial) ?aB ?aS ?aL ?_; (case aO => exact HO4.out); (case aR => exact Kd.C_below HR1.out HB4.out); (case aB => exact HB4.out); (case aS => exact HB4.out.size); (case aL => simp; omega); intro v5 w5 ho hb hg_ hat_; rw [List.nil_append] at ho; have HO5 := Aside0.mk ho; have HB5 := Aside0.mk hb; have HG5 := Aside0.mk hg_; clear ho hb hat_ hg_))
  obtain ⟨A5, c5, rfl⟩ := Kd.R_slice HO5.out
  have H5 := Aside0.mk ((Kd.R_reads' HO5.out).2)
  have HR5 := Aside0.mk (Kd.C_below HR1.out HB5.out)
  have hz5 : w1.heap.size ≤ w5.heap.size := HB5.out.size
  clear HN4 HG5 HO4 HB4 HO5
  obtain ⟨i0, hi, hzz⟩ := Option.map_eq_some_iff.1 infoU8
  simp only [Prod.mk.injEq] at hzz
  obtain ⟨hzi, hz1i, hz2i⟩ := hzz
  obtain ⟨w6, hmk, hown6, hg6⟩ := run_make_own (P := Try.prog) w5 w5.heap.size 22 5 i0 (.int .u8 0) 1 Try.underlying22 hi hzi hz1i .i64 .i64 (l0.length + 200) (by rw [hz2i]; omega) (by simp only [maxLen]; omega) (Nat.le_refl _)
  rw [show ((l0.length + 200 : Nat) : Int) = (l0.length : Int) + 200 by omega] at hmk
  have HO6 := Aside0.mk (show Kd.R (Kd.int .u8) 5 w6 w5.heap.size (fun _ => True) (.slice (some ⟨w5.heap.size, 0, none⟩) 0 (l0.length + 200)) [] from Kd.R_of_own (h1 := fun _ => rfl) (xs := ([] : List Int)) hown6 (fun _ _ => trivial))
  have HB6 := Aside0.mk (show Below w5.heap.size w5 w6 from ⟨hg6.os, hg6.tape, hg6.output, hg6.size, fun k hk => hg6.block k hk (by simp)⟩)
  clear hi hzi hz1i hz2i hown6 hg6
  rw [hmk]
  clear hmk
  go_simp
  go_wp2_with (first
    | ((with_reducible refine gate_builtin (b := .append) (xs := #[.tmp 22, .tmp 23]) rfl ?_); at_builtin; refine Kd.R_append_rows (Kd.int .u8) (w0 := w5) w5.heap.size rfl (.tmp 22) (.tmp 23) 22 5 (.int .u8 0) 1 rfl Try.underlying22 infoU8 rfl (by decide) (by omega) (.slice (some ⟨w5.heap.size, 0, none⟩) 0 (l0.length + 200)) [] l0 _ _ _ (fun _ => True) (fun _ => False) rfl rfl ?aO ?aR (fun _ _ h => h) (fun _ h => h.elim) (fun _ _ => trivial) ?aB ?aS ?aL ?_; (case aO => exact HO6.out); (case aR => exact Kd.C_below HR5.out HB6.out); (case aB => exact HB6.out); (case aS => exact HB6.out.size); (case aL => simp; omega); intro v7 w7 ho hb hg_ hat_; rw [List.nil_append] at ho; have HO7 := Aside0.mk ho; have HB7 := Aside0.mk hb; clear ho hb hat_ hg_)
    | ((with_reducible refine gate_builtin (b := .append) (xs := #[.tmp 24, .tmp 25]) rfl ?_); at_builtin; refine Kd.R_append (Kd.int .u8) (w0 := w5) w5.heap.size rfl (.tmp 24) (.tmp 25) 22 5 (.int .u8 0) 1 rfl Try.underlying22 infoU8 rfl (by decide) (by omega) v7 l0 77 [.int .u8 77] (fun _ => True) (fun _ => False) rfl rfl ?aP (fun _ h => h.elim) ?aF ?aO ?aB ?aS ?aL ?_; (case aP => exact rfl); (case aF => exact fun _ _ => trivial); (case aO => exact HO7.out); (case aB => exact HB7.out); (case aS => exact HB7.out.size); (case aL => omega); intro v8 w8 ho hb hg_ hat_; have HO8 := Aside0.mk ho; have HB8 := Aside0.mk hb; clear ho hb hat_ hg_; obtain ⟨g8, c8, hv8, hc8⟩ := R_some HO8.out (by simp); subst hv8; have hlc : l0.length ≤ c8 := (by simp at hc8; omega); have hlc1 : l0.length + 1 ≤ c8 := (by simp at hc8; omega); have hfm8 := blk_below HFM.out (HB5.out.trans (HB8.out.mono hz5)); have f0 : w8.cell? ⟨w.heap.size, 0, none⟩ = some (.int .i64 k) := blk_cell hfm8 0; have f1 : w8.cell? ⟨w.heap.size, 1, none⟩ = some (.int .i64 n) := blk_cell hfm8 1; have f2 : w8.cell? ⟨w.heap.size, 2, none⟩ = some (.int .i64 c) := blk_cell hfm8 2; have HFM8 := Aside0.mk hfm8; clear hfm8 hc8))
  obtain ⟨hrm, h77⟩ := C_prefix (Kd.R_reads' HO8.out).2.2
  have HRM := Aside0.mk hrm
  have H77 := Aside0.mk h77
  have hg8 := World.block_lt_of_cell? w8 _ h77
  have hz8 : w5.heap.size ≤ w8.heap.size := HB8.out.size
  have HC5 := Aside0.mk (Kd.C_below H5.out.2 HB8.out)
  have HR8 := Aside0.mk (Kd.C_below HR5.out HB8.out)
  have HBW8 := Aside0.mk (HB1.out.trans ((HB5.out.trans (HB8.out.mono hz5)).mono (by omega)))
  clear HO6 HB6 HO7 HB7 HO8 HB8 hrm h77
  refine (put_any k n c s _ _ l0 _ (by omega) (by omega) HRM.out hlc).mono ?_
  rintro e w9 ⟨vx, rfl, hox, hb9⟩
  obtain ⟨Ax, cx, rfl⟩ := Kd.R_slice hox
  have HOX := Aside0.mk hox
  have HB9 := Aside0.mk hb9
  have hfm9 := blk_below HFM8.out hb9
  have HFM9 := Aside0.mk hfm9
  have g0 : w9.cell? ⟨w.heap.size, 0, none⟩ = some (.int .i64 k) := blk_cell hfm9 0
  have g1 : w9.cell? ⟨w.heap.size, 1, none⟩ = some (.int .i64 n) := blk_cell hfm9 1
  have g2 : w9.cell? ⟨w.heap.size, 2, none⟩ = some (.int .i64 c) := blk_cell hfm9 2
  have hz9 : w8.heap.size ≤ w9.heap.size := hb9.size
  clear hox hb9 hfm9
  go_wp2_with fail
  refine (refp.refput_any k n c s _ _ l0 _ hs hl0 (Kd.C_below HR8.out HB9.out) HC0.out).mono ?_
  rintro e w10 ⟨vy, rfl, hoy, hb10⟩
  obtain ⟨Ay, cy, rfl⟩ := Kd.R_slice hoy
  have HB10 := Aside0.mk (HB9.out.trans (hb10.mono hz9))
  have HX10 := Aside0.mk (Kd.R_below HOX.out hb10)
  have hfm10 := blk_below HFM9.out hb10
  have HFM10 := Aside0.mk hfm10
  have q0 : w10.cell? ⟨w.heap.size, 0, none⟩ = some (.int .i64 k) := blk_cell hfm10 0
  have q1 : w10.cell? ⟨w.heap.size, 1, none⟩ = some (.int .i64 n) := blk_cell hfm10 1
  have q2 : w10.cell? ⟨w.heap.size, 2, none⟩ = some (.int .i64 c) := blk_cell hfm10 2
  have q77 : w10.cell? ⟨g8, l0.length, none⟩ = some (.int .u8 77) := (HB10.out.cell (p := ⟨g8, l0.length, none⟩) hg8).trans H77.out
  have KX := Aside0.mk (Kd.R_reads' HX10.out).2.2
  have KY := Aside0.mk (Kd.R_reads' hoy).2.2
  have KR := Aside0.mk (Kd.C_below HRM.out HB10.out)
  have KO := Aside0.mk (Kd.C_below HC5.out HB10.out)
  have hg10 : g8 < w10.heap.size := Nat.lt_of_lt_of_le hg8 HB10.out.size
  generalize (putR l0 k n c s).2 = r2 at *
  generalize (putR l0 k n c s).1 = X at *
  clear hoy hb10 hfm10 g0 g1 g2 f0 f1 f2
  have HCK := Lib.hid (fun w => check_any k n c s w (by omega))
  have HRK := Lib.hid (fun w => refp.refcheck_any k n c s w hs)
  generalize checkR k n c s.data.toList = rc at HCK HRK
  have hl1 : IntKind.i64.wrap ((l0.length : Int) + 1) = (l0.length : Int) + 1 := IntWalk.i64_in _ (by omega)
  have hI0 : (0 : Int) ≤ (l0.length : Int) + 1 := by omega
  have hI2 : (l0.length : Int) + 1 ≤ (c8 : Int) := by omega
  have hI3 : ((l0.length : Int) + 1).toNat = l0.length + 1 := by omega
  have hI4 : (l0.length : Int) < ((l0.length + 1 : Nat) : Int) := by omega
  have hI5 : (l0.length : Int) < (l0.length : Int) + 1 := by omega
  go_wp2_with fail
  have ex_w10 := Kd.C_string (P := Try.prog) (w := w10) (c := cx) Try.underlying22 Try.underlying5 Try.underlying9 KX.out
  have ey_w10 := Kd.C_string (P := Try.prog) (w := w10) (c := cy) Try.underlying22 Try.underlying5 Try.underlying9 KY.out
  have er_w10 := Kd.C_string (P := Try.prog) (w := w10) (c := c8) Try.underlying22 Try.underlying5 Try.underlying9 KR.out
  have eo_w10 := Kd.C_string (P := Try.prog) (w := w10) (c := c5) Try.underlying22 Try.underlying5 Try.underlying9 KO.out
  have ex_w10d := Kd.C_string (P := Try.prog) (w := w10.drew) (c := cx) Try.underlying22 Try.underlying5 Try.underlying9 KX.out
  have ey_w10d := Kd.C_string (P := Try.prog) (w := w10.drew) (c := cy) Try.underlying22 Try.underlying5 Try.underlying9 KY.out
  have er_w10d := Kd.C_string (P := Try.prog) (w := w10.drew) (c := c8) Try.underlying22 Try.underlying5 Try.underlying9 KR.out
  have eo_w10d := Kd.C_string (P := Try.prog) (w := w10.drew) (c := c5) Try.underlying22 Try.underlying5 Try.underlying9 KO.out
  go_region_held3 (fun w' => w'.cell? ⟨w.heap.size, 0, none⟩ = some (.int .i64 k) ∧ w'.cell? ⟨w.heap.size, 1, none⟩ = some (.int .i64 n) ∧ w'.cell? ⟨w.heap.size, 2, none⟩ = some (.int .i64 c) ∧ w'.cell? ⟨g8, l0.length, none⟩ = some (.int .u8 77) ∧ (convert 22 9 (.slice Ax X.length cx)).run Try.prog w' = .ok (.string (strOfNums X)) w' ∧ (convert 22 9 (.slice Ay X.length cy)).run Try.prog w' = .ok (.string (strOfNums X)) w' ∧ (convert 22 9 (.slice (some ⟨g8, 0, none⟩) l0.length c8)).run Try.prog w' = .ok (.string (strOfNums l0)) w' ∧ (convert 22 9 (.slice A5 l0.length c5)).run Try.prog w' = .ok (.string (strOfNums l0)) w') (go_keep)
    (first
      | (go_at_call 15; refine (HCK.out _).mono ?_; rintro e_ w11 ⟨rfl, hb11⟩; have hB11 : Below w10.heap.size w10 w11 := ((Below.refl _ _).drew).trans hb11; have HB11 := Aside0.mk hB11; have ex_w11 := Kd.C_string (P := Try.prog) (w := w11) (c := cx) Try.underlying22 Try.underlying5 Try.underlying9 (Kd.C_below KX.out hB11); have ey_w11 := Kd.C_string (P := Try.prog) (w := w11) (c := cy) Try.underlying22 Try.underlying5 Try.underlying9 (Kd.C_below KY.out hB11); have er_w11 := Kd.C_string (P := Try.prog) (w := w11) (c := c8) Try.underlying22 Try.underlying5 Try.underlying9 (Kd.C_below KR.out hB11); have eo_w11 := Kd.C_string (P := Try.prog) (w := w11) (c := c5) Try.underlying22 Try.underlying5 Try.underlying9 (Kd.C_below KO.out hB11); have p0 : w11.cell? ⟨w.heap.size, 0, none⟩ = some (.int .i64 k) := blk_cell (blk_below HFM10.out hB11) 0; have p1 : w11.cell? ⟨w.heap.size, 1, none⟩ = some (.int .i64 n) := blk_cell (blk_below HFM10.out hB11) 1; have p2 : w11.cell? ⟨w.heap.size, 2, none⟩ = some (.int .i64 c) := blk_cell (blk_below HFM10.out hB11) 2; have p77 : w11.cell? ⟨g8, l0.length, none⟩ = some (.int .u8 77) := (hB11.cell (p := ⟨g8, l0.length, none⟩) hg10).trans q77; clear hb11 hB11)
      | (go_at_call 16; refine (HRK.out _).mono ?_; rintro e_ w12 ⟨rfl, hb12⟩; have hB12 : Below w10.heap.size w10 w12 := HB11.out.trans (hb12.mono HB11.out.size); have HB12 := Aside0.mk hB12; have ex_w12 := Kd.C_string (P := Try.prog) (w := w12) (c := cx) Try.underlying22 Try.underlying5 Try.underlying9 (Kd.C_below KX.out hB12); have ey_w12 := Kd.C_string (P := Try.prog) (w := w12) (c := cy) Try.underlying22 Try.underlying5 Try.underlying9 (Kd.C_below KY.out hB12); have er_w12 := Kd.C_string (P := Try.prog) (w := w12) (c := c8) Try.underlying22 Try.underlying5 Try.underlying9 (Kd.C_below KR.out hB12); have eo_w12 := Kd.C_string (P := Try.prog) (w := w12) (c := c5) Try.underlying22 Try.underlying5 Try.underlying9 (Kd.C_below KO.out hB12); have r0 : w12.cell? ⟨w.heap.size, 0, none⟩ = some (.int .i64 k) := blk_cell (blk_below HFM10.out hB12) 0; have r1 : w12.cell? ⟨w.heap.size, 1, none⟩ = some (.int .i64 n) := blk_cell (blk_below HFM10.out hB12) 1; have r2_ : w12.cell? ⟨w.heap.size, 2, none⟩ = some (.int .i64 c) := blk_cell (blk_below HFM10.out hB12) 2; have r77 : w12.cell? ⟨g8, l0.length, none⟩ = some (.int .u8 77) := (hB12.cell (p := ⟨g8, l0.length, none⟩) hg10).trans q77; clear hb12 hB12))
  clear hI0 hI2 hI3 hI4 hI5 hl1 p0 p1 p2 p77 r0 r1 r2_ r77 q0 q1 q2 q77 ex_w10 ey_w10 er_w10 eo_w10 ex_w10d ey_w10d er_w10d eo_w10d ex_w11 ey_w11 er_w11 eo_w11 ex_w12 ey_w12 er_w12 eo_w12
  have HB12' := Aside0.mk (HB10.out.trans (HB12.out.mono HB10.out.size))
  have HX12 := Aside0.mk (Kd.R_below HX10.out HB12.out)
  have hz12 : w8.heap.size ≤ w12.heap.size := HB12'.out.size
  rcases (Kd.own_of_R HX12.out).2 with ⟨hax, hx0⟩ | ⟨gx, cap, cur, hax, hgx, hblk, hcx, hmx, hcs, _⟩
  · have hX0 : X.length = 0 := hx0
    go_wp2_with fail
    go_loopw [14] (fun i wr => i = .int .i64 0 ∧ Below w8.heap.size w8 wr) (fun _ _ => 0)
    case atStart => exact ⟨rfl, HB12'.out⟩
    case round =>
      obtain ⟨rfl, hB⟩ := hrel
      have hlt : ¬ ((0 : Int) < (X.length : Int)) := by omega
      have HB := Aside0.mk hB
      clear hB
      have er := Kd.C_string (P := Try.prog) (w := wr) (c := c8) Try.underlying22 Try.underlying5 Try.underlying9 (Kd.C_below HRM.out HB.out)
      have eo := Kd.C_string (P := Try.prog) (w := wr) (c := c5) Try.underlying22 Try.underlying5 Try.underlying9 (Kd.C_below HC5.out HB.out)
      go_wp2_with fail
      go_ret
      exact ⟨by simp, HBW8.out.trans (HB.out.mono HBW8.out.size)⟩
  · injection hax with hax1 _ hax3
    subst hax1 hax3
    have hcs' : X.length ≤ cur.size := by omega
    have hX63 : X.length ≤ 9223372036854775807 := Nat.le_trans hcx hmx
    have HBL := Aside0.mk hblk
    have hgx' : w8.heap.size ≤ gx := hgx
    have HX63 := Aside0.mk hX63
    clear hblk hcs hcx hgx hmx hX63
    go_wp2_with fail
    go_loopw [14] (fun i wr => ∃ (j : Nat) (cu : Array Value), j ≤ X.length ∧ i = .int .i64 j ∧ wr.heap[gx]? = some (.cells cu 5 (0, 0)) ∧ X.length ≤ cu.size ∧ Below w8.heap.size w8 wr) (fun i _ => X.length - (intOf i).toNat)
    case atStart => exact ⟨0, cur, Nat.zero_le _, rfl, HBL.out, hcs', HB12'.out⟩
    case round =>
      obtain ⟨j, cu, hj, rfl, hbl, hcu, hB⟩ := hrel
      have HB := Aside0.mk hB
      have HBL2 := Aside0.mk hbl
      by_cases hlt : j < X.length
      · obtain ⟨old, hold⟩ : ∃ v, wr.cell? ⟨gx, j, none⟩ = some v := ⟨_, (blk_cell hbl j).trans (Array.getElem?_eq_getElem (by omega))⟩
        have hfr : wr.frozen? ⟨gx, j, none⟩ = false := blk_frozen hbl j
        have hwj : IntKind.i64.wrap ((j : Int) + 1) = (j : Int) + 1 := IntWalk.i64_in _ (by have := HX63.out; omega)
        clear hbl hB
        go_wp2_with fail
        exact ⟨⟨j + 1, _, by omega, by go_num, blk_set HBL2.out j _, by simpa using hcu, HB.out.setCell hgx' _⟩, by simp [intOf]; omega⟩
      · clear hbl hB
        have er := Kd.C_string (P := Try.prog) (w := wr) (c := c8) Try.underlying22 Try.underlying5 Try.underlying9 (Kd.C_below HRM.out HB.out)
        have eo := Kd.C_string (P := Try.prog) (w := wr) (c := c5) Try.underlying22 Try.underlying5 Try.underlying9 (Kd.C_below HC5.out HB.out)
        go_wp2_with fail
        go_ret
        exact ⟨by simp, HBW8.out.trans (HB.out.mono HBW8.out.size)⟩
end Go.Proofs.Ytcgfbdleapjigaa.fieldw
