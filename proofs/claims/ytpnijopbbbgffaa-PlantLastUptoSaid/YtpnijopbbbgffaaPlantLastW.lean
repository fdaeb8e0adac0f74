/- Walks of layer 3's statements: PlantLast. Conditions: as each theorem says. -/
import Derived.Test.YtpnijopbbbgffaaPlantO
import Derived.Deep.RegionHeld3
import Derived.Deep.QuietTactic
import Derived.BigQuiet
namespace Go.Proofs.Ytpnijopbbbgffaa.plantw
open Go.RowKit
open Go.Proofs.Ytpnijopbbbgffaa.plantp
open Go.Proofs.Ytpnijopbbbgffaa.mapfn
open Go.Proofs.Ytpnijopbbbgffaa.buf
set_option maxHeartbeats 4000000 in
set_option maxRecDepth 100000 in
theorem last_walk (w : World) {A : Option Addr} {c : Nat} {l : List OpV} (n0 : l.length ≤ 1048576) (h0 : OpsIn w A l) :
    Calls Try.prog 4 #[.slice A l.length c] w fun e w' => e = .returned (.bool true) ∧ Below w.heap.size w w' := by
  have HS := Lib.hid (shown_any w)
  have H0 := Lib.hid h0
  clear h0
  go_enter Try.func4, Try.ntmps4
  go_wp2_with fail
  refine HS.out.mono ?_
  rintro e w1 ⟨rfl, b1⟩
  have HN := Lib.hid (new_own (b1.alloc b1.size (.cells #[.int .i64 8, .int .i64 8] 3)) (ints_lit (zs := [8, 8]) (heap_alloc_last w1 (.cells #[.int .i64 8, .int .i64 8] 3)) (by decide)) (by decide))
  go_wp2_with fail
  refine HN.out.mono ?_
  rintro e w2 ⟨g, rfl, n2⟩
  clear HN
  have HM := Lib.hid n2.mob
  have bA : Below w2.heap.size w2 (w2.alloc (.cells #[.int .u8 0, .int .u8 0, .int .u8 0, .int .u8 0, .int .u8 0, .int .u8 0, .int .u8 0, .int .u8 0, .int .u8 0, .int .u8 0, .int .u8 0, .int .u8 0, .int .u8 0, .int .u8 0, .int .u8 0, .int .u8 0] 37)) := (Below.refl _ _).alloc (Nat.le_refl _) _
  have hm1 := n2.mob.add bA (Nat.le_refl _) (s := .cells (secA (List.replicate 16 0)) 37 (0, 0)) (heap_alloc_last _ _)
  have HM1 := Lib.hid hm1
  have hHB := n2.base.size
  clear n2 HS b1 bA hm1 HM
  go_wp2_with fail
  obtain ⟨HB, eB⟩ : ∃ HB, w2.heap.size = HB := ⟨_, rfl⟩
  rw [eB] at HM1 hHB
  rw [eB]
  clear eB
  go_loopw [7] (fun i wr => ∃ (k m : Nat) (p : PS) (has : Sec), k ≤ 100 ∧ k ≤ l.length ∧ i = .int .i64 k ∧ m ≤ 2 * k ∧ LastAt m has p ∧ Mob w [(g, p)] [(HB, .cells (secA has) 37 (0, 0))] wr) (fun i _ => 200 - (intOf i).toNat)
  case atStart => exact ⟨0, 0, _, _, by omega, by omega, rfl, by omega, LastAt.start, HM1.out⟩
  case round =>
    obtain ⟨k, m, p, has, hk, hkl, rfl, hm2, hp, hm⟩ := hrel
    have HP := Lib.hid hp
    have HM := Lib.hid hm
    clear hp hm HM1
    by_cases hgo : k < l.length ∧ k < 100
    · obtain ⟨hlt, h100⟩ := hgo
      have hlt' : (k : Int) < l.length := by omega
      have h100' : (k : Int) < 100 := by omega
      rcases H0.out with rfl | ⟨b, o, rfl, hbk, hcs⟩
      · simp at hlt
      obtain ⟨hok, hkp, hcj⟩ := hcs k hlt
      obtain ⟨v, ev⟩ : ∃ v, l[k] = v := ⟨_, rfl⟩
      rw [ev] at hok hcj hkp
      obtain ⟨kp, kc, ekv⟩ := hkp.shape
      obtain ⟨kn, ekn⟩ : ∃ kn, v.keep.length = kn := ⟨_, rfl⟩
      have hc : ∀ j u, (opL v)[j]? = some u → wr.cell? ⟨b, o + (k * 6 + j), none⟩ = some u := fun j u hu => (HM.out.base.cell (p := ⟨b, o + (k * 6 + j), none⟩) hbk).trans (hcj j u hu)
      have k0 : wr.cell? ⟨b, o + k * 6, none⟩ = some (.int .i64 v.kind) := hc 0 _ rfl
      have k1 : wr.cell? ⟨b, o + k * 6 + 1, none⟩ = some (.int .i64 v.dev) := hc 1 _ rfl
      have k2 : wr.cell? ⟨b, o + k * 6 + 2, none⟩ = some (.int .i64 v.place) := hc 2 _ rfl
      have k3 : wr.cell? ⟨b, o + k * 6 + 3, none⟩ = some (.int .i64 v.n) := hc 3 _ rfl
      have k4 : wr.cell? ⟨b, o + k * 6 + 4, none⟩ = some (.int .u8 v.byte.toNat) := hc 4 _ rfl
      have k5 : wr.cell? ⟨b, o + k * 6 + 5, none⟩ = some (.slice kp kn kc) := by rw [← ekn, ← ekv]; exact hc 5 _ rfl
      have ok1 := hok v.dev (by simp)
      have ok2 := hok v.place (by simp)
      have ok3 := hok v.n (by simp)
      obtain ⟨vk, evk⟩ : ∃ x, v.kind = x := ⟨_, rfl⟩
      obtain ⟨vd, evd⟩ : ∃ x, v.dev = x := ⟨_, rfl⟩
      obtain ⟨vp, evp⟩ : ∃ x, v.place = x := ⟨_, rfl⟩
      obtain ⟨vn, evn⟩ : ∃ x, v.n = x := ⟨_, rfl⟩
      obtain ⟨vb, evb⟩ : ∃ x, v.byte = x := ⟨_, rfl⟩
      rw [evk] at k0
      rw [evd] at k1 ok1
      rw [evp] at k2 ok2
      rw [evn] at k3 ok3
      rw [evb] at k4
      have bA : Below wr.heap.size wr (wr.alloc (.cells #[.int .i64 vk, .int .i64 vd, .int .i64 vp, .int .i64 vn, .int .u8 vb.toNat, .slice kp kn kc] 39)) := (Below.refl _ _).alloc (Nat.le_refl _) _
      have hm3 := HM.out.add bA (Nat.le_refl _) (heap_alloc_last _ _)
      have hne : HB ≠ wr.heap.size := by
        have := HM.out.at (H := HB) (s := .cells (secA has) 37 (0, 0)) (by simp)
        have := (Array.getElem?_eq_some_iff.1 this).1
        omega
      have HM3 := Lib.hid hm3
      obtain ⟨d, ed⟩ : ∃ d, kindN vd % 2 = d := ⟨_, rfl⟩
      obtain ⟨s, es⟩ : ∃ s, kindN vp % 8 = s := ⟨_, rfl⟩
      have hd2 : d < 2 := by omega
      have hs8 : s < 8 := by omega
      have et2 : ((kindN vd : Nat) : Int).tmod 2 = (d : Int) := by rw [Int.tmod_eq_emod_of_nonneg (by omega)]; omega
      have et8 : ((kindN vp : Nat) : Int).tmod 8 = (s : Int) := by rw [Int.tmod_eq_emod_of_nonneg (by omega)]; omega
      clear ed es
      have kl1 := kindN_lt vd
      have kl2 := kindN_lt vp
      clear hc hcj hcs ev hok hkp ekv ekn evk evd evp evn evb bA hm3 HM
      go_wp2_with fail
      obtain ⟨W1, eW⟩ : ∃ W, wr.alloc (.cells #[.int .i64 vk, .int .i64 vd, .int .i64 vp, .int .i64 vn, .int .u8 vb.toNat, .slice kp kn kc] 39) = W := ⟨_, rfl⟩
      rw [eW]
      rw [eW] at HM3
      obtain ⟨HC, eC⟩ : ∃ HC, wr.heap.size = HC := ⟨_, rfl⟩
      rw [eC]
      rw [eC] at HM3 hne
      clear eW eC k0 k1 k2 k3 k4 k5
      have hx := HM3.out.at (List.mem_cons_self ..)
      have p2 : W1.cell? ⟨HC, 2, none⟩ = some (.int .i64 vp) := cells_at hx 2
      have p4 : W1.cell? ⟨HC, 4, none⟩ = some (.int .u8 vb.toNat) := cells_at hx 4
      obtain ⟨q, hq, hoq⟩ := HP.out.write hd2 hs8 vb
      have hst : p.steps < 1099511627776 := by have := HP.out.steps; omega
      have HQ := Lib.hid hq
      have HOQ := Lib.hid hoq
      have HST := Lib.hid hst
      have ol := HP.out.len
      have OL := Lib.hid ol
      clear hx hq hoq hst ol HP
      refine (kind_any vd ok1 _).mono ?_
      rintro e x ⟨rfl, rfl⟩
      go_wp2_with fail
      refine (kind_any vp ok2 _).mono ?_
      rintro e x ⟨rfl, rfl⟩
      go_wp2_with fail
      refine (full_any vb _).mono ?_
      rintro e w5 ⟨H5, rfl, b5, s5, c5⟩
      have h5 := HM3.out.add b5 s5 c5
      go_wp2_with fail
      refine (write_mob (n := 64) (H := H5) (s := oneS vb) (oneS_len vb) h5 (by simp [oneS]) HST.out _ _ HQ.out).mono ?_
      rintro e w6 ⟨rfl, h6⟩
      have h6 := h6.drop (G := [(HB, .cells (secA has) 37 (0, 0)), (HC, .cells #[.int .i64 vk, .int .i64 vd, .int .i64 vp, .int .i64 vn, .int .u8 vb.toNat, .slice kp kn kc] 39 (0, 0))]) (by simp)
      have hx := h6.at (H := HC) (s := .cells #[.int .i64 vk, .int .i64 vd, .int .i64 vp, .int .i64 vn, .int .u8 vb.toNat, .slice kp kn kc] 39 (0, 0)) (by simp)
      have hy := h6.at (H := HB) (s := .cells (secA has) 37 (0, 0)) (by simp)
      have r3 : w6.cell? ⟨HC, 3, none⟩ = some (.int .i64 vn) := cells_at hx 3
      have r4 : w6.cell? ⟨HC, 4, none⟩ = some (.int .u8 vb.toNat) := cells_at hx 4
      have hi16 : 8 * d + s < 16 := by omega
      have hy6 : w6.cell? ⟨HB, 8 * d + s, none⟩ = some (u8v (has.getD (8 * d + s) 0)) := by
        rw [cells_at hy]
        simp [secA, List.getD_eq_getElem?_getD, List.getElem?_eq_getElem (show 8 * d + s < has.length by rw [OL.out]; exact hi16)]
      have hf6 : w6.frozen? ⟨HB, 8 * d + s, none⟩ = false := frozen_at hy _
      obtain ⟨y, ey⟩ : ∃ y, u8v (has.getD (8 * d + s) 0) = y := ⟨_, rfl⟩
      rw [ey] at hy6
      have hd2' : (d : Int) < 2 := by omega
      have hs8' : (s : Int) < 8 := by omega
      have hi16' : 8 * (d : Int) + s < 16 := by omega
      have hin : (8 * (d : Int) + s).toNat = 8 * d + s := by omega
      have hi0 : 0 ≤ 8 * (d : Int) + s := by omega
      have hne' : HC ≠ HB := fun e => hne e.symm
      have h7 : Mob w [(g, q)] [(HB, .cells (secA (has.set (8 * d + s) vb)) 37 (0, 0)), (HC, .cells #[.int .i64 vk, .int .i64 vd, .int .i64 vp, .int .i64 vn, .int .u8 vb.toNat, .slice kp kn kc] 39 (0, 0))] (w6.setCell ⟨HB, 8 * d + s, none⟩ (u8v vb)) := by
        refine h6.turn (fun x hx => by obtain rfl := List.mem_singleton.1 hx; exact hne') hHB ((Turn.refl _ _).set (.inl (by simp)) _ _) ?_
        rw [heap_set hy]
        simp [secA, List.map_set]
      have H7 := Lib.hid (h7.drop (G := [(HB, .cells (secA (has.set (8 * d + s) vb)) 37 (0, 0))]) (by simp))
      clear b5 s5 c5 h5 h6 h7 hx hy ey p2 p4 HM3 OL
      by_cases h3 : vn.tmod 3 = 0
      · obtain ⟨q2, hq2, hoq2⟩ := HOQ.out.flush hd2
        have hst2 : q.steps < 1099511627776 := by have := HOQ.out.steps; omega
        have HQ2 := Lib.hid hq2
        have HL2 := Lib.hid hoq2
        have HST2 := Lib.hid hst2
        clear hq2 hoq2 hst2
        go_wp2_with fail
        refine (flush_mob H7.out HST2.out _ HQ2.out).mono ?_
        rintro e w8 ⟨rfl, h8⟩
        have HM8 := Lib.hid h8
        have hm3 : m + 1 + 1 ≤ 2 * (k + 1) := by omega
        obtain ⟨m3, em3⟩ : ∃ m3, m + 1 + 1 = m3 := ⟨_, rfl⟩
        obtain ⟨has2, eh2⟩ : ∃ has2, has.set (8 * d + s) vb = has2 := ⟨_, rfl⟩
        obtain ⟨Q, eQ⟩ : ∃ Q, q2 = Q := ⟨_, rfl⟩
        rw [em3] at hm3 HL2
        rw [eh2] at HL2 HM8
        rw [eQ] at HL2 HM8
        clear h8 H7 HQ HOQ HST HQ2 HST2 em3 eh2 eQ hy6 hf6 r3 r4 h3
        go_wp2_with fail
        go_loopw [13] (fun i wr => ∃ j : Nat, j ≤ 16 ∧ i = .int .i64 j ∧ Mob w [(g, Q)] [(HB, .cells (secA has2) 37 (0, 0))] wr) (fun i _ => 64 - (intOf i).toNat)
        case atStart => exact ⟨0, by omega, rfl, HM8.out⟩
        case round =>
          obtain ⟨j, hj, rfl, hm⟩ := hrel
          have HM := Lib.hid hm
          clear hm
          by_cases hlj : j < 16
          · have hlj' : (j : Int) < 16 := by omega
            have hj0 : (0 : Int) ≤ j := by omega
            have eq8 : (j : Int).tdiv 8 = ((j / 8 : Nat) : Int) := by rw [Int.tdiv_eq_ediv_of_nonneg (by omega)]; omega
            have er8 : (j : Int).tmod 8 = ((j % 8 : Nat) : Int) := by rw [Int.tmod_eq_emod_of_nonneg (by omega)]; omega
            obtain ⟨hr0, hrs⟩ := HL2.out.read hlj
            go_wp2_with fail
            refine (read_mob HM.out _ _ hr0 hrs).mono ?_
            rintro e z1 ⟨X, rfl, _, r1⟩
            obtain ⟨ob, eob⟩ : ∃ ob, has2.getD j 0 = ob := ⟨_, rfl⟩
            rw [eob] at r1
            obtain ⟨T, eT⟩ : ∃ T, oneS ob = T := ⟨_, rfl⟩
            have hfull : ∀ W, Calls Try.prog 18 #[.int .u8 ob.toNat] W (SecAt T W) := fun W => by rw [← eT]; exact full_any ob W
            have ft : 0 + 64 ≤ T.length ∧ (T.drop 0).take 64 = T := by rw [← eT]; exact ⟨by rw [oneS_len]; decide, by rw [List.drop_zero, List.take_of_length_le (Nat.le_of_eq (oneS_len _))]⟩
            rw [eT] at r1
            obtain ⟨F, eF⟩ : ∃ F : List (Nat × Obj), [(X, .cells (secA T) 5 (0, 0)), (HB, .cells (secA has2) 37 (0, 0))] = F := ⟨_, rfl⟩
            have ff : (X, .cells (secA T) 5 (0, 0)) ∈ F ∧ (HB, .cells (secA has2) 37 (0, 0)) ∈ F := by simp [← eF]
            rw [eF] at r1
            have hcell : ∀ W, Mob w [(g, Q)] F W → W.cell? ⟨HB, j, none⟩ = some (.int .u8 ob.toNat) := fun W hw => by
              rw [cells_at (hw.at ff.2), ← eob]
              simp [secA, u8v, List.getD_eq_getElem?_getD, List.getElem?_eq_getElem (show j < has2.length by rw [HL2.out.len]; exact hlj)]
            have R1 := Lib.hid r1
            have HFULL := Lib.hid hfull
            have FT := Lib.hid ft
            have FF := Lib.hid ff
            have CELL := Lib.hid hcell
            have hcmp : ((secStr T).toList == (secStr T).toList) = true := by simp
            clear r1 hfull ft ff hcell eF eT eob hr0 hrs HM
            go_wp2_with fail
            refine wp_region_held_drew (S := (fun W => Mob w [(g, Q)] F W)) (by kernel_rfl) (R1.out.drew) (fun hHeld => ?_)
            refine wpAnyH_take (i := 0) (oi := { dst := some 93, op := Op.move (Operand.tmp 15), type := 25, pos := "more.go:81", after := #[], guard := none }) (v := ?_) rfl (by kernel_rfl) (by kernel_rfl) (by kernel_rfl) (fun _ _ _ h => h) (Or.inl ⟨by rfl, ?hyla_1⟩) (by assumption) ?restla_1
            case hyla_1 => (intro w hSw; (try dsimp only at hSw); go_simp; try with_reducible rfl)
            try simp only [Act.put, List.setIfInBounds_toArray, List.set_cons_zero, List.set_cons_succ]
            refine wpAnyH_take (i := 1) (oi := { dst := some 94, op := Op.binOp BinOp.neq 25 (Operand.tmp 93) (Operand.const (Value.int IntKind.i64 0)) 25, type := 4, pos := "more.go:81", after := #[{ on := 0, ground := Ground.data }], guard := none }) (v := ?_) rfl (by kernel_rfl) (by kernel_rfl) (by kernel_rfl) (fun _ _ _ h => h) (Or.inl ⟨by rfl, ?hyla_4⟩) (by assumption) ?restla_4
            case hyla_4 => (intro w hSw; (try dsimp only at hSw); go_simp; try with_reducible rfl)
            try simp only [Act.put, List.setIfInBounds_toArray, List.set_cons_zero, List.set_cons_succ]
            refine wpAnyH_take (i := 2) (oi := { dst := some 95, op := Op.move (Operand.tmp 94), type := 4, pos := "more.go:81", after := #[{ on := 1, ground := Ground.data }], guard := none }) (v := ?_) rfl (by kernel_rfl) (by kernel_rfl) (by kernel_rfl) (fun _ _ _ h => h) (Or.inl ⟨by rfl, ?hyla_7⟩) (by assumption) ?restla_7
            case hyla_7 => (intro w hSw; (try dsimp only at hSw); go_simp; try with_reducible rfl)
            try simp only [Act.put, List.setIfInBounds_toArray, List.set_cons_zero, List.set_cons_succ]
            refine wpAnyH_take (i := 3) (oi := { dst := some 96, op := Op.move (Operand.tmp 14), type := 22, pos := "more.go:81", after := #[{ on := 2, ground := Ground.guard }], guard := some (2, false) }) (v := ?_) rfl (by kernel_rfl) (by kernel_rfl) (by kernel_rfl) (fun _ _ _ h => h) (Or.inl ⟨by rfl, ?hyla_10⟩) (by assumption) ?restla_10
            case hyla_10 => (intro w hSw; (try dsimp only at hSw); go_simp; try with_reducible rfl)
            try simp only [Act.put, List.setIfInBounds_toArray, List.set_cons_zero, List.set_cons_succ]
            refine wpAnyH_take (i := 4) (oi := { dst := some 97, op := Op.convert 22 9 (Operand.tmp 96), type := 9, pos := "more.go:81", after := #[{ on := 3, ground := Ground.data }, { on := 2, ground := Ground.guard }], guard := some (2, false) }) (v := ?_) rfl (by kernel_rfl) (by kernel_rfl) (by kernel_rfl) (fun _ _ _ h => h) (Or.inl ⟨by rfl, ?hyla_13⟩) (by assumption) ?restla_13
            case hyla_13 => (intro w hSw; refine exec_convert 22 9 (.tmp 96) ?_ (.slice (some ⟨X, 0, none⟩) 64 64) (.string (secStr T)) ?_ (conv_sec (hSw.at FF.out.1) 0 64 64 FT.out.1 FT.out.2) <;> rfl)
            try simp only [Act.put, List.setIfInBounds_toArray, List.set_cons_zero, List.set_cons_succ]
            refine wpAnyH_take (i := 5) (oi := { dst := some 98, op := Op.move (Operand.tmp 13), type := 3, pos := "more.go:81", after := #[{ on := 2, ground := Ground.guard }], guard := some (2, false) }) (v := ?_) rfl (by kernel_rfl) (by kernel_rfl) (by kernel_rfl) (fun _ _ _ h => h) (Or.inl ⟨by rfl, ?hyla_16⟩) (by assumption) ?restla_16
            case hyla_16 => (intro w hSw; (try dsimp only at hSw); go_simp; try with_reducible rfl)
            try simp only [Act.put, List.setIfInBounds_toArray, List.set_cons_zero, List.set_cons_succ]
            refine wpAnyH_take (i := 6) (oi := { dst := some 99, op := Op.indexAddr 37 (Operand.tmp 6) (Operand.tmp 98), type := 0, pos := "more.go:81", after := #[{ on := 5, ground := Ground.data }, { on := 2, ground := Ground.guard }], guard := some (2, false) }) (v := ?_) rfl (by kernel_rfl) (by kernel_rfl) (by kernel_rfl) (fun _ _ _ h => h) (Or.inl ⟨by rfl, ?hyla_19⟩) (by assumption) ?restla_19
            case hyla_19 => (intro w hSw; (try dsimp only at hSw); go_simp; try with_reducible rfl)
            try simp only [Act.put, List.setIfInBounds_toArray, List.set_cons_zero, List.set_cons_succ]
            refine wpAnyH_take (i := 7) (oi := { dst := some 100, op := Op.load 5 (Operand.tmp 99), type := 5, pos := "more.go:81", after := #[{ on := 6, ground := Ground.data }, { on := 2, ground := Ground.guard }], guard := some (2, false) }) (v := ?_) rfl (by kernel_rfl) (by kernel_rfl) (by kernel_rfl) (fun _ _ _ h => h) (Or.inl ⟨by rfl, ?hyla_22⟩) (by assumption) ?restla_22
            case hyla_22 => (intro w hSw; have hcell := CELL.out w hSw; go_simp; try with_reducible rfl)
            try simp only [Act.put, List.setIfInBounds_toArray, List.set_cons_zero, List.set_cons_succ]
            refine wpAnyH_ready (rs := [8]) (by kernel_rfl) (by simp) (AllReadyH.cons (o := { dst := some 101, op := Op.call { callee := Callee.value (Operand.func 18), args := #[Operand.tmp 100], argTypes := #[5] }, type := 22, pos := "more.go:81", after := #[{ on := 7, ground := Ground.data }, { on := 2, ground := Ground.chain }, { on := 2, ground := Ground.guard }], guard := some (2, false) }) rfl (fun K hK => ?_) AllReadyH.nil)
            refine want_if (by kernel_rfl) ?_
            go_simp
            refine (HFULL.out _).mono ?_
            rintro e w9 ⟨H9, rfl, b9, s9, c9⟩
            refine hK.out _ _ (hHeld.below b9) (fun hHeld => ?_)
            clear hK K
            try simp only [Act.put, List.setIfInBounds_toArray, List.set_cons_zero, List.set_cons_succ]
            refine wpAnyH_ready (rs := [9]) (by kernel_rfl) (by simp) (AllReadyH.cons (o := { dst := some 102, op := Op.convert 22 9 (Operand.tmp 101), type := 9, pos := "more.go:81", after := #[{ on := 8, ground := Ground.data }, { on := 2, ground := Ground.guard }], guard := some (2, false) }) rfl (fun K hK => ?_) AllReadyH.nil)
            refine step_run' (by kernel_rfl) (.string (secStr T)) (exec_convert 22 9 (.tmp 101) rfl (.slice (some ⟨H9, 0, none⟩) 64 64) _ rfl (conv_sec c9 0 64 64 FT.out.1 FT.out.2)) ?_
            refine hK.out _ _ (hHeld) (fun hHeld => ?_)
            clear hK K
            try simp only [Act.put, List.setIfInBounds_toArray, List.set_cons_zero, List.set_cons_succ]
            refine wpAnyH_take (i := 10) (oi := { dst := some 103, op := Op.binOp BinOp.neq 9 (Operand.tmp 97) (Operand.tmp 102) 9, type := 4, pos := "more.go:81", after := #[{ on := 4, ground := Ground.data }, { on := 9, ground := Ground.data }, { on := 2, ground := Ground.guard }], guard := some (2, false) }) (v := ?_) rfl (by kernel_rfl) (by kernel_rfl) (by kernel_rfl) (fun _ _ _ h => h) (Or.inl ⟨by rfl, ?hyla_38⟩) (by assumption) ?restla_38
            case hyla_38 => (intro w hSw; (try dsimp only at hSw); go_simp; try with_reducible rfl)
            try simp only [Act.put, List.setIfInBounds_toArray, List.set_cons_zero, List.set_cons_succ]
            refine wpAnyH_take (i := 11) (oi := { dst := some 104, op := Op.pick (Operand.tmp 95) (Operand.const (Value.bool true)) (Operand.tmp 103), type := 4, pos := "more.go:81", after := #[{ on := 2, ground := Ground.data }, { on := 10, ground := Ground.data }], guard := none }) (v := ?_) rfl (by kernel_rfl) (by kernel_rfl) (by kernel_rfl) (fun _ _ _ h => h) (Or.inl ⟨by rfl, ?hyla_41⟩) (by assumption) ?restla_41
            case hyla_41 => (intro w hSw; (try dsimp only at hSw); go_simp; try with_reducible rfl)
            try simp only [Act.put, List.setIfInBounds_toArray, List.set_cons_zero, List.set_cons_succ]
            refine wpAnyH_done (by kernel_rfl) ?_ _
            clear c9 s9 b9
            have H9 := Lib.hid (hHeld.drop (G := [(HB, .cells (secA has2) 37 (0, 0))]) (by intro x hx; obtain rfl := List.mem_singleton.1 hx; exact FF.out.2))
            clear hHeld
            go_wp2_with fail
            go_roundw
            case rel => exact ⟨j + 1, by omega, by go_num, H9.out⟩
            case measure => simp [intOf]; omega
          · obtain rfl : j = 16 := by omega
            go_wp2_with fail
            go_roundw
            case rel => exact ⟨k + 1, m3, Q, has2, by omega, by omega, by go_num, hm3, HL2.out, HM.out⟩
            case measure => simp [intOf]; omega
      · have HL2 := Lib.hid HOQ.out
        have HM8 := Lib.hid H7.out
        have hm3 : m + 1 ≤ 2 * (k + 1) := by omega
        go_wp2_with fail
        obtain ⟨m3, em3⟩ : ∃ m3, m + 1 = m3 := ⟨_, rfl⟩
        obtain ⟨has2, eh2⟩ : ∃ has2, has.set (8 * d + s) vb = has2 := ⟨_, rfl⟩
        obtain ⟨Q, eQ⟩ : ∃ Q, q = Q := ⟨_, rfl⟩
        rw [em3] at hm3 HL2
        rw [eh2] at HL2 HM8
        rw [eQ] at HL2 HM8
        have h3' : (vn.tmod 3 == 0) = false := by simpa using h3
        try rw [h3']
        clear H7 HQ HOQ HST em3 eh2 eQ hy6 hf6 r3 r4 h3 h3'
        go_loopw [13] (fun i wr => ∃ j : Nat, j ≤ 16 ∧ i = .int .i64 j ∧ Mob w [(g, Q)] [(HB, .cells (secA has2) 37 (0, 0))] wr) (fun i _ => 64 - (intOf i).toNat)
        case atStart => exact ⟨0, by omega, rfl, HM8.out⟩
        case round =>
          obtain ⟨j, hj, rfl, hm⟩ := hrel
          have HM := Lib.hid hm
          clear hm
          by_cases hlj : j < 16
          · have hlj' : (j : Int) < 16 := by omega
            have hj0 : (0 : Int) ≤ j := by omega
            have eq8 : (j : Int).tdiv 8 = ((j / 8 : Nat) : Int) := by rw [Int.tdiv_eq_ediv_of_nonneg (by omega)]; omega
            have er8 : (j : Int).tmod 8 = ((j % 8 : Nat) : Int) := by rw [Int.tmod_eq_emod_of_nonneg (by omega)]; omega
            obtain ⟨hr0, hrs⟩ := HL2.out.read hlj
            go_wp2_with fail
            refine (read_mob HM.out _ _ hr0 hrs).mono ?_
            rintro e z1 ⟨X, rfl, _, r1⟩
            obtain ⟨ob, eob⟩ : ∃ ob, has2.getD j 0 = ob := ⟨_, rfl⟩
            rw [eob] at r1
            obtain ⟨T, eT⟩ : ∃ T, oneS ob = T := ⟨_, rfl⟩
            have hfull : ∀ W, Calls Try.prog 18 #[.int .u8 ob.toNat] W (SecAt T W) := fun W => by rw [← eT]; exact full_any ob W
            have ft : 0 + 64 ≤ T.length ∧ (T.drop 0).take 64 = T := by rw [← eT]; exact ⟨by rw [oneS_len]; decide, by rw [List.drop_zero, List.take_of_length_le (Nat.le_of_eq (oneS_len _))]⟩
            rw [eT] at r1
            obtain ⟨F, eF⟩ : ∃ F : List (Nat × Obj), [(X, .cells (secA T) 5 (0, 0)), (HB, .cells (secA has2) 37 (0, 0))] = F := ⟨_, rfl⟩
            have ff : (X, .cells (secA T) 5 (0, 0)) ∈ F ∧ (HB, .cells (secA has2) 37 (0, 0)) ∈ F := by simp [← eF]
            rw [eF] at r1
            have hcell : ∀ W, Mob w [(g, Q)] F W → W.cell? ⟨HB, j, none⟩ = some (.int .u8 ob.toNat) := fun W hw => by
              rw [cells_at (hw.at ff.2), ← eob]
              simp [secA, u8v, List.getD_eq_getElem?_getD, List.getElem?_eq_getElem (show j < has2.length by rw [HL2.out.len]; exact hlj)]
            have R1 := Lib.hid r1
            have HFULL := Lib.hid hfull
            have FT := Lib.hid ft
            have FF := Lib.hid ff
            have CELL := Lib.hid hcell
            have hcmp : ((secStr T).toList == (secStr T).toList) = true := by simp
            clear r1 hfull ft ff hcell eF eT eob hr0 hrs HM
            go_wp2_with fail
            refine wp_region_held_drew (S := (fun W => Mob w [(g, Q)] F W)) (by kernel_rfl) (R1.out.drew) (fun hHeld => ?_)
            refine wpAnyH_take (i := 0) (oi := { dst := some 93, op := Op.move (Operand.tmp 15), type := 25, pos := "more.go:81", after := #[], guard := none }) (v := ?_) rfl (by kernel_rfl) (by kernel_rfl) (by kernel_rfl) (fun _ _ _ h => h) (Or.inl ⟨by rfl, ?hylb_1⟩) (by assumption) ?restlb_1
            case hylb_1 => (intro w hSw; (try dsimp only at hSw); go_simp; try with_reducible rfl)
            try simp only [Act.put, List.setIfInBounds_toArray, List.set_cons_zero, List.set_cons_succ]
            refine wpAnyH_take (i := 1) (oi := { dst := some 94, op := Op.binOp BinOp.neq 25 (Operand.tmp 93) (Operand.const (Value.int IntKind.i64 0)) 25, type := 4, pos := "more.go:81", after := #[{ on := 0, ground := Ground.data }], guard := none }) (v := ?_) rfl (by kernel_rfl) (by kernel_rfl) (by kernel_rfl) (fun _ _ _ h => h) (Or.inl ⟨by rfl, ?hylb_4⟩) (by assumption) ?restlb_4
            case hylb_4 => (intro w hSw; (try dsimp only at hSw); go_simp; try with_reducible rfl)
            try simp only [Act.put, List.setIfInBounds_toArray, List.set_cons_zero, List.set_cons_succ]
            refine wpAnyH_take (i := 2) (oi := { dst := some 95, op := Op.move (Operand.tmp 94), type := 4, pos := "more.go:81", after := #[{ on := 1, ground := Ground.data }], guard := none }) (v := ?_) rfl (by kernel_rfl) (by kernel_rfl) (by kernel_rfl) (fun _ _ _ h => h) (Or.inl ⟨by rfl, ?hylb_7⟩) (by assumption) ?restlb_7
            case hylb_7 => (intro w hSw; (try dsimp only at hSw); go_simp; try with_reducible rfl)
            try simp only [Act.put, List.setIfInBounds_toArray, List.set_cons_zero, List.set_cons_succ]
            refine wpAnyH_take (i := 3) (oi := { dst := some 96, op := Op.move (Operand.tmp 14), type := 22, pos := "more.go:81", after := #[{ on := 2, ground := Ground.guard }], guard := some (2, false) }) (v := ?_) rfl (by kernel_rfl) (by kernel_rfl) (by kernel_rfl) (fun _ _ _ h => h) (Or.inl ⟨by rfl, ?hylb_10⟩) (by assumption) ?restlb_10
            case hylb_10 => (intro w hSw; (try dsimp only at hSw); go_simp; try with_reducible rfl)
            try simp only [Act.put, List.setIfInBounds_toArray, List.set_cons_zero, List.set_cons_succ]
            refine wpAnyH_take (i := 4) (oi := { dst := some 97, op := Op.convert 22 9 (Operand.tmp 96), type := 9, pos := "more.go:81", after := #[{ on := 3, ground := Ground.data }, { on := 2, ground := Ground.guard }], guard := some (2, false) }) (v := ?_) rfl (by kernel_rfl) (by kernel_rfl) (by kernel_rfl) (fun _ _ _ h => h) (Or.inl ⟨by rfl, ?hylb_13⟩) (by assumption) ?restlb_13
            case hylb_13 => (intro w hSw; refine exec_convert 22 9 (.tmp 96) ?_ (.slice (some ⟨X, 0, none⟩) 64 64) (.string (secStr T)) ?_ (conv_sec (hSw.at FF.out.1) 0 64 64 FT.out.1 FT.out.2) <;> rfl)
            try simp only [Act.put, List.setIfInBounds_toArray, List.set_cons_zero, List.set_cons_succ]
            refine wpAnyH_take (i := 5) (oi := { dst := some 98, op := Op.move (Operand.tmp 13), type := 3, pos := "more.go:81", after := #[{ on := 2, ground := Ground.guard }], guard := some (2, false) }) (v := ?_) rfl (by kernel_rfl) (by kernel_rfl) (by kernel_rfl) (fun _ _ _ h => h) (Or.inl ⟨by rfl, ?hylb_16⟩) (by assumption) ?restlb_16
            case hylb_16 => (intro w hSw; (try dsimp only at hSw); go_simp; try with_reducible rfl)
            try simp only [Act.put, List.setIfInBounds_toArray, List.set_cons_zero, List.set_cons_succ]
            refine wpAnyH_take (i := 6) (oi := { dst := some 99, op := Op.indexAddr 37 (Operand.tmp 6) (Operand.tmp 98), type := 0, pos := "more.go:81", after := #[{ on := 5, ground := Ground.data }, { on := 2, ground := Ground.guard }], guard := some (2, false) }) (v := ?_) rfl (by kernel_rfl) (by kernel_rfl) (by kernel_rfl) (fun _ _ _ h => h) (Or.inl ⟨by rfl, ?hylb_19⟩) (by assumption) ?restlb_19
            case hylb_19 => (intro w hSw; (try dsimp only at hSw); go_simp; try with_reducible rfl)
            try simp only [Act.put, List.setIfInBounds_toArray, List.set_cons_zero, List.set_cons_succ]
            refine wpAnyH_take (i := 7) (oi := { dst := some 100, op := Op.load 5 (Operand.tmp 99), type := 5, pos := "more.go:81", after := #[{ on := 6, ground := Ground.data }, { on := 2, ground := Ground.guard }], guard := some (2, false) }) (v := ?_) rfl (by kernel_rfl) (by kernel_rfl) (by kernel_rfl) (fun _ _ _ h => h) (Or.inl ⟨by rfl, ?hylb_22⟩) (by assumption) ?restlb_22
            case hylb_22 => (intro w hSw; have hcell := CELL.out w hSw; go_simp; try with_reducible rfl)
            try simp only [Act.put, List.setIfInBounds_toArray, List.set_cons_zero, List.set_cons_succ]
            refine wpAnyH_ready (rs := [8]) (by kernel_rfl) (by simp) (AllReadyH.cons (o := { dst := some 101, op := Op.call { callee := Callee.value (Operand.func 18), args := #[Operand.tmp 100], argTypes := #[5] }, type := 22, pos := "more.go:81", after := #[{ on := 7, ground := Ground.data }, { on := 2, ground := Ground.chain }, { on := 2, ground := Ground.guard }], guard := some (2, false) }) rfl (fun K hK => ?_) AllReadyH.nil)
            refine want_if (by kernel_rfl) ?_
            go_simp
            refine (HFULL.out _).mono ?_
            rintro e w9 ⟨H9, rfl, b9, s9, c9⟩
            refine hK.out _ _ (hHeld.below b9) (fun hHeld => ?_)
            clear hK K
            try simp only [Act.put, List.setIfInBounds_toArray, List.set_cons_zero, List.set_cons_succ]
            refine wpAnyH_ready (rs := [9]) (by kernel_rfl) (by simp) (AllReadyH.cons (o := { dst := some 102, op := Op.convert 22 9 (Operand.tmp 101), type := 9, pos := "more.go:81", after := #[{ on := 8, ground := Ground.data }, { on := 2, ground := Ground.guard }], guard := some (2, false) }) rfl (fun K hK => ?_) AllReadyH.nil)
            refine step_run' (by kernel_rfl) (.string (secStr T)) (exec_convert 22 9 (.tmp 101) rfl (.slice (some ⟨H9, 0, none⟩) 64 64) _ rfl (conv_sec c9 0 64 64 FT.out.1 FT.out.2)) ?_
            refine hK.out _ _ (hHeld) (fun hHeld => ?_)
            clear hK K
            try simp only [Act.put, List.setIfInBounds_toArray, List.set_cons_zero, List.set_cons_succ]
            refine wpAnyH_take (i := 10) (oi := { dst := some 103, op := Op.binOp BinOp.neq 9 (Operand.tmp 97) (Operand.tmp 102) 9, type := 4, pos := "more.go:81", after := #[{ on := 4, ground := Ground.data }, { on := 9, ground := Ground.data }, { on := 2, ground := Ground.guard }], guard := some (2, false) }) (v := ?_) rfl (by kernel_rfl) (by kernel_rfl) (by kernel_rfl) (fun _ _ _ h => h) (Or.inl ⟨by rfl, ?hylb_38⟩) (by assumption) ?restlb_38
            case hylb_38 => (intro w hSw; (try dsimp only at hSw); go_simp; try with_reducible rfl)
            try simp only [Act.put, List.setIfInBounds_toArray, List.set_cons_zero, List.set_cons_succ]
            refine wpAnyH_take (i := 11) (oi := { dst := some 104, op := Op.pick (Operand.tmp 95) (Operand.const (Value.bool true)) (Operand.tmp 103), type := 4, pos := "more.go:81", after := #[{ on := 2, ground := Ground.data }, { on := 10, ground := Ground.data }], guard := none }) (v := ?_) rfl (by kernel_rfl) (by kernel_rfl) (by kernel_rfl) (fun _ _ _ h => h) (Or.inl ⟨by rfl, ?hylb_41⟩) (by assumption) ?restlb_41
            case hylb_41 => (intro w hSw; (try dsimp only at hSw); go_simp; try with_reducible rfl)
            try simp only [Act.put, List.setIfInBounds_toArray, List.set_cons_zero, List.set_cons_succ]
            refine wpAnyH_done (by kernel_rfl) ?_ _
            clear c9 s9 b9
            have H9 := Lib.hid (hHeld.drop (G := [(HB, .cells (secA has2) 37 (0, 0))]) (by intro x hx; obtain rfl := List.mem_singleton.1 hx; exact FF.out.2))
            clear hHeld
            go_wp2_with fail
            go_roundw
            case rel => exact ⟨j + 1, by omega, by go_num, H9.out⟩
            case measure => simp [intOf]; omega
          · obtain rfl : j = 16 := by omega
            go_wp2_with fail
            go_roundw
            case rel => exact ⟨k + 1, m3, Q, has2, by omega, by omega, by go_num, hm3, HL2.out, HM.out⟩
            case measure => simp [intOf]; omega
    · by_cases hlt : k < l.length
      · have hlt' : (k : Int) < l.length := by omega
        have h100' : ¬ (k : Int) < 100 := by omega
        go_wp2_with fail
        go_ret
        exact ⟨rfl, HM.out.base⟩
      · have hlt' : ¬ (k : Int) < l.length := by omega
        go_wp2_with fail
        go_ret
        exact ⟨rfl, HM.out.base⟩
end Go.Proofs.Ytpnijopbbbgffaa.plantw
