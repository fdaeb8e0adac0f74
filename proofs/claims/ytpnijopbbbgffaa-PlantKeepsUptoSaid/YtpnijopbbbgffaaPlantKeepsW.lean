/- Walks of layer 3's statements: PlantKeeps. Conditions: as each theorem says. -/
import Derived.Test.YtpnijopbbbgffaaPlantJ
import Derived.Test.YtpnijopbbbgffaaPlantQ
import Derived.Deep.RegionHeld3
import Derived.Deep.QuietTactic
import Derived.BigQuiet
import Derived.WalkLawsBesides
namespace Go.Proofs.Ytpnijopbbbgffaa.plantw
open Go.RowKit
open Go.Proofs.Ytpnijopbbbgffaa.plantp
open Go.Proofs.Ytpnijopbbbgffaa.mapfn
open Go.Proofs.Ytpnijopbbbgffaa.buf
theorem make16 (w : World) : (Instr.makeSlice 22 (.int .i64 16) (.int .i64 16)).run Try.prog w = .ok (.slice (some ⟨w.heap.size, 0, none⟩) 16 16) (w.alloc (.cells (secA (List.replicate 16 0)) 5)) := by kernel_rfl
theorem byte_eq (a b : UInt8) : ((a.toNat : Int) == (b.toNat : Int)) = (a == b) := by
  by_cases h : a = b
  · simp [h]
  · have : ¬ (a.toNat : Int) = b.toNat := fun e => h (UInt8.toNat_inj.1 (by omega))
    rw [beq_eq_false_iff_ne.2 h, beq_eq_false_iff_ne.2 this]
/-- One byte of a row beside is set. -/
theorem Many.set {w W : World} {L : List (Nat × PS)} {H : Nat} {s : Sec} (h : Many w L [(H, s)] W) (hH : w.heap.size ≤ H) (i : Nat) (c : UInt8) : Many w L [(H, s.set i c)] (W.setCell ⟨H, i, none⟩ (u8v c)) := by
  obtain ⟨T, h0, h1, h2, h3, h4⟩ := h
  have h5 := h4 (H, s) (by simp)
  refine ⟨T, h0, fun t ht => ⟨(h1 t ht).1.keep fun k hk => Below.heap_setCell _ _ _ _ fun e => h5.1 t ht (by have e' : k = H := e; exact e' ▸ hk), (h1 t ht).2⟩, h2, h3.setCell (p := ⟨H, i, none⟩) hH _, fun x hx => ?_⟩
  obtain rfl := List.mem_singleton.1 hx
  refine ⟨h5.1, ?_⟩
  rw [heap_set h5.2]
  congr 2
  simp [secA, List.map_set]
set_option maxHeartbeats 4000000 in
set_option maxRecDepth 100000 in
theorem keeps_walk (w : World) {A0 A1 A2 : Option Addr} {c0 c1 c2 : Nat} {l0 l1 : Sec} {keep : List Int} (n0 : l0.length ≤ 1048576) (n1 : l1.length ≤ 1048576) (h0 : BytesIn w A0 l0) (h1 : BytesIn w A1 l1) (h2 : IntsAt w (.slice A2 keep.length c2) keep) :
    Calls Try.prog 6 #[.slice A0 l0.length c0, .slice A1 l1.length c1, .slice A2 keep.length c2] w fun e w' => e = .returned (.bool true) ∧ Below w.heap.size w w' := by
  have HS := Lib.hid (shown_any w)
  have H0 := Lib.hid h0
  have H1 := Lib.hid h1
  have H2 := Lib.hid h2
  clear h0 h1 h2
  go_enter Try.func6, Try.ntmps6
  go_wp2_with fail
  refine HS.out.mono ?_
  rintro e w1 ⟨rfl, b1⟩
  have HN := Lib.hid (new_own (b1.alloc b1.size (.cells #[.int .i64 16] 3)) (ints_lit (zs := [16]) (heap_alloc_last w1 (.cells #[.int .i64 16] 3)) (by decide)) (by decide))
  go_wp2_with fail
  refine HN.out.mono ?_
  rintro e w2 ⟨g, rfl, n2⟩
  clear HN
  have m1 := make16 w2
  obtain ⟨v1, e1⟩ : ∃ W, W = w2.alloc (.cells (secA (List.replicate 16 0)) 5) := ⟨_, rfl⟩
  have s1 : v1.heap[w2.heap.size]? = some (.cells (secA (List.replicate 16 0)) 5 (0, 0)) := by rw [e1]; exact heap_alloc_last _ _
  have b21 : Below w2.heap.size w2 v1 := by rw [e1]; exact (Below.refl _ _).alloc (Nat.le_refl _) _
  rw [← e1] at m1
  have hm := n2.mine.many.add b21 (Nat.le_refl _) s1
  obtain ⟨H, eH⟩ : ∃ H, w2.heap.size = H := ⟨_, rfl⟩
  have hH : w.heap.size ≤ H := by rw [← eH]; exact n2.base.size
  rw [eH] at m1 hm
  have M1 := Lib.hid m1
  have HM := Lib.hid hm
  clear e1 s1 b21 m1 hm n2 HS b1 eH
  go_wp2_with fail
  go_wp2_with (rw [M1.out])
  go_loopw [11] (fun i wr => ∃ (k : Nat) (p : PS) (old : Sec), k ≤ l0.length ∧ i = .int .i64 k ∧ First k old p ∧ Many w [(g, p)] [(H, old)] wr) (fun i _ => l0.length - (intOf i).toNat)
  case atStart => exact ⟨0, _, _, by omega, rfl, First.start, HM.out⟩
  case round =>
    obtain ⟨k, p, old, hk, rfl, hp, hm⟩ := hrel
    have HP := Lib.hid hp
    have HM := Lib.hid hm
    have hkn : (k : Int) ≤ 1048576 := by omega
    clear hp hm
    by_cases hlt : k < l0.length
    · have hlt' : (k : Int) < l0.length := by omega
      obtain ⟨b, o, rfl, hbk, hcs⟩ := H0.out.shape (by intro h; subst h; simp at hlt)
      have hc' : ∀ W, Below w.heap.size w W → W.cell? ⟨b, o + k, none⟩ = some (.int .u8 (l0[k]).toNat) := fun W hb => (hb.cell (p := ⟨b, o + k, none⟩) hbk).trans (hcs k hlt)
      obtain ⟨x, ex⟩ : ∃ x, l0[k] = x := ⟨_, rfl⟩
      rw [ex] at hc'
      have HC := Lib.hid hc'
      have hcw := hc' wr HM.out.base
      have et : (k : Int).tmod 16 = ((k % 16 : Nat) : Int) := by rw [Int.tmod_eq_emod_of_nonneg (by omega)]; omega
      obtain ⟨q, hq, hoq⟩ := HP.out.write x
      have hst : p.steps < 1099511627776 := by have := HP.out.steps; omega
      have HQ := Lib.hid hq
      have HOQ := Lib.hid hoq
      have HST := Lib.hid hst
      clear hc' hcs hq hoq hst ex
      go_wp2_with fail
      refine (full_any x _).mono ?_
      rintro e w5 ⟨H5, rfl, b5, s5, c5⟩
      have h5 := HM.out.add b5 s5 c5
      clear hcw
      go_wp2_with fail
      refine (write_many (n := 64) (H := H5) (s := oneS x) (oneS_len x) h5 (by simp [oneS]) HST.out 0 _ HQ.out).mono ?_
      rintro e w6 ⟨rfl, h6⟩
      have h6 := h6.drop (G := [(H, old)]) (by simp)
      have hk16 : k % 16 < 16 := Nat.mod_lt _ (by omega)
      have hk16' : ((k % 16 : Nat) : Int) < 16 := by omega
      have hc6 := HC.out w6 h6.base
      have hw := h6.at (H := H) (s := old) (by simp)
      have hx6 : w6.cell? ⟨H, k % 16, none⟩ = some (u8v (old.getD (k % 16) 0)) := by
        rw [cells_at hw]
        simp [secA, List.getD_eq_getElem?_getD, List.getElem?_eq_getElem (show k % 16 < old.length by rw [HP.out.len]; exact hk16)]
      have hf6 : w6.frozen? ⟨H, k % 16, none⟩ = false := frozen_at hw _
      obtain ⟨y, ey⟩ : ∃ y, u8v (old.getD (k % 16) 0) = y := ⟨_, rfl⟩
      rw [ey] at hx6
      have H6 := Lib.hid h6
      clear b5 s5 c5 h5 h6 hw ey
      go_wp2_with fail
      go_roundw
      case rel => exact ⟨k + 1, q, _, by omega, by go_num, HOQ.out, H6.out.set hH _ x⟩
      case measure => simp [intOf]; omega
    · obtain rfl : k = l0.length := by omega
      have hlt' : ¬ (l0.length : Int) < l0.length := by omega
      obtain ⟨p1, hq1, hl1⟩ := HP.out.flush l1
      have hst : p.steps < 1099511627776 := by have := HP.out.steps; omega
      have HQ1 := Lib.hid hq1
      have HL1 := Lib.hid hl1
      have HST := Lib.hid hst
      have ol := HP.out.len
      have OL := Lib.hid ol
      clear hq1 hl1 hst HP ol
      go_wp2_with fail
      refine (flush_many HM.out HST.out 0 HQ1.out).mono ?_
      rintro e w5 ⟨rfl, h5⟩
      have H5 := Lib.hid h5
      clear h5 HM HQ1 HST
      go_wp2_with fail
      go_loopw [13] (fun i wr => ∃ (k : Nat) (p : PS), k ≤ l1.length ∧ i = .int .i64 k ∧ Later l1 l0.length k old p ∧ Many w [(g, p)] [(H, old)] wr) (fun i _ => l1.length - (intOf i).toNat)
      case atStart => exact ⟨0, _, by omega, rfl, HL1.out, H5.out⟩
      case round =>
        obtain ⟨k, p, hk, rfl, hp, hm⟩ := hrel
        have HP := Lib.hid hp
        have HM := Lib.hid hm
        have hkn : (k : Int) ≤ 1048576 := by omega
        have hst : p.steps < 1099511627776 := by have := HP.out.steps; omega
        have HST := Lib.hid hst
        clear hp hm hst
        by_cases hlt : k < l1.length
        · have hlt1 : (k : Int) < l1.length := by omega
          obtain ⟨b, o, rfl, hbk, hcs⟩ := H1.out.shape (by intro h; subst h; simp at hlt)
          obtain ⟨x, ex⟩ : ∃ x, l1.getD k 0 = x := ⟨_, rfl⟩
          have ex' : l1[k] = x := by rw [← ex]; simp [List.getD_eq_getElem?_getD, hlt]
          have hcw : wr.cell? ⟨b, o + k, none⟩ = some (.int .u8 x.toNat) := by
            rw [← ex']; exact (HM.out.base.cell (p := ⟨b, o + k, none⟩) hbk).trans (hcs k hlt)
          have et : (3 * (k : Int)).tmod 16 = (((3 * k) % 16 : Nat) : Int) := by rw [Int.tmod_eq_emod_of_nonneg (by omega)]; omega
          obtain ⟨q, hq, hoq⟩ := HP.out.write
          rw [ex] at hq
          have HQ := Lib.hid hq
          have HOQ := Lib.hid hoq
          clear hcs hq hoq ex ex'
          go_wp2_with fail
          refine (full_any x _).mono ?_
          rintro e w6 ⟨H6, rfl, b6, s6, c6⟩
          have h6 := HM.out.add b6 s6 c6
          clear hcw
          go_wp2_with fail
          refine (write_many (n := 64) (H := H6) (s := oneS x) (oneS_len x) h6 (by simp [oneS]) HST.out 0 _ HQ.out).mono ?_
          rintro e w7 ⟨rfl, h7⟩
          have h7 := Lib.hid (h7.drop (G := [(H, old)]) (by simp))
          clear b6 s6 c6 h6
          go_wp2_with fail
          go_roundw
          case rel => exact ⟨k + 1, q, by omega, by go_num, HOQ.out, h7.out⟩
          case measure => simp [intOf]; omega
        · obtain rfl : k = l1.length := by omega
          have hlt1 : ¬ (l1.length : Int) < l1.length := by omega
          go_wp2_with fail
          refine (clone_many HM.out HST.out).mono ?_
          rintro e w6 ⟨q, rfl, h6⟩
          have H6 := Lib.hid h6.swap
          clear h6 HM
          go_wp2_with fail
          refine (boot_many H6.out HST.out (H2.out.below H6.out.base)).mono ?_
          rintro e w7 ⟨rfl, h7⟩
          have H7 := Lib.hid h7.swap
          clear h7 H6
          go_wp2_with fail
          refine (boot_many H7.out HST.out (vk := .slice none 0 0) (keep := []) ⟨by decide, .inl ⟨rfl, none, 0, rfl⟩⟩).mono ?_
          rintro e w8 ⟨rfl, h8⟩
          have H8 := Lib.hid h8.swap
          clear h8 H7
          have hbt := HP.out.boot keep
          have hbn := HP.out.bootNone
          have hre : ∀ s, s < 16 → (p.boot []).readE 0 (s : Nat) = 0 := fun s hs => (HP.out.boot [] s hs).1
          obtain ⟨P, eP⟩ : ∃ P, p.boot keep = P := ⟨_, rfl⟩
          obtain ⟨Q, eQ⟩ : ∃ Q, p.boot [] = Q := ⟨_, rfl⟩
          rw [eP, eQ] at H8
          rw [eP] at hbt
          rw [eQ] at hbn hre
          have HBT := Lib.hid hbt
          have HBN := Lib.hid hbn
          have HRE := Lib.hid hre
          clear hbt hbn hre eP eQ HP HST
          go_wp2_with fail
          go_loopw [15] (fun i wr => ∃ k : Nat, k ≤ 16 ∧ i = .int .i64 k ∧ Many w [(g, P), (q, Q)] [(H, old)] wr) (fun i _ => 64 - (intOf i).toNat)
          case atStart => exact ⟨0, by omega, rfl, H8.out⟩
          case round =>
            obtain ⟨s, hs, rfl, hm⟩ := hrel
            have HM := Lib.hid hm
            clear hm
            by_cases hls : s < 16
            · have hls' : (s : Int) < 16 := by omega
              obtain ⟨r0, a0, a1, hsec, ma0, ma1⟩ := HBT.out s hls
              go_wp2_with fail
              refine (read_many HM.out 0 (s : Int) r0 hsec).mono ?_
              rintro e z1 ⟨X, rfl, _, r1⟩
              go_wp2_with fail
              refine (read_many r1.swap 0 (s : Int) (HRE.out s hls) (HBN.out s hls)).mono ?_
              rintro e z2 ⟨Y, rfl, _, r2⟩
              have R2 := Lib.hid r2.swap
              clear r1 r2 HM r0 hsec
              obtain ⟨ob, eob⟩ : ∃ ob, old.getD s 0 = ob := ⟨_, rfl⟩
              rw [eob] at ma0 ma1 R2
              have MA := Lib.hid (And.intro ma0 ma1)
              have EOB := Lib.hid eob
              clear ma0 ma1 eob
              obtain ⟨T, eT⟩ : ∃ T, oneS ob = T := ⟨_, rfl⟩
              obtain ⟨B, eB⟩ : ∃ B, Halves a0 a1 = B := ⟨_, rfl⟩
              have hfull : ∀ W, Calls Try.prog 18 #[.int .u8 ob.toNat] W (SecAt T W) := fun W => by rw [← eT]; exact full_any ob W
              have ft : 0 + 64 ≤ T.length ∧ (T.drop 0).take 64 = T := by rw [← eT]; exact ⟨by rw [oneS_len]; decide, by rw [List.drop_zero, List.take_of_length_le (Nat.le_of_eq (oneS_len _))]⟩
              rw [eT, eB] at R2
              obtain ⟨F, eF⟩ : ∃ F, [(Y, T), (X, B), (H, old)] = F := ⟨_, rfl⟩
              have ff : (Y, T) ∈ F ∧ (X, B) ∈ F ∧ (H, old) ∈ F := by simp [← eF]
              rw [eF] at R2
              have HFULL := Lib.hid hfull
              have FT := Lib.hid ft
              have FF := Lib.hid ff
              have EF := Lib.hid eF
              have EB := Lib.hid eB
              have hcell : ∀ W, Many w [(g, P), (q, Q)] F W → W.cell? ⟨H, s, none⟩ = some (.int .u8 ob.toNat) := fun W hw => by
                rw [cells_at (hw.at FF.out.2.2), ← EOB.out]
                simp [secA, u8v, List.getD_eq_getElem?_getD, List.getElem?_eq_getElem (show s < old.length by rw [OL.out]; exact hls)]
              have CELL := Lib.hid hcell
              have hcmp : ((secStr T).toList == (secStr T).toList) = true := by simp
              clear hfull ft ff eF eB eT hcell
              go_wp2_with fail
              refine wp_region_held_drew (S := (fun W => Many w [(g, P), (q, Q)] F W)) (by kernel_rfl) (R2.out.drew) (fun hHeld => ?_)
              refine wpAnyH_take (i := 0) (oi := { dst := some 109, op := Op.move (Operand.tmp 17), type := 25, pos := "law.go:205", after := #[], guard := none }) (v := ?_) rfl (by kernel_rfl) (by kernel_rfl) (by kernel_rfl) (fun _ _ _ h => h) (Or.inl ⟨by rfl, ?hyrk_1⟩) (by assumption) ?restrk_1
              case hyrk_1 => (intro w hSw; (try dsimp only at hSw); go_simp; try with_reducible rfl)
              try simp only [Act.put, List.setIfInBounds_toArray, List.set_cons_zero, List.set_cons_succ]
              refine wpAnyH_take (i := 1) (oi := { dst := some 110, op := Op.binOp BinOp.neq 25 (Operand.tmp 109) (Operand.const (Value.int IntKind.i64 0)) 25, type := 4, pos := "law.go:205", after := #[{ on := 0, ground := Ground.data }], guard := none }) (v := ?_) rfl (by kernel_rfl) (by kernel_rfl) (by kernel_rfl) (fun _ _ _ h => h) (Or.inl ⟨by rfl, ?hyrk_4⟩) (by assumption) ?restrk_4
              case hyrk_4 => (intro w hSw; (try dsimp only at hSw); go_simp; try with_reducible rfl)
              try simp only [Act.put, List.setIfInBounds_toArray, List.set_cons_zero, List.set_cons_succ]
              refine wpAnyH_take (i := 2) (oi := { dst := some 111, op := Op.move (Operand.tmp 110), type := 4, pos := "law.go:205", after := #[{ on := 1, ground := Ground.data }], guard := none }) (v := ?_) rfl (by kernel_rfl) (by kernel_rfl) (by kernel_rfl) (fun _ _ _ h => h) (Or.inl ⟨by rfl, ?hyrk_7⟩) (by assumption) ?restrk_7
              case hyrk_7 => (intro w hSw; (try dsimp only at hSw); go_simp; try with_reducible rfl)
              try simp only [Act.put, List.setIfInBounds_toArray, List.set_cons_zero, List.set_cons_succ]
              refine wpAnyH_take (i := 3) (oi := { dst := some 112, op := Op.move (Operand.tmp 19), type := 25, pos := "law.go:205", after := #[{ on := 2, ground := Ground.guard }], guard := some (2, false) }) (v := ?_) rfl (by kernel_rfl) (by kernel_rfl) (by kernel_rfl) (fun _ _ _ h => h) (Or.inl ⟨by rfl, ?hyrk_10⟩) (by assumption) ?restrk_10
              case hyrk_10 => (intro w hSw; (try dsimp only at hSw); go_simp; try with_reducible rfl)
              try simp only [Act.put, List.setIfInBounds_toArray, List.set_cons_zero, List.set_cons_succ]
              refine wpAnyH_take (i := 4) (oi := { dst := some 113, op := Op.binOp BinOp.neq 25 (Operand.tmp 112) (Operand.const (Value.int IntKind.i64 0)) 25, type := 4, pos := "law.go:205", after := #[{ on := 3, ground := Ground.data }, { on := 2, ground := Ground.guard }], guard := some (2, false) }) (v := ?_) rfl (by kernel_rfl) (by kernel_rfl) (by kernel_rfl) (fun _ _ _ h => h) (Or.inl ⟨by rfl, ?hyrk_13⟩) (by assumption) ?restrk_13
              case hyrk_13 => (intro w hSw; (try dsimp only at hSw); go_simp; try with_reducible rfl)
              try simp only [Act.put, List.setIfInBounds_toArray, List.set_cons_zero, List.set_cons_succ]
              refine wpAnyH_take (i := 5) (oi := { dst := some 114, op := Op.pick (Operand.tmp 111) (Operand.const (Value.bool true)) (Operand.tmp 113), type := 4, pos := "law.go:205", after := #[{ on := 2, ground := Ground.data }, { on := 4, ground := Ground.data }], guard := none }) (v := ?_) rfl (by kernel_rfl) (by kernel_rfl) (by kernel_rfl) (fun _ _ _ h => h) (Or.inl ⟨by rfl, ?hyrk_16⟩) (by assumption) ?restrk_16
              case hyrk_16 => (intro w hSw; (try dsimp only at hSw); go_simp; try with_reducible rfl)
              try simp only [Act.put, List.setIfInBounds_toArray, List.set_cons_zero, List.set_cons_succ]
              refine wpAnyH_take (i := 6) (oi := { dst := some 115, op := Op.move (Operand.tmp 114), type := 4, pos := "law.go:205", after := #[{ on := 5, ground := Ground.data }, { on := 2, ground := Ground.chain }], guard := none }) (v := ?_) rfl (by kernel_rfl) (by kernel_rfl) (by kernel_rfl) (fun _ _ _ h => h) (Or.inl ⟨by rfl, ?hyrk_19⟩) (by assumption) ?restrk_19
              case hyrk_19 => (intro w hSw; (try dsimp only at hSw); go_simp; try with_reducible rfl)
              try simp only [Act.put, List.setIfInBounds_toArray, List.set_cons_zero, List.set_cons_succ]
              refine wpAnyH_take (i := 7) (oi := { dst := some 116, op := Op.move (Operand.tmp 18), type := 22, pos := "law.go:205", after := #[{ on := 6, ground := Ground.guard }], guard := some (6, false) }) (v := ?_) rfl (by kernel_rfl) (by kernel_rfl) (by kernel_rfl) (fun _ _ _ h => h) (Or.inl ⟨by rfl, ?hyrk_22⟩) (by assumption) ?restrk_22
              case hyrk_22 => (intro w hSw; (try dsimp only at hSw); go_simp; try with_reducible rfl)
              try simp only [Act.put, List.setIfInBounds_toArray, List.set_cons_zero, List.set_cons_succ]
              refine wpAnyH_take (i := 8) (oi := { dst := some 117, op := Op.convert 22 9 (Operand.tmp 116), type := 9, pos := "law.go:205", after := #[{ on := 7, ground := Ground.data }, { on := 6, ground := Ground.guard }], guard := some (6, false) }) (v := ?_) rfl (by kernel_rfl) (by kernel_rfl) (by kernel_rfl) (fun _ _ _ h => h) (Or.inl ⟨by rfl, ?hyrk_25⟩) (by assumption) ?restrk_25
              case hyrk_25 => (intro w hSw; refine exec_convert 22 9 (.tmp 116) ?_ (.slice (some ⟨Y, 0, none⟩) 64 64) (.string (secStr T)) ?_ (conv_sec (hSw.at FF.out.1) 0 64 64 FT.out.1 FT.out.2) <;> rfl)
              try simp only [Act.put, List.setIfInBounds_toArray, List.set_cons_zero, List.set_cons_succ]
              refine wpAnyH_take (i := 9) (oi := { dst := some 118, op := Op.move (Operand.tmp 10), type := 22, pos := "law.go:205", after := #[{ on := 6, ground := Ground.guard }], guard := some (6, false) }) (v := ?_) rfl (by kernel_rfl) (by kernel_rfl) (by kernel_rfl) (fun _ _ _ h => h) (Or.inl ⟨by rfl, ?hyrk_28⟩) (by assumption) ?restrk_28
              case hyrk_28 => (intro w hSw; (try dsimp only at hSw); go_simp; try with_reducible rfl)
              try simp only [Act.put, List.setIfInBounds_toArray, List.set_cons_zero, List.set_cons_succ]
              refine wpAnyH_take (i := 10) (oi := { dst := some 119, op := Op.move (Operand.tmp 15), type := 3, pos := "law.go:205", after := #[{ on := 6, ground := Ground.guard }], guard := some (6, false) }) (v := ?_) rfl (by kernel_rfl) (by kernel_rfl) (by kernel_rfl) (fun _ _ _ h => h) (Or.inl ⟨by rfl, ?hyrk_31⟩) (by assumption) ?restrk_31
              case hyrk_31 => (intro w hSw; (try dsimp only at hSw); go_simp; try with_reducible rfl)
              try simp only [Act.put, List.setIfInBounds_toArray, List.set_cons_zero, List.set_cons_succ]
              refine wpAnyH_take (i := 11) (oi := { dst := some 120, op := Op.indexAddr 22 (Operand.tmp 118) (Operand.tmp 119), type := 0, pos := "law.go:205", after := #[{ on := 9, ground := Ground.data }, { on := 10, ground := Ground.data }, { on := 6, ground := Ground.guard }], guard := some (6, false) }) (v := ?_) rfl (by kernel_rfl) (by kernel_rfl) (by kernel_rfl) (fun _ _ _ h => h) (Or.inl ⟨by rfl, ?hyrk_34⟩) (by assumption) ?restrk_34
              case hyrk_34 => (intro w hSw; (try dsimp only at hSw); go_simp; try with_reducible rfl)
              try simp only [Act.put, List.setIfInBounds_toArray, List.set_cons_zero, List.set_cons_succ]
              refine wpAnyH_take (i := 12) (oi := { dst := some 121, op := Op.load 5 (Operand.tmp 120), type := 5, pos := "law.go:205", after := #[{ on := 11, ground := Ground.data }, { on := 6, ground := Ground.guard }], guard := some (6, false) }) (v := ?_) rfl (by kernel_rfl) (by kernel_rfl) (by kernel_rfl) (fun _ _ _ h => h) (Or.inl ⟨by rfl, ?hyrk_37⟩) (by assumption) ?restrk_37
              case hyrk_37 => (intro w hSw; have hcell := CELL.out w hSw; go_simp; try with_reducible rfl)
              try simp only [Act.put, List.setIfInBounds_toArray, List.set_cons_zero, List.set_cons_succ]
              refine wpAnyH_ready (rs := [13]) (by kernel_rfl) (by simp) (AllReadyH.cons (o := { dst := some 122, op := Op.call { callee := Callee.value (Operand.func 18), args := #[Operand.tmp 121], argTypes := #[5] }, type := 22, pos := "law.go:205", after := #[{ on := 12, ground := Ground.data }, { on := 6, ground := Ground.chain }, { on := 6, ground := Ground.guard }], guard := some (6, false) }) rfl (fun K hK => ?_) AllReadyH.nil)
              refine want_if (by kernel_rfl) ?_
              go_simp
              refine (HFULL.out _).mono ?_
              rintro e w9 ⟨H9, rfl, b9, s9, c9⟩
              refine hK.out _ _ (hHeld.below b9) (fun hHeld => ?_)
              clear hK K
              try simp only [Act.put, List.setIfInBounds_toArray, List.set_cons_zero, List.set_cons_succ]
              refine wpAnyH_ready (rs := [14]) (by kernel_rfl) (by simp) (AllReadyH.cons (o := { dst := some 123, op := Op.convert 22 9 (Operand.tmp 122), type := 9, pos := "law.go:205", after := #[{ on := 13, ground := Ground.data }, { on := 6, ground := Ground.guard }], guard := some (6, false) }) rfl (fun K hK => ?_) AllReadyH.nil)
              refine step_run' (by kernel_rfl) (.string (secStr T)) (exec_convert 22 9 (.tmp 122) rfl (.slice (some ⟨H9, 0, none⟩) 64 64) _ rfl (conv_sec c9 0 64 64 FT.out.1 FT.out.2)) ?_
              refine hK.out _ _ (hHeld) (fun hHeld => ?_)
              clear hK K
              try simp only [Act.put, List.setIfInBounds_toArray, List.set_cons_zero, List.set_cons_succ]
              refine wpAnyH_take (i := 15) (oi := { dst := some 124, op := Op.binOp BinOp.neq 9 (Operand.tmp 117) (Operand.tmp 123) 9, type := 4, pos := "law.go:205", after := #[{ on := 8, ground := Ground.data }, { on := 14, ground := Ground.data }, { on := 6, ground := Ground.guard }], guard := some (6, false) }) (v := ?_) rfl (by kernel_rfl) (by kernel_rfl) (by kernel_rfl) (fun _ _ _ h => h) (Or.inl ⟨by rfl, ?hyrk_53⟩) (by assumption) ?restrk_53
              case hyrk_53 => (intro w hSw; (try dsimp only at hSw); go_simp; try with_reducible rfl)
              try simp only [Act.put, List.setIfInBounds_toArray, List.set_cons_zero, List.set_cons_succ]
              refine wpAnyH_take (i := 16) (oi := { dst := some 125, op := Op.pick (Operand.tmp 115) (Operand.const (Value.bool true)) (Operand.tmp 124), type := 4, pos := "law.go:205", after := #[{ on := 6, ground := Ground.data }, { on := 15, ground := Ground.data }], guard := none }) (v := ?_) rfl (by kernel_rfl) (by kernel_rfl) (by kernel_rfl) (fun _ _ _ h => h) (Or.inl ⟨by rfl, ?hyrk_56⟩) (by assumption) ?restrk_56
              case hyrk_56 => (intro w hSw; (try dsimp only at hSw); go_simp; try with_reducible rfl)
              try simp only [Act.put, List.setIfInBounds_toArray, List.set_cons_zero, List.set_cons_succ]
              refine wpAnyH_take (i := 17) (oi := { dst := some 126, op := Op.move (Operand.tmp 125), type := 4, pos := "law.go:205", after := #[{ on := 16, ground := Ground.data }, { on := 13, ground := Ground.chain }], guard := none }) (v := ?_) rfl (by kernel_rfl) (by kernel_rfl) (by kernel_rfl) (fun _ _ _ h => h) (Or.inl ⟨by rfl, ?hyrk_59⟩) (by assumption) ?restrk_59
              case hyrk_59 => (intro w hSw; (try dsimp only at hSw); go_simp; try with_reducible rfl)
              try simp only [Act.put, List.setIfInBounds_toArray, List.set_cons_zero, List.set_cons_succ]
              refine wpAnyH_take (i := 18) (oi := { dst := some 127, op := Op.move (Operand.tmp 16), type := 22, pos := "law.go:205", after := #[{ on := 17, ground := Ground.guard }], guard := some (17, false) }) (v := ?_) rfl (by kernel_rfl) (by kernel_rfl) (by kernel_rfl) (fun _ _ _ h => h) (Or.inl ⟨by rfl, ?hyrk_62⟩) (by assumption) ?restrk_62
              case hyrk_62 => (intro w hSw; (try dsimp only at hSw); go_simp; try with_reducible rfl)
              try simp only [Act.put, List.setIfInBounds_toArray, List.set_cons_zero, List.set_cons_succ]
              refine wpAnyH_take (i := 19) (oi := { dst := some 128, op := Op.call { callee := Callee.builtin Builtin.len, args := #[Operand.tmp 127], argTypes := #[22] }, type := 3, pos := "law.go:205", after := #[{ on := 18, ground := Ground.data }, { on := 17, ground := Ground.guard }], guard := some (17, false) }) (v := ?_) rfl (by kernel_rfl) (by kernel_rfl) (by kernel_rfl) (fun _ _ _ h => h) (Or.inl ⟨by rfl, ?hyrk_65⟩) (by assumption) ?restrk_65
              case hyrk_65 => (intro w hSw; (try dsimp only at hSw); go_simp; try with_reducible rfl)
              try simp only [Act.put, List.setIfInBounds_toArray, List.set_cons_zero, List.set_cons_succ]
              refine wpAnyH_take (i := 20) (oi := { dst := some 129, op := Op.binOp BinOp.neq 3 (Operand.tmp 128) (Operand.const (Value.int IntKind.i64 64)) 3, type := 4, pos := "law.go:205", after := #[{ on := 19, ground := Ground.data }, { on := 17, ground := Ground.guard }], guard := some (17, false) }) (v := ?_) rfl (by kernel_rfl) (by kernel_rfl) (by kernel_rfl) (fun _ _ _ h => h) (Or.inl ⟨by rfl, ?hyrk_68⟩) (by assumption) ?restrk_68
              case hyrk_68 => (intro w hSw; (try dsimp only at hSw); go_simp; try with_reducible rfl)
              try simp only [Act.put, List.setIfInBounds_toArray, List.set_cons_zero, List.set_cons_succ]
              refine wpAnyH_take (i := 21) (oi := { dst := some 130, op := Op.pick (Operand.tmp 126) (Operand.const (Value.bool true)) (Operand.tmp 129), type := 4, pos := "law.go:205", after := #[{ on := 17, ground := Ground.data }, { on := 20, ground := Ground.data }], guard := none }) (v := ?_) rfl (by kernel_rfl) (by kernel_rfl) (by kernel_rfl) (fun _ _ _ h => h) (Or.inl ⟨by rfl, ?hyrk_71⟩) (by assumption) ?restrk_71
              case hyrk_71 => (intro w hSw; (try dsimp only at hSw); go_simp; try with_reducible rfl)
              try simp only [Act.put, List.setIfInBounds_toArray, List.set_cons_zero, List.set_cons_succ]
              refine wpAnyH_done (by kernel_rfl) ?_ _
              clear c9 s9 b9
              have H9 := Lib.hid hHeld
              clear hHeld
              go_wp2_with fail
              go_loopw [20] (fun i wr => ∃ h : Nat, h ≤ 2 ∧ i = .int .i64 h ∧ Many w [(g, P), (q, Q)] F wr) (fun i _ => 64 - (intOf i).toNat)
              case atStart => exact ⟨0, by omega, rfl, H9.out⟩
              case round =>
                obtain ⟨h, hh, rfl, hm⟩ := hrel
                have HM := Lib.hid hm
                clear hm H9
                by_cases hlh : h < 2
                · have hlh' : (h : Int) < 2 := by omega
                  have hm64 : 32 * (h : Int) < 64 := by omega
                  have hcB : ∃ c, (B.drop (32 * h)).take 32 = List.replicate 32 c ∧ B[32 * h]? = some c ∧ May ob l1 l1.length s c ∧ B.length = 64 := by
                    rw [← EB.out]
                    have : h = 0 ∨ h = 1 := by omega
                    rcases this with rfl | rfl
                    · exact ⟨a0, rfl, rfl, MA.out.1, rfl⟩
                    · exact ⟨a1, rfl, rfl, MA.out.2, rfl⟩
                  obtain ⟨c, hc1, hc2, hc3, hc4⟩ := hcB
                  have hcx : ∀ W, Many w [(g, P), (q, Q)] F W → W.cell? ⟨X, 32 * h, none⟩ = some (.int .u8 c.toNat) := fun W hw => by
                    rw [cells_at (hw.at FF.out.2.1)]
                    simp [secA, u8v, hc2]
                  have hb := hcx wr HM.out
                  have ho := CELL.out wr HM.out
                  have HC1 := Lib.hid (And.intro hc1 hc4)
                  have HC3 := Lib.hid hc3
                  clear hcx hc1 hc2 hc3 hc4
                  go_wp2_with fail
                  go_loopw [22, 23] (fun mm ii wr => ∃ k : Nat, k ≤ l1.length ∧ ii = .int .i64 k ∧ mm = .bool (mayK ob l1 s c k) ∧ Many w [(g, P), (q, Q)] F wr) (fun _ i _ => l1.length - (intOf i).toNat)
                  case atStart => exact ⟨0, by omega, rfl, by rw [byte_eq]; simp [mayK], HM.out⟩
                  case round =>
                    obtain ⟨k, hk, rfl, rfl, hm⟩ := hrel
                    have HM := Lib.hid hm
                    have hkn : (k : Int) ≤ 1048576 := by omega
                    clear hm
                    by_cases hlt : k < l1.length
                    · have hlt1 : (k : Int) < l1.length := by omega
                      have hnx := mayK_next ob l1 s c k
                      cases hmk : mayK ob l1 s c k with
                      | true =>
                        rw [hmk] at hnx
                        have HNX := Lib.hid hnx
                        clear hnx
                        go_wp2_with fail
                        go_roundw
                        case rel => exact ⟨k + 1, by omega, by go_num, by rw [HNX.out]; rfl, HM.out⟩
                        case measure => simp [intOf]; omega
                      | false =>
                        rw [hmk] at hnx
                        by_cases h3 : (3 * k) % 16 = s
                        · obtain ⟨b, o, rfl, hbk, hcs⟩ := H1.out.shape (by intro h; subst h; simp at hlt)
                          obtain ⟨x, ex⟩ : ∃ x, l1.getD k 0 = x := ⟨_, rfl⟩
                          have ex' : l1[k] = x := by rw [← ex]; simp [List.getD_eq_getElem?_getD, hlt]
                          have hcw : wr.cell? ⟨b, o + k, none⟩ = some (.int .u8 x.toNat) := by
                            rw [← ex']; exact (HM.out.base.cell (p := ⟨b, o + k, none⟩) hbk).trans (hcs k hlt)
                          have et : (3 * (k : Int)).tmod 16 = (s : Int) := by rw [Int.tmod_eq_emod_of_nonneg (by omega)]; omega
                          have hnx' : mayK ob l1 s c (k + 1) = (c == x) := by rw [hnx, ex, h3]; simp
                          have HNX := Lib.hid hnx'
                          clear hnx hnx' hcs ex ex' h3
                          go_wp2_with fail
                          go_roundw
                          case rel => exact ⟨k + 1, by omega, by go_num, by rw [HNX.out, byte_eq], HM.out⟩
                          case measure => simp [intOf]; omega
                        · have et : (3 * (k : Int)).tmod 16 = (((3 * k) % 16 : Nat) : Int) := by rw [Int.tmod_eq_emod_of_nonneg (by omega)]; omega
                          have hne : ¬ (((3 * k) % 16 : Nat) : Int) = (s : Int) := by omega
                          have hnx' : mayK ob l1 s c (k + 1) = false := by rw [hnx]; simp [h3]
                          have HNX := Lib.hid hnx'
                          clear hnx hnx' h3
                          go_wp2_with fail
                          go_roundw
                          case rel => exact ⟨k + 1, by omega, by go_num, by rw [HNX.out], HM.out⟩
                          case measure => simp [intOf]; omega
                    · obtain rfl : k = l1.length := by omega
                      have hlt1 : ¬ (l1.length : Int) < l1.length := by omega
                      have hal := mayK_all HC3.out
                      go_wp2_with fail
                      have hD : ∃ D, (B.drop (32 * h)).take 32 = D ∧ List.replicate 32 c = D := ⟨_, rfl, HC1.out.1.symm⟩
                      obtain ⟨D, eD1, eD2⟩ := hD
                      have fx : 32 * h + 32 ≤ B.length ∧ (B.drop (32 * h)).take 32 = D := ⟨by rw [HC1.out.2]; omega, eD1⟩
                      have fc : 0 + 32 ≤ (oneS c).length ∧ ((oneS c).drop 0).take 32 = D := ⟨by rw [oneS_len]; decide, by rw [← eD2]; rfl⟩
                      have FX := Lib.hid fx
                      have FC := Lib.hid fc
                      have HFC : Hid (∀ W, Calls Try.prog 18 #[.int .u8 c.toNat] W (SecAt (oneS c) W)) := Lib.hid fun W => full_any c W
                      have hcD : ((secStr D).toList == (secStr D).toList) = true := by simp
                      clear eD1 eD2 fx fc
                      have hw1 : IntKind.i64.wrap (32 * (h : Int)) = 32 * h := by rw [IntKind.wrap_i64]; omega
                      have hw2 : IntKind.i64.wrap (32 * (h : Int) + 32) = 32 * h + 32 := by rw [IntKind.wrap_i64]; omega
                      have hmx : max (32 * (h : Int) + 32) 0 = 32 * h + 32 := by omega
                      have hn1 : (32 * (h : Int)).toNat = 32 * h := by omega
                      have hn2 : (32 * (h : Int) + 32).toNat = 32 * h + 32 := by omega
                      have hn3 : ¬ 64 = 32 * h := by omega
                      have hn4 : 32 * h + 32 - 32 * h = 32 := by omega
                      have hz0 : 0 ≤ 32 * (h : Int) := by omega
                      have hz1 : 0 ≤ 32 * (h : Int) + 32 := by omega
                      have hz2 : 32 * (h : Int) + 32 ≤ 64 := by omega
                      have hz3 : 32 * (h : Int) ≤ 32 * (h : Int) + 32 := by omega
                      refine wp_region_held_drew (S := (fun W => Many w [(g, P), (q, Q)] F W)) (by kernel_rfl) (HM.out.drew) (fun hHeld => ?_)
                      refine wpAnyH_take (i := 0) (oi := { dst := some 168, op := Op.move (Operand.tmp 22), type := 4, pos := "law.go:214", after := #[], guard := none }) (v := ?_) rfl (by kernel_rfl) (by kernel_rfl) (by kernel_rfl) (fun _ _ _ h => h) (Or.inl ⟨by rfl, ?hyrl_1⟩) (by assumption) ?restrl_1
                      case hyrl_1 => (intro w hSw; (try dsimp only at hSw); go_simp; try with_reducible rfl)
                      try simp only [Act.put, List.setIfInBounds_toArray, List.set_cons_zero, List.set_cons_succ]
                      refine wpAnyH_take (i := 1) (oi := { dst := some 169, op := Op.unOp UnOp.not 4 (Operand.tmp 168), type := 4, pos := "law.go:214", after := #[{ on := 0, ground := Ground.data }], guard := none }) (v := ?_) rfl (by kernel_rfl) (by kernel_rfl) (by kernel_rfl) (fun _ _ _ h => h) (Or.inl ⟨by rfl, ?hyrl_4⟩) (by assumption) ?restrl_4
                      case hyrl_4 => (intro w hSw; (try dsimp only at hSw); go_simp; try with_reducible rfl)
                      try simp only [Act.put, List.setIfInBounds_toArray, List.set_cons_zero, List.set_cons_succ]
                      refine wpAnyH_take (i := 2) (oi := { dst := some 170, op := Op.move (Operand.tmp 169), type := 4, pos := "law.go:214", after := #[{ on := 1, ground := Ground.data }], guard := none }) (v := ?_) rfl (by kernel_rfl) (by kernel_rfl) (by kernel_rfl) (fun _ _ _ h => h) (Or.inl ⟨by rfl, ?hyrl_7⟩) (by assumption) ?restrl_7
                      case hyrl_7 => (intro w hSw; (try dsimp only at hSw); go_simp; try with_reducible rfl)
                      try simp only [Act.put, List.setIfInBounds_toArray, List.set_cons_zero, List.set_cons_succ]
                      refine wpAnyH_take (i := 3) (oi := { dst := some 171, op := Op.move (Operand.tmp 16), type := 22, pos := "law.go:214", after := #[{ on := 2, ground := Ground.guard }], guard := some (2, false) }) (v := ?_) rfl (by kernel_rfl) (by kernel_rfl) (by kernel_rfl) (fun _ _ _ h => h) (Or.inl ⟨by rfl, ?hyrl_10⟩) (by assumption) ?restrl_10
                      case hyrl_10 => (intro w hSw; (try dsimp only at hSw); go_simp; try with_reducible rfl)
                      try simp only [Act.put, List.setIfInBounds_toArray, List.set_cons_zero, List.set_cons_succ]
                      refine wpAnyH_take (i := 4) (oi := { dst := some 172, op := Op.move (Operand.tmp 20), type := 3, pos := "law.go:214", after := #[{ on := 2, ground := Ground.guard }], guard := some (2, false) }) (v := ?_) rfl (by kernel_rfl) (by kernel_rfl) (by kernel_rfl) (fun _ _ _ h => h) (Or.inl ⟨by rfl, ?hyrl_13⟩) (by assumption) ?restrl_13
                      case hyrl_13 => (intro w hSw; (try dsimp only at hSw); go_simp; try with_reducible rfl)
                      try simp only [Act.put, List.setIfInBounds_toArray, List.set_cons_zero, List.set_cons_succ]
                      refine wpAnyH_take (i := 5) (oi := { dst := some 173, op := Op.binOp BinOp.mul 3 (Operand.const (Value.int IntKind.i64 32)) (Operand.tmp 172) 3, type := 3, pos := "law.go:214", after := #[{ on := 4, ground := Ground.data }, { on := 2, ground := Ground.guard }], guard := some (2, false) }) (v := ?_) rfl (by kernel_rfl) (by kernel_rfl) (by kernel_rfl) (fun _ _ _ h => h) (Or.inl ⟨by rfl, ?hyrl_16⟩) (by assumption) ?restrl_16
                      case hyrl_16 => (intro w hSw; (try dsimp only at hSw); go_simp; try with_reducible rfl)
                      try simp only [Act.put, List.setIfInBounds_toArray, List.set_cons_zero, List.set_cons_succ]
                      refine wpAnyH_take (i := 6) (oi := { dst := some 174, op := Op.move (Operand.tmp 20), type := 3, pos := "law.go:214", after := #[{ on := 2, ground := Ground.guard }], guard := some (2, false) }) (v := ?_) rfl (by kernel_rfl) (by kernel_rfl) (by kernel_rfl) (fun _ _ _ h => h) (Or.inl ⟨by rfl, ?hyrl_19⟩) (by assumption) ?restrl_19
                      case hyrl_19 => (intro w hSw; (try dsimp only at hSw); go_simp; try with_reducible rfl)
                      try simp only [Act.put, List.setIfInBounds_toArray, List.set_cons_zero, List.set_cons_succ]
                      refine wpAnyH_take (i := 7) (oi := { dst := some 175, op := Op.binOp BinOp.mul 3 (Operand.const (Value.int IntKind.i64 32)) (Operand.tmp 174) 3, type := 3, pos := "law.go:214", after := #[{ on := 6, ground := Ground.data }, { on := 2, ground := Ground.guard }], guard := some (2, false) }) (v := ?_) rfl (by kernel_rfl) (by kernel_rfl) (by kernel_rfl) (fun _ _ _ h => h) (Or.inl ⟨by rfl, ?hyrl_22⟩) (by assumption) ?restrl_22
                      case hyrl_22 => (intro w hSw; (try dsimp only at hSw); go_simp; try with_reducible rfl)
                      try simp only [Act.put, List.setIfInBounds_toArray, List.set_cons_zero, List.set_cons_succ]
                      refine wpAnyH_take (i := 8) (oi := { dst := some 176, op := Op.binOp BinOp.add 3 (Operand.tmp 175) (Operand.const (Value.int IntKind.i64 32)) 3, type := 3, pos := "law.go:214", after := #[{ on := 7, ground := Ground.data }, { on := 2, ground := Ground.guard }], guard := some (2, false) }) (v := ?_) rfl (by kernel_rfl) (by kernel_rfl) (by kernel_rfl) (fun _ _ _ h => h) (Or.inl ⟨by rfl, ?hyrl_25⟩) (by assumption) ?restrl_25
                      case hyrl_25 => (intro w hSw; (try dsimp only at hSw); go_simp; try with_reducible rfl)
                      try simp only [Act.put, List.setIfInBounds_toArray, List.set_cons_zero, List.set_cons_succ]
                      refine wpAnyH_take (i := 9) (oi := { dst := some 177, op := Op.slice 22 (Operand.tmp 171) (some (Operand.tmp 173)) (some (Operand.tmp 176)) none, type := 22, pos := "law.go:214", after := #[{ on := 3, ground := Ground.data }, { on := 5, ground := Ground.data }, { on := 8, ground := Ground.data }, { on := 2, ground := Ground.guard }], guard := some (2, false) }) (v := ?_) rfl (by kernel_rfl) (by kernel_rfl) (by kernel_rfl) (fun _ _ _ h => h) (Or.inl ⟨by rfl, ?hyrl_28⟩) (by assumption) ?restrl_28
                      case hyrl_28 => (intro w hSw; (try dsimp only at hSw); go_simp; try with_reducible rfl)
                      try simp only [Act.put, List.setIfInBounds_toArray, List.set_cons_zero, List.set_cons_succ]
                      refine wpAnyH_take (i := 10) (oi := { dst := some 178, op := Op.convert 22 9 (Operand.tmp 177), type := 9, pos := "law.go:214", after := #[{ on := 9, ground := Ground.data }, { on := 2, ground := Ground.guard }], guard := some (2, false) }) (v := ?_) rfl (by kernel_rfl) (by kernel_rfl) (by kernel_rfl) (fun _ _ _ h => h) (Or.inl ⟨by rfl, ?hyrl_31⟩) (by assumption) ?restrl_31
                      case hyrl_31 => (intro w hSw; refine exec_convert 22 9 (.tmp 177) ?_ (.slice (some ⟨X, 32 * h, none⟩) 32 (64 - 32 * h)) (.string (secStr D)) ?_ (conv_sec (hSw.at FF.out.2.1) (32 * h) 32 (64 - 32 * h) FX.out.1 FX.out.2) <;> rfl)
                      try simp only [Act.put, List.setIfInBounds_toArray, List.set_cons_zero, List.set_cons_succ]
                      refine wpAnyH_take (i := 11) (oi := { dst := some 179, op := Op.move (Operand.tmp 21), type := 5, pos := "law.go:214", after := #[{ on := 2, ground := Ground.guard }], guard := some (2, false) }) (v := ?_) rfl (by kernel_rfl) (by kernel_rfl) (by kernel_rfl) (fun _ _ _ h => h) (Or.inl ⟨by rfl, ?hyrl_34⟩) (by assumption) ?restrl_34
                      case hyrl_34 => (intro w hSw; (try dsimp only at hSw); go_simp; try with_reducible rfl)
                      try simp only [Act.put, List.setIfInBounds_toArray, List.set_cons_zero, List.set_cons_succ]
                      refine wpAnyH_ready (rs := [12]) (by kernel_rfl) (by simp) (AllReadyH.cons (o := { dst := some 180, op := Op.call { callee := Callee.value (Operand.func 18), args := #[Operand.tmp 179], argTypes := #[5] }, type := 22, pos := "law.go:214", after := #[{ on := 11, ground := Ground.data }, { on := 2, ground := Ground.chain }, { on := 2, ground := Ground.guard }], guard := some (2, false) }) rfl (fun K hK => ?_) AllReadyH.nil)
                      refine want_if (by kernel_rfl) ?_
                      go_simp
                      refine (HFC.out _).mono ?_
                      rintro e w10 ⟨H10, rfl, b10, s10, c10⟩
                      refine hK.out _ _ (hHeld.below b10) (fun hHeld => ?_)
                      clear hK K
                      try simp only [Act.put, List.setIfInBounds_toArray, List.set_cons_zero, List.set_cons_succ]
                      refine wpAnyH_take (i := 13) (oi := { dst := some 181, op := Op.slice 22 (Operand.tmp 180) none (some (Operand.const (Value.int IntKind.i64 32))) none, type := 22, pos := "law.go:214", after := #[{ on := 12, ground := Ground.data }, { on := 2, ground := Ground.guard }], guard := some (2, false) }) (v := ?_) rfl (by kernel_rfl) (by kernel_rfl) (by kernel_rfl) (fun _ _ _ h => h) (Or.inl ⟨by rfl, ?hyrl_45⟩) (by assumption) ?restrl_45
                      case hyrl_45 => (intro w hSw; (try dsimp only at hSw); go_simp; try with_reducible rfl)
                      try simp only [Act.put, List.setIfInBounds_toArray, List.set_cons_zero, List.set_cons_succ]
                      refine wpAnyH_ready (rs := [14]) (by kernel_rfl) (by simp) (AllReadyH.cons (o := { dst := some 182, op := Op.convert 22 9 (Operand.tmp 181), type := 9, pos := "law.go:214", after := #[{ on := 13, ground := Ground.data }, { on := 2, ground := Ground.guard }], guard := some (2, false) }) rfl (fun K hK => ?_) AllReadyH.nil)
                      refine step_run' (by kernel_rfl) (.string (secStr D)) (exec_convert 22 9 (.tmp 181) rfl (.slice (some ⟨H10, 0, none⟩) 32 64) _ rfl (conv_sec c10 0 32 64 FC.out.1 FC.out.2)) ?_
                      refine hK.out _ _ (hHeld) (fun hHeld => ?_)
                      clear hK K
                      try simp only [Act.put, List.setIfInBounds_toArray, List.set_cons_zero, List.set_cons_succ]
                      refine wpAnyH_take (i := 15) (oi := { dst := some 183, op := Op.binOp BinOp.neq 9 (Operand.tmp 178) (Operand.tmp 182) 9, type := 4, pos := "law.go:214", after := #[{ on := 10, ground := Ground.data }, { on := 14, ground := Ground.data }, { on := 2, ground := Ground.guard }], guard := some (2, false) }) (v := ?_) rfl (by kernel_rfl) (by kernel_rfl) (by kernel_rfl) (fun _ _ _ h => h) (Or.inl ⟨by rfl, ?hyrl_53⟩) (by assumption) ?restrl_53
                      case hyrl_53 => (intro w hSw; (try dsimp only at hSw); go_simp; try with_reducible rfl)
                      try simp only [Act.put, List.setIfInBounds_toArray, List.set_cons_zero, List.set_cons_succ]
                      refine wpAnyH_take (i := 16) (oi := { dst := some 184, op := Op.pick (Operand.tmp 170) (Operand.const (Value.bool true)) (Operand.tmp 183), type := 4, pos := "law.go:214", after := #[{ on := 2, ground := Ground.data }, { on := 15, ground := Ground.data }], guard := none }) (v := ?_) rfl (by kernel_rfl) (by kernel_rfl) (by kernel_rfl) (fun _ _ _ h => h) (Or.inl ⟨by rfl, ?hyrl_56⟩) (by assumption) ?restrl_56
                      case hyrl_56 => (intro w hSw; (try dsimp only at hSw); go_simp; try with_reducible rfl)
                      try simp only [Act.put, List.setIfInBounds_toArray, List.set_cons_zero, List.set_cons_succ]
                      refine wpAnyH_done (by kernel_rfl) ?_ _
                      clear c10 s10 b10 hw1 hw2 hmx hn1 hn2 hn3 hn4 hz0 hz1 hz2 hz3
                      have HZ := Lib.hid hHeld
                      clear hHeld
                      go_wp2_with fail
                      go_roundw
                      case rel => exact ⟨h + 1, by omega, by go_num, HZ.out⟩
                      case measure => simp [intOf]; omega
                · obtain rfl : h = 2 := by omega
                  have hm := HM.out.drop (G := [(H, old)]) (by intro x hx; obtain rfl := List.mem_singleton.1 hx; exact FF.out.2.2)
                  have HM := Lib.hid hm
                  clear hm
                  go_wp2_with fail
                  go_roundw
                  case rel => exact ⟨s + 1, by omega, by go_num, HM.out⟩
                  case measure => simp [intOf]; omega
            · obtain rfl : s = 16 := by omega
              go_wp2_with fail
              go_ret
              exact ⟨rfl, HM.out.base⟩
end Go.Proofs.Ytpnijopbbbgffaa.plantw
