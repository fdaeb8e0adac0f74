/- Walks of layer 3's statements: PlantHalves. Conditions: as each theorem says. -/
import Derived.Test.YtpnijopbbbgffaaPlantJ
import Derived.Deep.RegionHeld3
import Derived.Deep.QuietTactic
import Derived.BigQuiet
namespace Go.Proofs.Ytpnijopbbbgffaa.plantw
open Go.RowKit
open Go.Proofs.Ytpnijopbbbgffaa.plantp
open Go.Proofs.Ytpnijopbbbgffaa.mapfn
open Go.Proofs.Ytpnijopbbbgffaa.buf
set_option maxHeartbeats 4000000 in
set_option maxRecDepth 100000 in
theorem halves_walk (w : World) {A0 A1 : Option Addr} {c0 c1 : Nat} {l0 l1 : Sec} (h0 : BytesIn w A0 l0) (h1 : BytesIn w A1 l1) :
    Calls Try.prog 8 #[.slice A0 l0.length c0, .slice A1 l1.length c1] w fun e w' => e = .returned (.bool true) ∧ Below w.heap.size w w' := by
  have HS := Lib.hid (shown_any w)
  go_enter Try.func8, Try.ntmps8
  go_wp2_with fail
  refine HS.out.mono ?_
  rintro e w1 ⟨rfl, b1⟩
  have HN := Lib.hid (new_own (b1.alloc b1.size (.cells #[.int .i64 3] 3)) (ints_lit (zs := [3]) (heap_alloc_last w1 (.cells #[.int .i64 3] 3)) (by decide)) (by decide))
  go_wp2_with fail
  refine HN.out.mono ?_
  rintro e w2 ⟨g, rfl, n2⟩
  obtain ⟨v1, v2, v3, v4, H0, H1, m1, m2, q1, q2, hM⟩ := two_made c0 c1 n2 h0 h1
  have M1 := Lib.hid m1
  have M2 := Lib.hid m2
  have Q1 := Lib.hid q1
  have Q2 := Lib.hid q2
  have HM := Lib.hid hM.many
  clear m1 m2 q1 q2 hM n2 HS b1 h0 h1
  go_wp2_with fail
  go_wp2_with (rw [M1.out])
  go_wp2_with (rw [M2.out])
  go_wp2_with (rw [Q1.out])
  go_wp2_with (rw [Q2.out])
  clear M1 M2 Q1 Q2 HN
  have aA : (fit l0).length = 64 := fit_len l0
  have aB : (fit l1).length = 64 := fit_len l1
  obtain ⟨A, eA⟩ : ∃ L : Sec, fit l0 = L := ⟨_, rfl⟩
  obtain ⟨B, eB⟩ : ∃ L : Sec, fit l1 = L := ⟨_, rfl⟩
  rw [eA] at HM aA
  rw [eB] at HM aB
  clear eA eB
  have LA := Lib.hid aA
  have LB := Lib.hid aB
  clear aA aB
  have hq1 : PS.write (PS.new [3]) 0 1 A = (mkM [3] (fun _ _ => zeroS) [⟨0, 1, A⟩] 1, 0) := PS.write_ok rfl rfl LA.out rfl
  have hq2 : PS.flushAt (mkM [3] (fun _ _ => zeroS) [⟨0, 1, A⟩] 1) 0 = (mkM [3] (fun d k => if d = 0 ∧ k = 1 then A else zeroS) [] 2, 0) := PS.flush_ok (d := 0) rfl (show 0 < 1 by decide) rfl
  have hq3 : PS.write (mkM [3] (fun d k => if d = 0 ∧ k = 1 then A else zeroS) [] 2) 0 1 B = (mkM [3] (fun d k => if d = 0 ∧ k = 1 then A else zeroS) [⟨0, 1, B⟩] 3, 0) := PS.write_ok rfl rfl LB.out rfl
  refine (write_many (H := H0) (s := A) LA.out HM.out (by simp) (by decide) 0 1 hq1).mono ?_
  rintro e w5 ⟨rfl, h5⟩
  clear hq1
  go_wp2_with fail
  refine (flush_many h5 (st3 1 (by decide)) 0 hq2).mono ?_
  rintro e w6 ⟨rfl, h6⟩
  clear hq2
  go_wp2_with fail
  refine (write_many (H := H1) (s := B) LB.out h6 (by simp) (st3 2 (by decide)) 0 1 hq3).mono ?_
  rintro e w7 ⟨rfl, h7⟩
  clear hq3
  obtain ⟨p, ep⟩ : ∃ p, mkM [3] (fun d k => if d = 0 ∧ k = 1 then A else zeroS) [⟨0, 1, B⟩] 3 = p := ⟨_, rfl⟩
  have p1 : (p.boot [2]).readE 0 1 = 0 ∧ (p.boot [2]).sec (Int.toNat 0) (Int.toNat 1) = B.take 32 ++ A.drop 32 := by subst ep; exact ⟨rfl, rfl⟩
  have p2 : (p.boot [3]).readE 0 1 = 0 ∧ (p.boot [3]).sec (Int.toNat 0) (Int.toNat 1) = A.take 32 ++ B.drop 32 := by subst ep; exact ⟨rfl, rfl⟩
  have p3 : (p.boot [1]).readE 0 1 = 0 ∧ (p.boot [1]).sec (Int.toNat 0) (Int.toNat 1) = B := by subst ep; exact ⟨rfl, rfl⟩
  have hps : p.steps < 1099511627776 := by subst ep; exact st3 3 (by decide)
  have P1 := Lib.hid p1
  have P2 := Lib.hid p2
  have P3 := Lib.hid p3
  have PT := Lib.hid hps
  rw [ep] at h7
  clear ep p1 p2 p3 hps
  go_wp2_with fail
  refine (clone_many h7 PT.out).mono ?_
  rintro e w8 ⟨q, rfl, h8⟩
  go_wp2_with fail
  refine (clone_many h8.swap PT.out).mono ?_
  rintro e w9 ⟨r, rfl, h9⟩
  have h9 := h9.swap
  have HB1 := Lib.hid (boot_many (h9.below ((Below.refl _ _).alloc (Nat.le_refl _) (.cells #[.int .i64 2] 3))) PT.out (ints_lit (zs := [2]) (heap_alloc_last w9 (.cells #[.int .i64 2] 3)) (by decide)))
  clear HM h5 h6 h7 h8 h9
  go_wp2_with fail
  refine HB1.out.mono ?_
  rintro e w10 ⟨rfl, h10⟩
  have h10 := h10.rot.swap
  have HB2 := Lib.hid (boot_many (h10.below ((Below.refl _ _).alloc (Nat.le_refl _) (.cells #[.int .i64 3] 3))) PT.out (ints_lit (zs := [3]) (heap_alloc_last w10 (.cells #[.int .i64 3] 3)) (by decide)))
  clear HB1 h10
  go_wp2_with fail
  refine HB2.out.mono ?_
  rintro e w11 ⟨rfl, h11⟩
  have h11 := h11.swap
  have HB3 := Lib.hid (boot_many (h11.below ((Below.refl _ _).alloc (Nat.le_refl _) (.cells #[.int .i64 1] 3))) PT.out (ints_lit (zs := [1]) (heap_alloc_last w11 (.cells #[.int .i64 1] 3)) (by decide)))
  clear HB2 h11
  go_wp2_with fail
  refine HB3.out.mono ?_
  rintro e w12 ⟨rfl, h12⟩
  have h12 := h12.rot.swap
  clear HB3
  go_wp2_with fail
  refine (read_many h12 0 1 P1.out.1 P1.out.2).mono ?_
  rintro e w13 ⟨X1, rfl, b13, h13⟩
  have h13 := h13.rot
  clear b13
  go_wp2_with fail
  refine (read_many h13 0 1 P2.out.1 P2.out.2).mono ?_
  rintro e w14 ⟨X2, rfl, b14, h14⟩
  have h14 := h14.rot
  clear b14
  go_wp2_with fail
  refine (read_many h14 0 1 P3.out.1 P3.out.2).mono ?_
  rintro e w15 ⟨X3, rfl, b15, h15⟩
  clear b15
  obtain ⟨a0, ea0⟩ : ∃ L : Sec, A.take 32 = L := ⟨_, rfl⟩
  obtain ⟨a1, ea1⟩ : ∃ L : Sec, A.drop 32 = L := ⟨_, rfl⟩
  obtain ⟨b0, eb0⟩ : ∃ L : Sec, B.take 32 = L := ⟨_, rfl⟩
  obtain ⟨b1, eb1⟩ : ∃ L : Sec, B.drop 32 = L := ⟨_, rfl⟩
  rw [ea0, ea1, eb0, eb1] at h15
  obtain ⟨X, eX⟩ : ∃ L : Sec, b0 ++ a1 = L := ⟨_, rfl⟩
  obtain ⟨Y, eY⟩ : ∃ L : Sec, a0 ++ b1 = L := ⟨_, rfl⟩
  rw [eX, eY] at h15
  have la0 : a0.length = 32 := by rw [← ea0, List.length_take, LA.out]; rfl
  have la1 : a1.length = 32 := by rw [← ea1, List.length_drop, LA.out]
  have lb0 : b0.length = 32 := by rw [← eb0, List.length_take, LB.out]; rfl
  have lb1 : b1.length = 32 := by rw [← eb1, List.length_drop, LB.out]
  have lX : X.length = 64 := by rw [← eX, List.length_append, lb0, la1]
  have lY : Y.length = 64 := by rw [← eY, List.length_append, la0, lb1]
  have fa0 : 0 + 32 ≤ A.length ∧ (A.drop 0).take 32 = a0 := ⟨by rw [LA.out]; decide, ea0⟩
  have fa1 : 32 + 32 ≤ A.length ∧ (A.drop 32).take 32 = a1 := ⟨by rw [LA.out]; decide, by rw [ea1, List.take_of_length_le (Nat.le_of_eq la1)]⟩
  have fb0 : 0 + 32 ≤ B.length ∧ (B.drop 0).take 32 = b0 := ⟨by rw [LB.out]; decide, eb0⟩
  have fb1 : 32 + 32 ≤ B.length ∧ (B.drop 32).take 32 = b1 := ⟨by rw [LB.out]; decide, by rw [eb1, List.take_of_length_le (Nat.le_of_eq lb1)]⟩
  have fX : 0 + 64 ≤ X.length ∧ (X.drop 0).take 64 = X := ⟨by rw [lX]; decide, by rw [List.drop_zero, List.take_of_length_le (Nat.le_of_eq lX)]⟩
  have fY : 0 + 64 ≤ Y.length ∧ (Y.drop 0).take 64 = Y := ⟨by rw [lY]; decide, by rw [List.drop_zero, List.take_of_length_le (Nat.le_of_eq lY)]⟩
  have fB : 0 + 64 ≤ B.length ∧ (B.drop 0).take 64 = B := ⟨by rw [LB.out]; decide, by rw [List.drop_zero, List.take_of_length_le (Nat.le_of_eq LB.out)]⟩
  have hcX : ((secStr X).toList == (secStr b0 ++ secStr a1).toList) = true := by rw [secStr_add, secStr_eq, eX]; simp
  have hcY : ((secStr Y).toList == (secStr a0 ++ secStr b1).toList) = true := by rw [secStr_add, secStr_eq, eY]; simp
  have hcB : ((secStr B).toList == (secStr B).toList) = true := by simp
  have hs1 : ¬ 9223372036854775807 < (secStr b0).size + (secStr a1).size := by rw [secStr_size, secStr_size, lb0, la1]; decide
  have hs2 : ¬ 9223372036854775807 < (secStr a0).size + (secStr b1).size := by rw [secStr_size, secStr_size, la0, lb1]; decide
  have FA0 := Lib.hid fa0
  have FA1 := Lib.hid fa1
  have FB0 := Lib.hid fb0
  have FB1 := Lib.hid fb1
  have FX := Lib.hid fX
  have FY := Lib.hid fY
  have FB := Lib.hid fB
  obtain ⟨L, eL⟩ : ∃ L, [(r, p.boot [1]), (g, p.boot [2]), (q, p.boot [3])] = L := ⟨_, rfl⟩
  obtain ⟨F, eF⟩ : ∃ F, [(X3, B), (X2, Y), (X1, X), (H1, B), (H0, A)] = F := ⟨_, rfl⟩
  have ff : (X3, B) ∈ F ∧ (X2, Y) ∈ F ∧ (X1, X) ∈ F ∧ (H1, B) ∈ F ∧ (H0, A) ∈ F := by simp [← eF]
  have FF := Lib.hid ff
  rw [eL, eF] at h15
  clear eL eF ff fa0 fa1 fb0 fb1 fX fY fB la0 la1 lb0 lb1 lX lY eX eY ea0 ea1 eb0 eb1 h12 h13 h14 P1 P2 P3 PT LA LB
  go_wp2_with fail
  refine wp_region_held_drew (S := (fun W => Many w L F W)) (by kernel_rfl) (h15.drew) (fun hHeld => ?_)
  refine wpAnyH_take (i := 0) (oi := { dst := some 99, op := Op.move (Operand.tmp 16), type := 25, pos := "more.go:33", after := #[], guard := none }) (v := ?_) rfl (by kernel_rfl) (by kernel_rfl) (by kernel_rfl) (fun _ _ _ h => h) (Or.inl ⟨by rfl, ?hyrh_1⟩) (by assumption) ?restrh_1
  case hyrh_1 => (intro w hSw; (try dsimp only at hSw); go_simp; try with_reducible rfl)
  try simp only [Act.put, List.setIfInBounds_toArray, List.set_cons_zero, List.set_cons_succ]
  refine wpAnyH_take (i := 1) (oi := { dst := some 100, op := Op.binOp BinOp.eql 25 (Operand.tmp 99) (Operand.const (Value.int IntKind.i64 0)) 25, type := 4, pos := "more.go:33", after := #[{ on := 0, ground := Ground.data }], guard := none }) (v := ?_) rfl (by kernel_rfl) (by kernel_rfl) (by kernel_rfl) (fun _ _ _ h => h) (Or.inl ⟨by rfl, ?hyrh_4⟩) (by assumption) ?restrh_4
  case hyrh_4 => (intro w hSw; (try dsimp only at hSw); go_simp; try with_reducible rfl)
  try simp only [Act.put, List.setIfInBounds_toArray, List.set_cons_zero, List.set_cons_succ]
  refine wpAnyH_take (i := 2) (oi := { dst := some 101, op := Op.move (Operand.tmp 100), type := 4, pos := "more.go:33", after := #[{ on := 1, ground := Ground.data }], guard := none }) (v := ?_) rfl (by kernel_rfl) (by kernel_rfl) (by kernel_rfl) (fun _ _ _ h => h) (Or.inl ⟨by rfl, ?hyrh_7⟩) (by assumption) ?restrh_7
  case hyrh_7 => (intro w hSw; (try dsimp only at hSw); go_simp; try with_reducible rfl)
  try simp only [Act.put, List.setIfInBounds_toArray, List.set_cons_zero, List.set_cons_succ]
  refine wpAnyH_take (i := 3) (oi := { dst := some 102, op := Op.move (Operand.tmp 18), type := 25, pos := "more.go:33", after := #[{ on := 2, ground := Ground.guard }], guard := some (2, true) }) (v := ?_) rfl (by kernel_rfl) (by kernel_rfl) (by kernel_rfl) (fun _ _ _ h => h) (Or.inl ⟨by rfl, ?hyrh_10⟩) (by assumption) ?restrh_10
  case hyrh_10 => (intro w hSw; (try dsimp only at hSw); go_simp; try with_reducible rfl)
  try simp only [Act.put, List.setIfInBounds_toArray, List.set_cons_zero, List.set_cons_succ]
  refine wpAnyH_take (i := 4) (oi := { dst := some 103, op := Op.binOp BinOp.eql 25 (Operand.tmp 102) (Operand.const (Value.int IntKind.i64 0)) 25, type := 4, pos := "more.go:33", after := #[{ on := 3, ground := Ground.data }, { on := 2, ground := Ground.guard }], guard := some (2, true) }) (v := ?_) rfl (by kernel_rfl) (by kernel_rfl) (by kernel_rfl) (fun _ _ _ h => h) (Or.inl ⟨by rfl, ?hyrh_13⟩) (by assumption) ?restrh_13
  case hyrh_13 => (intro w hSw; (try dsimp only at hSw); go_simp; try with_reducible rfl)
  try simp only [Act.put, List.setIfInBounds_toArray, List.set_cons_zero, List.set_cons_succ]
  refine wpAnyH_take (i := 5) (oi := { dst := some 104, op := Op.pick (Operand.tmp 101) (Operand.tmp 103) (Operand.const (Value.bool false)), type := 4, pos := "more.go:33", after := #[{ on := 2, ground := Ground.data }, { on := 4, ground := Ground.data }], guard := none }) (v := ?_) rfl (by kernel_rfl) (by kernel_rfl) (by kernel_rfl) (fun _ _ _ h => h) (Or.inl ⟨by rfl, ?hyrh_16⟩) (by assumption) ?restrh_16
  case hyrh_16 => (intro w hSw; (try dsimp only at hSw); go_simp; try with_reducible rfl)
  try simp only [Act.put, List.setIfInBounds_toArray, List.set_cons_zero, List.set_cons_succ]
  refine wpAnyH_take (i := 6) (oi := { dst := some 105, op := Op.move (Operand.tmp 104), type := 4, pos := "more.go:33", after := #[{ on := 5, ground := Ground.data }, { on := 2, ground := Ground.chain }], guard := none }) (v := ?_) rfl (by kernel_rfl) (by kernel_rfl) (by kernel_rfl) (fun _ _ _ h => h) (Or.inl ⟨by rfl, ?hyrh_19⟩) (by assumption) ?restrh_19
  case hyrh_19 => (intro w hSw; (try dsimp only at hSw); go_simp; try with_reducible rfl)
  try simp only [Act.put, List.setIfInBounds_toArray, List.set_cons_zero, List.set_cons_succ]
  refine wpAnyH_take (i := 7) (oi := { dst := some 106, op := Op.move (Operand.tmp 20), type := 25, pos := "more.go:33", after := #[{ on := 6, ground := Ground.guard }], guard := some (6, true) }) (v := ?_) rfl (by kernel_rfl) (by kernel_rfl) (by kernel_rfl) (fun _ _ _ h => h) (Or.inl ⟨by rfl, ?hyrh_22⟩) (by assumption) ?restrh_22
  case hyrh_22 => (intro w hSw; (try dsimp only at hSw); go_simp; try with_reducible rfl)
  try simp only [Act.put, List.setIfInBounds_toArray, List.set_cons_zero, List.set_cons_succ]
  refine wpAnyH_take (i := 8) (oi := { dst := some 107, op := Op.binOp BinOp.eql 25 (Operand.tmp 106) (Operand.const (Value.int IntKind.i64 0)) 25, type := 4, pos := "more.go:33", after := #[{ on := 7, ground := Ground.data }, { on := 6, ground := Ground.guard }], guard := some (6, true) }) (v := ?_) rfl (by kernel_rfl) (by kernel_rfl) (by kernel_rfl) (fun _ _ _ h => h) (Or.inl ⟨by rfl, ?hyrh_25⟩) (by assumption) ?restrh_25
  case hyrh_25 => (intro w hSw; (try dsimp only at hSw); go_simp; try with_reducible rfl)
  try simp only [Act.put, List.setIfInBounds_toArray, List.set_cons_zero, List.set_cons_succ]
  refine wpAnyH_take (i := 9) (oi := { dst := some 108, op := Op.pick (Operand.tmp 105) (Operand.tmp 107) (Operand.const (Value.bool false)), type := 4, pos := "more.go:33", after := #[{ on := 6, ground := Ground.data }, { on := 8, ground := Ground.data }], guard := none }) (v := ?_) rfl (by kernel_rfl) (by kernel_rfl) (by kernel_rfl) (fun _ _ _ h => h) (Or.inl ⟨by rfl, ?hyrh_28⟩) (by assumption) ?restrh_28
  case hyrh_28 => (intro w hSw; (try dsimp only at hSw); go_simp; try with_reducible rfl)
  try simp only [Act.put, List.setIfInBounds_toArray, List.set_cons_zero, List.set_cons_succ]
  refine wpAnyH_take (i := 10) (oi := { dst := some 109, op := Op.move (Operand.tmp 108), type := 4, pos := "more.go:33", after := #[{ on := 9, ground := Ground.data }, { on := 6, ground := Ground.chain }], guard := none }) (v := ?_) rfl (by kernel_rfl) (by kernel_rfl) (by kernel_rfl) (fun _ _ _ h => h) (Or.inl ⟨by rfl, ?hyrh_31⟩) (by assumption) ?restrh_31
  case hyrh_31 => (intro w hSw; (try dsimp only at hSw); go_simp; try with_reducible rfl)
  try simp only [Act.put, List.setIfInBounds_toArray, List.set_cons_zero, List.set_cons_succ]
  refine wpAnyH_take (i := 11) (oi := { dst := some 110, op := Op.move (Operand.tmp 15), type := 22, pos := "more.go:33", after := #[{ on := 10, ground := Ground.guard }], guard := some (10, true) }) (v := ?_) rfl (by kernel_rfl) (by kernel_rfl) (by kernel_rfl) (fun _ _ _ h => h) (Or.inl ⟨by rfl, ?hyrh_34⟩) (by assumption) ?restrh_34
  case hyrh_34 => (intro w hSw; (try dsimp only at hSw); go_simp; try with_reducible rfl)
  try simp only [Act.put, List.setIfInBounds_toArray, List.set_cons_zero, List.set_cons_succ]
  refine wpAnyH_take (i := 12) (oi := { dst := some 111, op := Op.convert 22 9 (Operand.tmp 110), type := 9, pos := "more.go:33", after := #[{ on := 11, ground := Ground.data }, { on := 10, ground := Ground.guard }], guard := some (10, true) }) (v := ?_) rfl (by kernel_rfl) (by kernel_rfl) (by kernel_rfl) (fun _ _ _ h => h) (Or.inl ⟨by rfl, ?hyrh_37⟩) (by assumption) ?restrh_37
  case hyrh_37 => (intro w hSw; refine exec_convert 22 9 (.tmp 110) ?_ (.slice (some ⟨X1, 0, none⟩) 64 64) (.string (secStr X)) ?_ (conv_sec (hSw.at FF.out.2.2.1) 0 64 64 FX.out.1 FX.out.2) <;> rfl)
  try simp only [Act.put, List.setIfInBounds_toArray, List.set_cons_zero, List.set_cons_succ]
  refine wpAnyH_take (i := 13) (oi := { dst := some 112, op := Op.move (Operand.tmp 9), type := 22, pos := "more.go:33", after := #[{ on := 10, ground := Ground.guard }], guard := some (10, true) }) (v := ?_) rfl (by kernel_rfl) (by kernel_rfl) (by kernel_rfl) (fun _ _ _ h => h) (Or.inl ⟨by rfl, ?hyrh_40⟩) (by assumption) ?restrh_40
  case hyrh_40 => (intro w hSw; (try dsimp only at hSw); go_simp; try with_reducible rfl)
  try simp only [Act.put, List.setIfInBounds_toArray, List.set_cons_zero, List.set_cons_succ]
  refine wpAnyH_take (i := 14) (oi := { dst := some 113, op := Op.slice 22 (Operand.tmp 112) none (some (Operand.const (Value.int IntKind.i64 32))) none, type := 22, pos := "more.go:33", after := #[{ on := 13, ground := Ground.data }, { on := 10, ground := Ground.guard }], guard := some (10, true) }) (v := ?_) rfl (by kernel_rfl) (by kernel_rfl) (by kernel_rfl) (fun _ _ _ h => h) (Or.inl ⟨by rfl, ?hyrh_43⟩) (by assumption) ?restrh_43
  case hyrh_43 => (intro w hSw; (try dsimp only at hSw); go_simp; try with_reducible rfl)
  try simp only [Act.put, List.setIfInBounds_toArray, List.set_cons_zero, List.set_cons_succ]
  refine wpAnyH_take (i := 15) (oi := { dst := some 114, op := Op.convert 22 9 (Operand.tmp 113), type := 9, pos := "more.go:33", after := #[{ on := 14, ground := Ground.data }, { on := 10, ground := Ground.guard }], guard := some (10, true) }) (v := ?_) rfl (by kernel_rfl) (by kernel_rfl) (by kernel_rfl) (fun _ _ _ h => h) (Or.inl ⟨by rfl, ?hyrh_46⟩) (by assumption) ?restrh_46
  case hyrh_46 => (intro w hSw; refine exec_convert 22 9 (.tmp 113) ?_ (.slice (some ⟨H1, 0, none⟩) 32 64) (.string (secStr b0)) ?_ (conv_sec (hSw.at FF.out.2.2.2.1) 0 32 64 FB0.out.1 FB0.out.2) <;> rfl)
  try simp only [Act.put, List.setIfInBounds_toArray, List.set_cons_zero, List.set_cons_succ]
  refine wpAnyH_take (i := 16) (oi := { dst := some 115, op := Op.move (Operand.tmp 8), type := 22, pos := "more.go:33", after := #[{ on := 10, ground := Ground.guard }], guard := some (10, true) }) (v := ?_) rfl (by kernel_rfl) (by kernel_rfl) (by kernel_rfl) (fun _ _ _ h => h) (Or.inl ⟨by rfl, ?hyrh_49⟩) (by assumption) ?restrh_49
  case hyrh_49 => (intro w hSw; (try dsimp only at hSw); go_simp; try with_reducible rfl)
  try simp only [Act.put, List.setIfInBounds_toArray, List.set_cons_zero, List.set_cons_succ]
  refine wpAnyH_take (i := 17) (oi := { dst := some 116, op := Op.slice 22 (Operand.tmp 115) (some (Operand.const (Value.int IntKind.i64 32))) none none, type := 22, pos := "more.go:33", after := #[{ on := 16, ground := Ground.data }, { on := 10, ground := Ground.guard }], guard := some (10, true) }) (v := ?_) rfl (by kernel_rfl) (by kernel_rfl) (by kernel_rfl) (fun _ _ _ h => h) (Or.inl ⟨by rfl, ?hyrh_52⟩) (by assumption) ?restrh_52
  case hyrh_52 => (intro w hSw; (try dsimp only at hSw); go_simp; try with_reducible rfl)
  try simp only [Act.put, List.setIfInBounds_toArray, List.set_cons_zero, List.set_cons_succ]
  refine wpAnyH_take (i := 18) (oi := { dst := some 117, op := Op.convert 22 9 (Operand.tmp 116), type := 9, pos := "more.go:33", after := #[{ on := 17, ground := Ground.data }, { on := 10, ground := Ground.guard }], guard := some (10, true) }) (v := ?_) rfl (by kernel_rfl) (by kernel_rfl) (by kernel_rfl) (fun _ _ _ h => h) (Or.inl ⟨by rfl, ?hyrh_55⟩) (by assumption) ?restrh_55
  case hyrh_55 => (intro w hSw; refine exec_convert 22 9 (.tmp 116) ?_ (.slice (some ⟨H0, 32, none⟩) 32 32) (.string (secStr a1)) ?_ (conv_sec (hSw.at FF.out.2.2.2.2) 32 32 32 FA1.out.1 FA1.out.2) <;> rfl)
  try simp only [Act.put, List.setIfInBounds_toArray, List.set_cons_zero, List.set_cons_succ]
  refine wpAnyH_take (i := 19) (oi := { dst := some 118, op := Op.binOp BinOp.add 9 (Operand.tmp 114) (Operand.tmp 117) 9, type := 9, pos := "more.go:33", after := #[{ on := 15, ground := Ground.data }, { on := 18, ground := Ground.data }, { on := 10, ground := Ground.guard }], guard := some (10, true) }) (v := ?_) rfl (by kernel_rfl) (by kernel_rfl) (by kernel_rfl) (fun _ _ _ h => h) (Or.inl ⟨by rfl, ?hyrh_58⟩) (by assumption) ?restrh_58
  case hyrh_58 => (intro w hSw; (try dsimp only at hSw); go_simp; try with_reducible rfl)
  try simp only [Act.put, List.setIfInBounds_toArray, List.set_cons_zero, List.set_cons_succ]
  refine wpAnyH_take (i := 20) (oi := { dst := some 119, op := Op.binOp BinOp.eql 9 (Operand.tmp 111) (Operand.tmp 118) 9, type := 4, pos := "more.go:33", after := #[{ on := 12, ground := Ground.data }, { on := 19, ground := Ground.data }, { on := 10, ground := Ground.guard }], guard := some (10, true) }) (v := ?_) rfl (by kernel_rfl) (by kernel_rfl) (by kernel_rfl) (fun _ _ _ h => h) (Or.inl ⟨by rfl, ?hyrh_61⟩) (by assumption) ?restrh_61
  case hyrh_61 => (intro w hSw; (try dsimp only at hSw); go_simp; try with_reducible rfl)
  try simp only [Act.put, List.setIfInBounds_toArray, List.set_cons_zero, List.set_cons_succ]
  refine wpAnyH_take (i := 21) (oi := { dst := some 120, op := Op.pick (Operand.tmp 109) (Operand.tmp 119) (Operand.const (Value.bool false)), type := 4, pos := "more.go:33", after := #[{ on := 10, ground := Ground.data }, { on := 20, ground := Ground.data }], guard := none }) (v := ?_) rfl (by kernel_rfl) (by kernel_rfl) (by kernel_rfl) (fun _ _ _ h => h) (Or.inl ⟨by rfl, ?hyrh_64⟩) (by assumption) ?restrh_64
  case hyrh_64 => (intro w hSw; (try dsimp only at hSw); go_simp; try with_reducible rfl)
  try simp only [Act.put, List.setIfInBounds_toArray, List.set_cons_zero, List.set_cons_succ]
  refine wpAnyH_take (i := 22) (oi := { dst := some 121, op := Op.move (Operand.tmp 120), type := 4, pos := "more.go:33", after := #[{ on := 21, ground := Ground.data }, { on := 10, ground := Ground.chain }], guard := none }) (v := ?_) rfl (by kernel_rfl) (by kernel_rfl) (by kernel_rfl) (fun _ _ _ h => h) (Or.inl ⟨by rfl, ?hyrh_67⟩) (by assumption) ?restrh_67
  case hyrh_67 => (intro w hSw; (try dsimp only at hSw); go_simp; try with_reducible rfl)
  try simp only [Act.put, List.setIfInBounds_toArray, List.set_cons_zero, List.set_cons_succ]
  refine wpAnyH_take (i := 23) (oi := { dst := some 122, op := Op.move (Operand.tmp 17), type := 22, pos := "more.go:33", after := #[{ on := 22, ground := Ground.guard }], guard := some (22, true) }) (v := ?_) rfl (by kernel_rfl) (by kernel_rfl) (by kernel_rfl) (fun _ _ _ h => h) (Or.inl ⟨by rfl, ?hyrh_70⟩) (by assumption) ?restrh_70
  case hyrh_70 => (intro w hSw; (try dsimp only at hSw); go_simp; try with_reducible rfl)
  try simp only [Act.put, List.setIfInBounds_toArray, List.set_cons_zero, List.set_cons_succ]
  refine wpAnyH_take (i := 24) (oi := { dst := some 123, op := Op.convert 22 9 (Operand.tmp 122), type := 9, pos := "more.go:33", after := #[{ on := 23, ground := Ground.data }, { on := 22, ground := Ground.guard }], guard := some (22, true) }) (v := ?_) rfl (by kernel_rfl) (by kernel_rfl) (by kernel_rfl) (fun _ _ _ h => h) (Or.inl ⟨by rfl, ?hyrh_73⟩) (by assumption) ?restrh_73
  case hyrh_73 => (intro w hSw; refine exec_convert 22 9 (.tmp 122) ?_ (.slice (some ⟨X2, 0, none⟩) 64 64) (.string (secStr Y)) ?_ (conv_sec (hSw.at FF.out.2.1) 0 64 64 FY.out.1 FY.out.2) <;> rfl)
  try simp only [Act.put, List.setIfInBounds_toArray, List.set_cons_zero, List.set_cons_succ]
  refine wpAnyH_take (i := 25) (oi := { dst := some 124, op := Op.move (Operand.tmp 8), type := 22, pos := "more.go:33", after := #[{ on := 22, ground := Ground.guard }], guard := some (22, true) }) (v := ?_) rfl (by kernel_rfl) (by kernel_rfl) (by kernel_rfl) (fun _ _ _ h => h) (Or.inl ⟨by rfl, ?hyrh_76⟩) (by assumption) ?restrh_76
  case hyrh_76 => (intro w hSw; (try dsimp only at hSw); go_simp; try with_reducible rfl)
  try simp only [Act.put, List.setIfInBounds_toArray, List.set_cons_zero, List.set_cons_succ]
  refine wpAnyH_take (i := 26) (oi := { dst := some 125, op := Op.slice 22 (Operand.tmp 124) none (some (Operand.const (Value.int IntKind.i64 32))) none, type := 22, pos := "more.go:33", after := #[{ on := 25, ground := Ground.data }, { on := 22, ground := Ground.guard }], guard := some (22, true) }) (v := ?_) rfl (by kernel_rfl) (by kernel_rfl) (by kernel_rfl) (fun _ _ _ h => h) (Or.inl ⟨by rfl, ?hyrh_79⟩) (by assumption) ?restrh_79
  case hyrh_79 => (intro w hSw; (try dsimp only at hSw); go_simp; try with_reducible rfl)
  try simp only [Act.put, List.setIfInBounds_toArray, List.set_cons_zero, List.set_cons_succ]
  refine wpAnyH_take (i := 27) (oi := { dst := some 126, op := Op.convert 22 9 (Operand.tmp 125), type := 9, pos := "more.go:33", after := #[{ on := 26, ground := Ground.data }, { on := 22, ground := Ground.guard }], guard := some (22, true) }) (v := ?_) rfl (by kernel_rfl) (by kernel_rfl) (by kernel_rfl) (fun _ _ _ h => h) (Or.inl ⟨by rfl, ?hyrh_82⟩) (by assumption) ?restrh_82
  case hyrh_82 => (intro w hSw; refine exec_convert 22 9 (.tmp 125) ?_ (.slice (some ⟨H0, 0, none⟩) 32 64) (.string (secStr a0)) ?_ (conv_sec (hSw.at FF.out.2.2.2.2) 0 32 64 FA0.out.1 FA0.out.2) <;> rfl)
  try simp only [Act.put, List.setIfInBounds_toArray, List.set_cons_zero, List.set_cons_succ]
  refine wpAnyH_take (i := 28) (oi := { dst := some 127, op := Op.move (Operand.tmp 9), type := 22, pos := "more.go:33", after := #[{ on := 22, ground := Ground.guard }], guard := some (22, true) }) (v := ?_) rfl (by kernel_rfl) (by kernel_rfl) (by kernel_rfl) (fun _ _ _ h => h) (Or.inl ⟨by rfl, ?hyrh_85⟩) (by assumption) ?restrh_85
  case hyrh_85 => (intro w hSw; (try dsimp only at hSw); go_simp; try with_reducible rfl)
  try simp only [Act.put, List.setIfInBounds_toArray, List.set_cons_zero, List.set_cons_succ]
  refine wpAnyH_take (i := 29) (oi := { dst := some 128, op := Op.slice 22 (Operand.tmp 127) (some (Operand.const (Value.int IntKind.i64 32))) none none, type := 22, pos := "more.go:33", after := #[{ on := 28, ground := Ground.data }, { on := 22, ground := Ground.guard }], guard := some (22, true) }) (v := ?_) rfl (by kernel_rfl) (by kernel_rfl) (by kernel_rfl) (fun _ _ _ h => h) (Or.inl ⟨by rfl, ?hyrh_88⟩) (by assumption) ?restrh_88
  case hyrh_88 => (intro w hSw; (try dsimp only at hSw); go_simp; try with_reducible rfl)
  try simp only [Act.put, List.setIfInBounds_toArray, List.set_cons_zero, List.set_cons_succ]
  refine wpAnyH_take (i := 30) (oi := { dst := some 129, op := Op.convert 22 9 (Operand.tmp 128), type := 9, pos := "more.go:33", after := #[{ on := 29, ground := Ground.data }, { on := 22, ground := Ground.guard }], guard := some (22, true) }) (v := ?_) rfl (by kernel_rfl) (by kernel_rfl) (by kernel_rfl) (fun _ _ _ h => h) (Or.inl ⟨by rfl, ?hyrh_91⟩) (by assumption) ?restrh_91
  case hyrh_91 => (intro w hSw; refine exec_convert 22 9 (.tmp 128) ?_ (.slice (some ⟨H1, 32, none⟩) 32 32) (.string (secStr b1)) ?_ (conv_sec (hSw.at FF.out.2.2.2.1) 32 32 32 FB1.out.1 FB1.out.2) <;> rfl)
  try simp only [Act.put, List.setIfInBounds_toArray, List.set_cons_zero, List.set_cons_succ]
  refine wpAnyH_take (i := 31) (oi := { dst := some 130, op := Op.binOp BinOp.add 9 (Operand.tmp 126) (Operand.tmp 129) 9, type := 9, pos := "more.go:33", after := #[{ on := 27, ground := Ground.data }, { on := 30, ground := Ground.data }, { on := 22, ground := Ground.guard }], guard := some (22, true) }) (v := ?_) rfl (by kernel_rfl) (by kernel_rfl) (by kernel_rfl) (fun _ _ _ h => h) (Or.inl ⟨by rfl, ?hyrh_94⟩) (by assumption) ?restrh_94
  case hyrh_94 => (intro w hSw; (try dsimp only at hSw); go_simp; try with_reducible rfl)
  try simp only [Act.put, List.setIfInBounds_toArray, List.set_cons_zero, List.set_cons_succ]
  refine wpAnyH_take (i := 32) (oi := { dst := some 131, op := Op.binOp BinOp.eql 9 (Operand.tmp 123) (Operand.tmp 130) 9, type := 4, pos := "more.go:33", after := #[{ on := 24, ground := Ground.data }, { on := 31, ground := Ground.data }, { on := 22, ground := Ground.guard }], guard := some (22, true) }) (v := ?_) rfl (by kernel_rfl) (by kernel_rfl) (by kernel_rfl) (fun _ _ _ h => h) (Or.inl ⟨by rfl, ?hyrh_97⟩) (by assumption) ?restrh_97
  case hyrh_97 => (intro w hSw; (try dsimp only at hSw); go_simp; try with_reducible rfl)
  try simp only [Act.put, List.setIfInBounds_toArray, List.set_cons_zero, List.set_cons_succ]
  refine wpAnyH_take (i := 33) (oi := { dst := some 132, op := Op.pick (Operand.tmp 121) (Operand.tmp 131) (Operand.const (Value.bool false)), type := 4, pos := "more.go:33", after := #[{ on := 22, ground := Ground.data }, { on := 32, ground := Ground.data }], guard := none }) (v := ?_) rfl (by kernel_rfl) (by kernel_rfl) (by kernel_rfl) (fun _ _ _ h => h) (Or.inl ⟨by rfl, ?hyrh_100⟩) (by assumption) ?restrh_100
  case hyrh_100 => (intro w hSw; (try dsimp only at hSw); go_simp; try with_reducible rfl)
  try simp only [Act.put, List.setIfInBounds_toArray, List.set_cons_zero, List.set_cons_succ]
  refine wpAnyH_take (i := 34) (oi := { dst := some 133, op := Op.move (Operand.tmp 132), type := 4, pos := "more.go:33", after := #[{ on := 33, ground := Ground.data }, { on := 22, ground := Ground.chain }], guard := none }) (v := ?_) rfl (by kernel_rfl) (by kernel_rfl) (by kernel_rfl) (fun _ _ _ h => h) (Or.inl ⟨by rfl, ?hyrh_103⟩) (by assumption) ?restrh_103
  case hyrh_103 => (intro w hSw; (try dsimp only at hSw); go_simp; try with_reducible rfl)
  try simp only [Act.put, List.setIfInBounds_toArray, List.set_cons_zero, List.set_cons_succ]
  refine wpAnyH_take (i := 35) (oi := { dst := some 134, op := Op.move (Operand.tmp 19), type := 22, pos := "more.go:33", after := #[{ on := 34, ground := Ground.guard }], guard := some (34, true) }) (v := ?_) rfl (by kernel_rfl) (by kernel_rfl) (by kernel_rfl) (fun _ _ _ h => h) (Or.inl ⟨by rfl, ?hyrh_106⟩) (by assumption) ?restrh_106
  case hyrh_106 => (intro w hSw; (try dsimp only at hSw); go_simp; try with_reducible rfl)
  try simp only [Act.put, List.setIfInBounds_toArray, List.set_cons_zero, List.set_cons_succ]
  refine wpAnyH_take (i := 36) (oi := { dst := some 135, op := Op.convert 22 9 (Operand.tmp 134), type := 9, pos := "more.go:33", after := #[{ on := 35, ground := Ground.data }, { on := 34, ground := Ground.guard }], guard := some (34, true) }) (v := ?_) rfl (by kernel_rfl) (by kernel_rfl) (by kernel_rfl) (fun _ _ _ h => h) (Or.inl ⟨by rfl, ?hyrh_109⟩) (by assumption) ?restrh_109
  case hyrh_109 => (intro w hSw; refine exec_convert 22 9 (.tmp 134) ?_ (.slice (some ⟨X3, 0, none⟩) 64 64) (.string (secStr B)) ?_ (conv_sec (hSw.at FF.out.1) 0 64 64 FB.out.1 FB.out.2) <;> rfl)
  try simp only [Act.put, List.setIfInBounds_toArray, List.set_cons_zero, List.set_cons_succ]
  refine wpAnyH_take (i := 37) (oi := { dst := some 136, op := Op.move (Operand.tmp 9), type := 22, pos := "more.go:33", after := #[{ on := 34, ground := Ground.guard }], guard := some (34, true) }) (v := ?_) rfl (by kernel_rfl) (by kernel_rfl) (by kernel_rfl) (fun _ _ _ h => h) (Or.inl ⟨by rfl, ?hyrh_112⟩) (by assumption) ?restrh_112
  case hyrh_112 => (intro w hSw; (try dsimp only at hSw); go_simp; try with_reducible rfl)
  try simp only [Act.put, List.setIfInBounds_toArray, List.set_cons_zero, List.set_cons_succ]
  refine wpAnyH_take (i := 38) (oi := { dst := some 137, op := Op.convert 22 9 (Operand.tmp 136), type := 9, pos := "more.go:33", after := #[{ on := 37, ground := Ground.data }, { on := 34, ground := Ground.guard }], guard := some (34, true) }) (v := ?_) rfl (by kernel_rfl) (by kernel_rfl) (by kernel_rfl) (fun _ _ _ h => h) (Or.inl ⟨by rfl, ?hyrh_115⟩) (by assumption) ?restrh_115
  case hyrh_115 => (intro w hSw; refine exec_convert 22 9 (.tmp 136) ?_ (.slice (some ⟨H1, 0, none⟩) 64 64) (.string (secStr B)) ?_ (conv_sec (hSw.at FF.out.2.2.2.1) 0 64 64 FB.out.1 FB.out.2) <;> rfl)
  try simp only [Act.put, List.setIfInBounds_toArray, List.set_cons_zero, List.set_cons_succ]
  refine wpAnyH_take (i := 39) (oi := { dst := some 138, op := Op.binOp BinOp.eql 9 (Operand.tmp 135) (Operand.tmp 137) 9, type := 4, pos := "more.go:33", after := #[{ on := 36, ground := Ground.data }, { on := 38, ground := Ground.data }, { on := 34, ground := Ground.guard }], guard := some (34, true) }) (v := ?_) rfl (by kernel_rfl) (by kernel_rfl) (by kernel_rfl) (fun _ _ _ h => h) (Or.inl ⟨by rfl, ?hyrh_118⟩) (by assumption) ?restrh_118
  case hyrh_118 => (intro w hSw; (try dsimp only at hSw); go_simp; try with_reducible rfl)
  try simp only [Act.put, List.setIfInBounds_toArray, List.set_cons_zero, List.set_cons_succ]
  refine wpAnyH_take (i := 40) (oi := { dst := some 139, op := Op.pick (Operand.tmp 133) (Operand.tmp 138) (Operand.const (Value.bool false)), type := 4, pos := "more.go:33", after := #[{ on := 34, ground := Ground.data }, { on := 39, ground := Ground.data }], guard := none }) (v := ?_) rfl (by kernel_rfl) (by kernel_rfl) (by kernel_rfl) (fun _ _ _ h => h) (Or.inl ⟨by rfl, ?hyrh_121⟩) (by assumption) ?restrh_121
  case hyrh_121 => (intro w hSw; (try dsimp only at hSw); go_simp; try with_reducible rfl)
  try simp only [Act.put, List.setIfInBounds_toArray, List.set_cons_zero, List.set_cons_succ]
  refine wpAnyH_take (i := 41) (oi := { dst := some 4, op := Op.assign (Operand.tmp 139), type := 4, pos := "more.go:33", after := #[{ on := 40, ground := Ground.data }, { on := 34, ground := Ground.chain }, { on := 0, ground := Ground.phase }, { on := 1, ground := Ground.phase }, { on := 2, ground := Ground.phase }, { on := 3, ground := Ground.phase }, { on := 4, ground := Ground.phase }, { on := 5, ground := Ground.phase }, { on := 6, ground := Ground.phase }, { on := 7, ground := Ground.phase }, { on := 8, ground := Ground.phase }, { on := 9, ground := Ground.phase }, { on := 10, ground := Ground.phase }, { on := 11, ground := Ground.phase }, { on := 12, ground := Ground.phase }, { on := 13, ground := Ground.phase }, { on := 14, ground := Ground.phase }, { on := 15, ground := Ground.phase }, { on := 16, ground := Ground.phase }, { on := 17, ground := Ground.phase }, { on := 18, ground := Ground.phase }, { on := 19, ground := Ground.phase }, { on := 20, ground := Ground.phase }, { on := 21, ground := Ground.phase }, { on := 22, ground := Ground.phase }, { on := 23, ground := Ground.phase }, { on := 24, ground := Ground.phase }, { on := 25, ground := Ground.phase }, { on := 26, ground := Ground.phase }, { on := 27, ground := Ground.phase }, { on := 28, ground := Ground.phase }, { on := 29, ground := Ground.phase }, { on := 30, ground := Ground.phase }, { on := 31, ground := Ground.phase }, { on := 32, ground := Ground.phase }, { on := 33, ground := Ground.phase }, { on := 34, ground := Ground.phase }, { on := 35, ground := Ground.phase }, { on := 36, ground := Ground.phase }, { on := 37, ground := Ground.phase }, { on := 38, ground := Ground.phase }, { on := 39, ground := Ground.phase }, { on := 40, ground := Ground.phase }], guard := none }) (v := ?_) rfl (by kernel_rfl) (by kernel_rfl) (by kernel_rfl) (fun _ _ _ h => h) (Or.inl ⟨by rfl, ?hyrh_124⟩) (by assumption) ?restrh_124
  case hyrh_124 => (intro w hSw; (try dsimp only at hSw); go_simp; try with_reducible rfl)
  try simp only [Act.put, List.setIfInBounds_toArray, List.set_cons_zero, List.set_cons_succ]
  refine wpAnyH_done (by kernel_rfl) ?_ _
  have HB := hHeld.base
  clear hHeld h15
  go_wp2_with fail
  go_ret
  exact ⟨rfl, HB⟩
end Go.Proofs.Ytpnijopbbbgffaa.plantw
