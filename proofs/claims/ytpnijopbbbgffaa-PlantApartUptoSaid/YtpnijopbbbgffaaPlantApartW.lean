/- Walks of layer 3's statements: PlantApart. Conditions: as each theorem says. -/
import Derived.Test.YtpnijopbbbgffaaPlantH
import Derived.Deep.RegionHeld3
import Derived.Deep.QuietTactic
import Derived.BigQuiet
namespace Go.Proofs.Ytpnijopbbbgffaa.plantw
open Go.RowKit
open Go.Proofs.Ytpnijopbbbgffaa.plantp
open Go.Proofs.Ytpnijopbbbgffaa.mapfn
open Go.Proofs.Ytpnijopbbbgffaa.buf
set_option maxHeartbeats 4000000 in
set_option maxRecDepth 100000 in
theorem apart_walk (w : World) {A0 A1 : Option Addr} {c0 c1 : Nat} {l0 l1 : Sec} (h0 : BytesIn w A0 l0) (h1 : BytesIn w A1 l1) :
    Calls Try.prog 3 #[.slice A0 l0.length c0, .slice A1 l1.length c1] w fun e w' => e = .returned (.bool true) ∧ Below w.heap.size w w' := by
  have HS := Lib.hid (shown_any w)
  go_enter Try.func3, Try.ntmps3
  go_wp2_with fail
  refine HS.out.mono ?_
  rintro e w1 ⟨rfl, b1⟩
  have HN := Lib.hid (new_own (b1.alloc b1.size (.cells #[.int .i64 4, .int .i64 4] 3)) (ints_lit (zs := [4, 4]) (heap_alloc_last w1 (.cells #[.int .i64 4, .int .i64 4] 3)) (by decide)) (by decide))
  go_wp2_with fail
  refine HN.out.mono ?_
  rintro e w2 ⟨g, rfl, n2⟩
  have m1 := make64' w2
  have m2 := make64' (w2.alloc (.cells (secA zeroS) 5))
  obtain ⟨v1, e1⟩ : ∃ W, W = w2.alloc (.cells (secA zeroS) 5) := ⟨_, rfl⟩
  have s1 : v1.heap[w2.heap.size]? = some (.cells (secA zeroS) 5 (0, 0)) := by rw [e1]; exact heap_alloc_last _ _
  have b21 : Below w2.heap.size w2 v1 := by rw [e1]; exact (Below.refl _ _).alloc (Nat.le_refl _) _
  have z1 : v1.heap.size = w2.heap.size + 1 := by rw [e1]; simp
  rw [← e1] at m1 m2
  obtain ⟨v2, e2⟩ : ∃ W, W = v1.alloc (.cells (secA zeroS) 5) := ⟨_, rfl⟩
  have s2 : v2.heap[v1.heap.size]? = some (.cells (secA zeroS) 5 (0, 0)) := by rw [e2]; exact heap_alloc_last _ _
  have b22 : Below v1.heap.size v1 v2 := by rw [e2]; exact (Below.refl _ _).alloc (Nat.le_refl _) _
  rw [← e2] at m2
  clear e1 e2
  have s12 : v2.heap[w2.heap.size]? = some (.cells (secA zeroS) 5 (0, 0)) := (b22.block _ (by omega)).trans s1
  have n4 := (n2.below b21).below b22
  have k0 : BytesIn v2 A0 l0 := h0.below n4.base
  have k1 : BytesIn v2 A1 l1 := h1.below n4.base
  have q1 := copy_arg (c := c0) s12 k0
  obtain ⟨v3, e3⟩ : ∃ W, W = v2.setRow w2.heap.size (secA (fit l0)) := ⟨_, rfl⟩
  have t3 : Turn [w2.heap.size, v1.heap.size] v2 v3 := by rw [e3]; exact (Turn.refl _ _).setRow (.inl (by simp)) _
  have s3 : v3.heap[v1.heap.size]? = some (.cells (secA zeroS) 5 (0, 0)) := by rw [e3, setRow_other _ _ _ _ (by omega)]; exact s2
  have s3' : v3.heap[w2.heap.size]? = some (.cells (secA (fit l0)) 5 (0, 0)) := by rw [e3]; exact setRow_block s12
  rw [← e3] at q1
  clear e3
  have b23 : Below w2.heap.size w2 v3 := (b21.trans (b22.mono (by omega))).trans (t3.below (by have := b22.size; omega) (by simp; omega))
  have k3 : BytesIn v3 A1 l1 := h1.below (n2.base.trans (b23.mono n2.base.size))
  have q2 := copy_arg (c := c1) s3 k3
  obtain ⟨v4, e4⟩ : ∃ W, W = v3.setRow v1.heap.size (secA (fit l1)) := ⟨_, rfl⟩
  have t4 : Turn [w2.heap.size, v1.heap.size] v3 v4 := by rw [e4]; exact (Turn.refl _ _).setRow (.inl (by simp)) _
  have s4 : v4.heap[v1.heap.size]? = some (.cells (secA (fit l1)) 5 (0, 0)) := by rw [e4]; exact setRow_block s3
  have s4' : v4.heap[w2.heap.size]? = some (.cells (secA (fit l0)) 5 (0, 0)) := by rw [e4, setRow_other _ _ _ _ (by omega)]; exact s3'
  rw [← e4] at q2
  clear e4
  have b24 : Below w2.heap.size w2 v4 := b23.trans (t4.below b23.size (by simp; omega))
  have hM : Mine w g (PS.new [4, 4]) [(v1.heap.size, fit l1), (w2.heap.size, fit l0)] v4 :=
    n2.mine.adds b24 [(v1.heap.size, fit l1), (w2.heap.size, fit l0)] (fun x hx => by
      rcases List.mem_cons.1 hx with rfl | hx
      · exact ⟨by simp only; omega, s4⟩
      · obtain rfl := List.mem_singleton.1 hx
        exact ⟨Nat.le_refl _, s4'⟩)
  clear s1 s2 s12 s3 s3' s4 s4' t3 t4 b21 b22 b23 b24 k0 k1 k3 n4 HS b1 h0 h1
  have M1 := Lib.hid m1
  have M2 := Lib.hid m2
  have Q1 := Lib.hid q1
  have Q2 := Lib.hid q2
  have HM := Lib.hid hM
  clear m1 m2 q1 q2 hM n2 z1
  go_wp2_with fail
  go_wp2_with (rw [M1.out])
  go_wp2_with (rw [M2.out])
  go_wp2_with (rw [Q1.out])
  go_wp2_with (rw [Q2.out])
  have hq1 : PS.write (PS.new [4, 4]) 0 2 (fit l0) = (mk4 (fun _ _ => zeroS) [⟨0, 2, fit l0⟩] 1, 0) := PS.write_ok rfl rfl (fit_len _) rfl
  have hq2 : PS.write (mk4 (fun _ _ => zeroS) [⟨0, 2, fit l0⟩] 1) 1 2 (fit l1) = (mk4 (fun _ _ => zeroS) [⟨0, 2, fit l0⟩, ⟨1, 2, fit l1⟩] 2, 0) := PS.write_ok rfl rfl (fit_len _) rfl
  have hq3 : PS.flushAt (mk4 (fun _ _ => zeroS) [⟨0, 2, fit l0⟩, ⟨1, 2, fit l1⟩] 2) 1 = (mk4 (fun d k => if d = 1 ∧ k = 2 then fit l1 else zeroS) [⟨0, 2, fit l0⟩] 3, 0) := PS.flush_ok (d := 1) rfl (show 1 < 2 by decide) rfl
  refine (write_mine (H := w2.heap.size) (s := fit l0) (fit_len _) HM.out (by simp) (by decide) 0 2 hq1).mono ?_
  rintro e w5 ⟨rfl, h5⟩
  clear hq1
  go_wp2_with fail
  refine (write_mine (H := v1.heap.size) (s := fit l1) (fit_len _) h5 (by simp) (st3 1 (by decide)) 1 2 hq2).mono ?_
  rintro e w6 ⟨rfl, h6⟩
  clear hq2
  go_wp2_with fail
  refine (flush_mine h6 (st3 2 (by decide)) 1 hq3).mono ?_
  rintro e w7 ⟨rfl, h7⟩
  clear hq3
  go_wp2_with fail
  refine (boot_mine h7 (st3 3 (by decide)) (vk := .slice none 0 0) (keep := []) ⟨by decide, .inl ⟨rfl, none, 0, rfl⟩⟩).mono ?_
  rintro e w8 ⟨rfl, h8⟩
  rw [mk4_boot] at h8
  go_wp2_with fail
  refine (read_mine h8 0 2 rfl (s := zeroS) rfl).mono ?_
  rintro e w9 ⟨H1, rfl, b9, h9⟩
  go_wp2_with fail
  refine (read_mine h9 1 2 rfl (s := fit l1) rfl).mono ?_
  rintro e w10 ⟨H2, rfl, b10, h10⟩
  obtain ⟨Z, eZ⟩ : ∃ L : Sec, zeroS = L := ⟨_, rfl⟩
  obtain ⟨F1, eF1⟩ : ∃ L : Sec, fit l1 = L := ⟨_, rfl⟩
  have lZ : (Z.drop 0).take 64 = Z ∧ 64 ≤ Z.length := by subst eZ; exact ⟨rfl, by decide⟩
  have lF : (F1.drop 0).take 64 = F1 ∧ 64 ≤ F1.length := by subst eF1; exact ⟨by rw [List.drop_zero, List.take_of_length_le (Nat.le_of_eq (fit_len _))], Nat.le_of_eq (fit_len _).symm⟩
  have LZ := Lib.hid lZ
  have LF := Lib.hid lF
  have hcZ : ((secStr Z).toList == (secStr Z).toList) = true := by simp
  have hcF : ((secStr F1).toList == (secStr F1).toList) = true := by simp
  rw [eF1] at h10
  rw [eZ] at h10
  have hMZ : ∀ W : World, (Instr.makeSlice 22 (.int .i64 64) (.int .i64 64)).run Try.prog W = .ok (.slice (some ⟨W.heap.size, 0, none⟩) 64 64) (W.alloc (.cells (secA Z) 5)) := by subst eZ; exact make64'
  have HMZ := Lib.hid hMZ
  obtain ⟨F, eF⟩ : ∃ F, [(H2, F1), (H1, Z), (v1.heap.size, F1), (w2.heap.size, fit l0)] = F := ⟨_, rfl⟩
  have f1 : (H2, F1) ∈ F := by simp [← eF]
  have f2 : (H1, Z) ∈ F := by simp [← eF]
  have f3 : (v1.heap.size, F1) ∈ F := by simp [← eF]
  rw [eF] at h10
  have FF := Lib.hid (And.intro f1 (And.intro f2 f3))
  obtain ⟨p, ep⟩ : ∃ p, mk4 (fun d k => if d = 1 ∧ k = 2 then F1 else Z) [] 3 = p := ⟨_, rfl⟩
  rw [ep] at h10
  have hps : p.steps = 3 := by rw [← ep]; rfl
  have HPS := Lib.hid hps
  clear eZ eF1 hMZ eF f1 f2 f3 ep hps lZ lF
  clear HM h5 h6 h7 h8 h9 Q1 Q2 M1 M2 HN b9 b10
  go_wp2_with fail
  refine wp_region_held_drew (S := (fun W => Mine w g p F W)) (by kernel_rfl) (h10.drew) (fun hHeld => ?_)
  refine wpAnyH_take (i := 0) (oi := { dst := some 61, op := Op.move (Operand.tmp 10), type := 25, pos := "more.go:53", after := #[], guard := none }) (v := ?_) rfl (by kernel_rfl) (by kernel_rfl) (by kernel_rfl) (fun _ _ _ h => h) (Or.inl ⟨by rfl, ?hyra_1⟩) (by assumption) ?restra_1
  case hyra_1 => (intro w hSw; (try dsimp only at hSw); go_simp; try with_reducible rfl)
  try simp only [Act.put, List.setIfInBounds_toArray, List.set_cons_zero, List.set_cons_succ]
  refine wpAnyH_take (i := 1) (oi := { dst := some 62, op := Op.binOp BinOp.eql 25 (Operand.tmp 61) (Operand.const (Value.int IntKind.i64 0)) 25, type := 4, pos := "more.go:53", after := #[{ on := 0, ground := Ground.data }], guard := none }) (v := ?_) rfl (by kernel_rfl) (by kernel_rfl) (by kernel_rfl) (fun _ _ _ h => h) (Or.inl ⟨by rfl, ?hyra_4⟩) (by assumption) ?restra_4
  case hyra_4 => (intro w hSw; (try dsimp only at hSw); go_simp; try with_reducible rfl)
  try simp only [Act.put, List.setIfInBounds_toArray, List.set_cons_zero, List.set_cons_succ]
  refine wpAnyH_take (i := 2) (oi := { dst := some 63, op := Op.move (Operand.tmp 62), type := 4, pos := "more.go:53", after := #[{ on := 1, ground := Ground.data }], guard := none }) (v := ?_) rfl (by kernel_rfl) (by kernel_rfl) (by kernel_rfl) (fun _ _ _ h => h) (Or.inl ⟨by rfl, ?hyra_7⟩) (by assumption) ?restra_7
  case hyra_7 => (intro w hSw; (try dsimp only at hSw); go_simp; try with_reducible rfl)
  try simp only [Act.put, List.setIfInBounds_toArray, List.set_cons_zero, List.set_cons_succ]
  refine wpAnyH_take (i := 3) (oi := { dst := some 64, op := Op.move (Operand.tmp 11), type := 25, pos := "more.go:53", after := #[{ on := 2, ground := Ground.guard }], guard := some (2, true) }) (v := ?_) rfl (by kernel_rfl) (by kernel_rfl) (by kernel_rfl) (fun _ _ _ h => h) (Or.inl ⟨by rfl, ?hyra_10⟩) (by assumption) ?restra_10
  case hyra_10 => (intro w hSw; (try dsimp only at hSw); go_simp; try with_reducible rfl)
  try simp only [Act.put, List.setIfInBounds_toArray, List.set_cons_zero, List.set_cons_succ]
  refine wpAnyH_take (i := 4) (oi := { dst := some 65, op := Op.binOp BinOp.eql 25 (Operand.tmp 64) (Operand.const (Value.int IntKind.i64 0)) 25, type := 4, pos := "more.go:53", after := #[{ on := 3, ground := Ground.data }, { on := 2, ground := Ground.guard }], guard := some (2, true) }) (v := ?_) rfl (by kernel_rfl) (by kernel_rfl) (by kernel_rfl) (fun _ _ _ h => h) (Or.inl ⟨by rfl, ?hyra_13⟩) (by assumption) ?restra_13
  case hyra_13 => (intro w hSw; (try dsimp only at hSw); go_simp; try with_reducible rfl)
  try simp only [Act.put, List.setIfInBounds_toArray, List.set_cons_zero, List.set_cons_succ]
  refine wpAnyH_take (i := 5) (oi := { dst := some 66, op := Op.pick (Operand.tmp 63) (Operand.tmp 65) (Operand.const (Value.bool false)), type := 4, pos := "more.go:53", after := #[{ on := 2, ground := Ground.data }, { on := 4, ground := Ground.data }], guard := none }) (v := ?_) rfl (by kernel_rfl) (by kernel_rfl) (by kernel_rfl) (fun _ _ _ h => h) (Or.inl ⟨by rfl, ?hyra_16⟩) (by assumption) ?restra_16
  case hyra_16 => (intro w hSw; (try dsimp only at hSw); go_simp; try with_reducible rfl)
  try simp only [Act.put, List.setIfInBounds_toArray, List.set_cons_zero, List.set_cons_succ]
  refine wpAnyH_take (i := 6) (oi := { dst := some 67, op := Op.move (Operand.tmp 66), type := 4, pos := "more.go:53", after := #[{ on := 5, ground := Ground.data }, { on := 2, ground := Ground.chain }], guard := none }) (v := ?_) rfl (by kernel_rfl) (by kernel_rfl) (by kernel_rfl) (fun _ _ _ h => h) (Or.inl ⟨by rfl, ?hyra_19⟩) (by assumption) ?restra_19
  case hyra_19 => (intro w hSw; (try dsimp only at hSw); go_simp; try with_reducible rfl)
  try simp only [Act.put, List.setIfInBounds_toArray, List.set_cons_zero, List.set_cons_succ]
  refine wpAnyH_take (i := 7) (oi := { dst := some 68, op := Op.move (Operand.tmp 12), type := 25, pos := "more.go:53", after := #[{ on := 6, ground := Ground.guard }], guard := some (6, true) }) (v := ?_) rfl (by kernel_rfl) (by kernel_rfl) (by kernel_rfl) (fun _ _ _ h => h) (Or.inl ⟨by rfl, ?hyra_22⟩) (by assumption) ?restra_22
  case hyra_22 => (intro w hSw; (try dsimp only at hSw); go_simp; try with_reducible rfl)
  try simp only [Act.put, List.setIfInBounds_toArray, List.set_cons_zero, List.set_cons_succ]
  refine wpAnyH_take (i := 8) (oi := { dst := some 69, op := Op.binOp BinOp.eql 25 (Operand.tmp 68) (Operand.const (Value.int IntKind.i64 0)) 25, type := 4, pos := "more.go:53", after := #[{ on := 7, ground := Ground.data }, { on := 6, ground := Ground.guard }], guard := some (6, true) }) (v := ?_) rfl (by kernel_rfl) (by kernel_rfl) (by kernel_rfl) (fun _ _ _ h => h) (Or.inl ⟨by rfl, ?hyra_25⟩) (by assumption) ?restra_25
  case hyra_25 => (intro w hSw; (try dsimp only at hSw); go_simp; try with_reducible rfl)
  try simp only [Act.put, List.setIfInBounds_toArray, List.set_cons_zero, List.set_cons_succ]
  refine wpAnyH_take (i := 9) (oi := { dst := some 70, op := Op.pick (Operand.tmp 67) (Operand.tmp 69) (Operand.const (Value.bool false)), type := 4, pos := "more.go:53", after := #[{ on := 6, ground := Ground.data }, { on := 8, ground := Ground.data }], guard := none }) (v := ?_) rfl (by kernel_rfl) (by kernel_rfl) (by kernel_rfl) (fun _ _ _ h => h) (Or.inl ⟨by rfl, ?hyra_28⟩) (by assumption) ?restra_28
  case hyra_28 => (intro w hSw; (try dsimp only at hSw); go_simp; try with_reducible rfl)
  try simp only [Act.put, List.setIfInBounds_toArray, List.set_cons_zero, List.set_cons_succ]
  refine wpAnyH_take (i := 10) (oi := { dst := some 71, op := Op.move (Operand.tmp 70), type := 4, pos := "more.go:53", after := #[{ on := 9, ground := Ground.data }, { on := 6, ground := Ground.chain }], guard := none }) (v := ?_) rfl (by kernel_rfl) (by kernel_rfl) (by kernel_rfl) (fun _ _ _ h => h) (Or.inl ⟨by rfl, ?hyra_31⟩) (by assumption) ?restra_31
  case hyra_31 => (intro w hSw; (try dsimp only at hSw); go_simp; try with_reducible rfl)
  try simp only [Act.put, List.setIfInBounds_toArray, List.set_cons_zero, List.set_cons_succ]
  refine wpAnyH_take (i := 11) (oi := { dst := some 72, op := Op.move (Operand.tmp 14), type := 25, pos := "more.go:53", after := #[{ on := 10, ground := Ground.guard }], guard := some (10, true) }) (v := ?_) rfl (by kernel_rfl) (by kernel_rfl) (by kernel_rfl) (fun _ _ _ h => h) (Or.inl ⟨by rfl, ?hyra_34⟩) (by assumption) ?restra_34
  case hyra_34 => (intro w hSw; (try dsimp only at hSw); go_simp; try with_reducible rfl)
  try simp only [Act.put, List.setIfInBounds_toArray, List.set_cons_zero, List.set_cons_succ]
  refine wpAnyH_take (i := 12) (oi := { dst := some 73, op := Op.binOp BinOp.eql 25 (Operand.tmp 72) (Operand.const (Value.int IntKind.i64 0)) 25, type := 4, pos := "more.go:53", after := #[{ on := 11, ground := Ground.data }, { on := 10, ground := Ground.guard }], guard := some (10, true) }) (v := ?_) rfl (by kernel_rfl) (by kernel_rfl) (by kernel_rfl) (fun _ _ _ h => h) (Or.inl ⟨by rfl, ?hyra_37⟩) (by assumption) ?restra_37
  case hyra_37 => (intro w hSw; (try dsimp only at hSw); go_simp; try with_reducible rfl)
  try simp only [Act.put, List.setIfInBounds_toArray, List.set_cons_zero, List.set_cons_succ]
  refine wpAnyH_take (i := 13) (oi := { dst := some 74, op := Op.pick (Operand.tmp 71) (Operand.tmp 73) (Operand.const (Value.bool false)), type := 4, pos := "more.go:53", after := #[{ on := 10, ground := Ground.data }, { on := 12, ground := Ground.data }], guard := none }) (v := ?_) rfl (by kernel_rfl) (by kernel_rfl) (by kernel_rfl) (fun _ _ _ h => h) (Or.inl ⟨by rfl, ?hyra_40⟩) (by assumption) ?restra_40
  case hyra_40 => (intro w hSw; (try dsimp only at hSw); go_simp; try with_reducible rfl)
  try simp only [Act.put, List.setIfInBounds_toArray, List.set_cons_zero, List.set_cons_succ]
  refine wpAnyH_take (i := 14) (oi := { dst := some 75, op := Op.move (Operand.tmp 74), type := 4, pos := "more.go:53", after := #[{ on := 13, ground := Ground.data }, { on := 10, ground := Ground.chain }], guard := none }) (v := ?_) rfl (by kernel_rfl) (by kernel_rfl) (by kernel_rfl) (fun _ _ _ h => h) (Or.inl ⟨by rfl, ?hyra_43⟩) (by assumption) ?restra_43
  case hyra_43 => (intro w hSw; (try dsimp only at hSw); go_simp; try with_reducible rfl)
  try simp only [Act.put, List.setIfInBounds_toArray, List.set_cons_zero, List.set_cons_succ]
  refine wpAnyH_take (i := 15) (oi := { dst := some 76, op := Op.move (Operand.tmp 16), type := 25, pos := "more.go:53", after := #[{ on := 14, ground := Ground.guard }], guard := some (14, true) }) (v := ?_) rfl (by kernel_rfl) (by kernel_rfl) (by kernel_rfl) (fun _ _ _ h => h) (Or.inl ⟨by rfl, ?hyra_46⟩) (by assumption) ?restra_46
  case hyra_46 => (intro w hSw; (try dsimp only at hSw); go_simp; try with_reducible rfl)
  try simp only [Act.put, List.setIfInBounds_toArray, List.set_cons_zero, List.set_cons_succ]
  refine wpAnyH_take (i := 16) (oi := { dst := some 77, op := Op.binOp BinOp.eql 25 (Operand.tmp 76) (Operand.const (Value.int IntKind.i64 0)) 25, type := 4, pos := "more.go:53", after := #[{ on := 15, ground := Ground.data }, { on := 14, ground := Ground.guard }], guard := some (14, true) }) (v := ?_) rfl (by kernel_rfl) (by kernel_rfl) (by kernel_rfl) (fun _ _ _ h => h) (Or.inl ⟨by rfl, ?hyra_49⟩) (by assumption) ?restra_49
  case hyra_49 => (intro w hSw; (try dsimp only at hSw); go_simp; try with_reducible rfl)
  try simp only [Act.put, List.setIfInBounds_toArray, List.set_cons_zero, List.set_cons_succ]
  refine wpAnyH_take (i := 17) (oi := { dst := some 78, op := Op.pick (Operand.tmp 75) (Operand.tmp 77) (Operand.const (Value.bool false)), type := 4, pos := "more.go:53", after := #[{ on := 14, ground := Ground.data }, { on := 16, ground := Ground.data }], guard := none }) (v := ?_) rfl (by kernel_rfl) (by kernel_rfl) (by kernel_rfl) (fun _ _ _ h => h) (Or.inl ⟨by rfl, ?hyra_52⟩) (by assumption) ?restra_52
  case hyra_52 => (intro w hSw; (try dsimp only at hSw); go_simp; try with_reducible rfl)
  try simp only [Act.put, List.setIfInBounds_toArray, List.set_cons_zero, List.set_cons_succ]
  refine wpAnyH_take (i := 18) (oi := { dst := some 79, op := Op.move (Operand.tmp 78), type := 4, pos := "more.go:53", after := #[{ on := 17, ground := Ground.data }, { on := 14, ground := Ground.chain }], guard := none }) (v := ?_) rfl (by kernel_rfl) (by kernel_rfl) (by kernel_rfl) (fun _ _ _ h => h) (Or.inl ⟨by rfl, ?hyra_55⟩) (by assumption) ?restra_55
  case hyra_55 => (intro w hSw; (try dsimp only at hSw); go_simp; try with_reducible rfl)
  try simp only [Act.put, List.setIfInBounds_toArray, List.set_cons_zero, List.set_cons_succ]
  refine wpAnyH_take (i := 19) (oi := { dst := some 80, op := Op.move (Operand.tmp 13), type := 22, pos := "more.go:53", after := #[{ on := 18, ground := Ground.guard }], guard := some (18, true) }) (v := ?_) rfl (by kernel_rfl) (by kernel_rfl) (by kernel_rfl) (fun _ _ _ h => h) (Or.inl ⟨by rfl, ?hyra_58⟩) (by assumption) ?restra_58
  case hyra_58 => (intro w hSw; (try dsimp only at hSw); go_simp; try with_reducible rfl)
  try simp only [Act.put, List.setIfInBounds_toArray, List.set_cons_zero, List.set_cons_succ]
  refine wpAnyH_take (i := 20) (oi := { dst := some 81, op := Op.convert 22 9 (Operand.tmp 80), type := 9, pos := "more.go:53", after := #[{ on := 19, ground := Ground.data }, { on := 18, ground := Ground.guard }], guard := some (18, true) }) (v := ?_) rfl (by kernel_rfl) (by kernel_rfl) (by kernel_rfl) (fun _ _ _ h => h) (Or.inl ⟨by rfl, ?hyra_61⟩) (by assumption) ?restra_61
  case hyra_61 => (intro w hSw; refine exec_convert 22 9 (.tmp 80) ?_ (.slice (some ⟨H1, 0, none⟩) 64 64) (.string (secStr Z)) ?_ (conv_sec (hSw.at FF.out.2.1) 0 64 64 LZ.out.2 LZ.out.1) <;> rfl)
  try simp only [Act.put, List.setIfInBounds_toArray, List.set_cons_zero, List.set_cons_succ]
  refine wpAnyH_ready (rs := [21]) (by kernel_rfl) (by simp) (AllReadyH.cons (o := { dst := some 82, op := Op.makeSlice 22 (Operand.const (Value.int IntKind.i64 64)) (Operand.const (Value.int IntKind.i64 64)), type := 22, pos := "more.go:53", after := #[{ on := 18, ground := Ground.guard }], guard := some (18, true) }) rfl (fun K hK => ?_) AllReadyH.nil)
  refine step_run' (by kernel_rfl) (.slice (some ⟨_, 0, none⟩) 64 64) (exec_makeSlice 22 (.const (.int .i64 64)) (.const (.int .i64 64)) rfl (.int .i64 64) (.int .i64 64) _ rfl rfl (HMZ.out _)) ?_
  refine hK.out _ _ (hHeld.below ((Below.refl _ _).alloc (Nat.le_refl _) _)) (fun hHeld => ?_)
  clear hK K
  try simp only [Act.put, List.setIfInBounds_toArray, List.set_cons_zero, List.set_cons_succ]
  refine wpAnyH_ready (rs := [22]) (by kernel_rfl) (by simp) (AllReadyH.cons (o := { dst := some 83, op := Op.convert 22 9 (Operand.tmp 82), type := 9, pos := "more.go:53", after := #[{ on := 21, ground := Ground.data }, { on := 18, ground := Ground.guard }], guard := some (18, true) }) rfl (fun K hK => ?_) AllReadyH.nil)
  refine step_run' (by kernel_rfl) (.string (secStr Z)) (exec_convert 22 9 (.tmp 82) rfl (.slice (some ⟨_, 0, none⟩) 64 64) _ rfl (conv_sec (heap_alloc_last _ _) 0 64 64 LZ.out.2 LZ.out.1)) ?_
  refine hK.out _ _ (hHeld) (fun hHeld => ?_)
  clear hK K
  try simp only [Act.put, List.setIfInBounds_toArray, List.set_cons_zero, List.set_cons_succ]
  refine wpAnyH_take (i := 23) (oi := { dst := some 84, op := Op.binOp BinOp.eql 9 (Operand.tmp 81) (Operand.tmp 83) 9, type := 4, pos := "more.go:53", after := #[{ on := 20, ground := Ground.data }, { on := 22, ground := Ground.data }, { on := 18, ground := Ground.guard }], guard := some (18, true) }) (v := ?_) rfl (by kernel_rfl) (by kernel_rfl) (by kernel_rfl) (fun _ _ _ h => h) (Or.inl ⟨by rfl, ?hyra_74⟩) (by assumption) ?restra_74
  case hyra_74 => (intro w hSw; (try dsimp only at hSw); go_simp; try with_reducible rfl)
  try simp only [Act.put, List.setIfInBounds_toArray, List.set_cons_zero, List.set_cons_succ]
  refine wpAnyH_take (i := 24) (oi := { dst := some 85, op := Op.pick (Operand.tmp 79) (Operand.tmp 84) (Operand.const (Value.bool false)), type := 4, pos := "more.go:53", after := #[{ on := 18, ground := Ground.data }, { on := 23, ground := Ground.data }], guard := none }) (v := ?_) rfl (by kernel_rfl) (by kernel_rfl) (by kernel_rfl) (fun _ _ _ h => h) (Or.inl ⟨by rfl, ?hyra_77⟩) (by assumption) ?restra_77
  case hyra_77 => (intro w hSw; (try dsimp only at hSw); go_simp; try with_reducible rfl)
  try simp only [Act.put, List.setIfInBounds_toArray, List.set_cons_zero, List.set_cons_succ]
  refine wpAnyH_take (i := 25) (oi := { dst := some 86, op := Op.move (Operand.tmp 85), type := 4, pos := "more.go:53", after := #[{ on := 24, ground := Ground.data }, { on := 18, ground := Ground.chain }], guard := none }) (v := ?_) rfl (by kernel_rfl) (by kernel_rfl) (by kernel_rfl) (fun _ _ _ h => h) (Or.inl ⟨by rfl, ?hyra_80⟩) (by assumption) ?restra_80
  case hyra_80 => (intro w hSw; (try dsimp only at hSw); go_simp; try with_reducible rfl)
  try simp only [Act.put, List.setIfInBounds_toArray, List.set_cons_zero, List.set_cons_succ]
  refine wpAnyH_take (i := 26) (oi := { dst := some 87, op := Op.move (Operand.tmp 15), type := 22, pos := "more.go:53", after := #[{ on := 25, ground := Ground.guard }], guard := some (25, true) }) (v := ?_) rfl (by kernel_rfl) (by kernel_rfl) (by kernel_rfl) (fun _ _ _ h => h) (Or.inl ⟨by rfl, ?hyra_83⟩) (by assumption) ?restra_83
  case hyra_83 => (intro w hSw; (try dsimp only at hSw); go_simp; try with_reducible rfl)
  try simp only [Act.put, List.setIfInBounds_toArray, List.set_cons_zero, List.set_cons_succ]
  refine wpAnyH_take (i := 27) (oi := { dst := some 88, op := Op.convert 22 9 (Operand.tmp 87), type := 9, pos := "more.go:53", after := #[{ on := 26, ground := Ground.data }, { on := 25, ground := Ground.guard }], guard := some (25, true) }) (v := ?_) rfl (by kernel_rfl) (by kernel_rfl) (by kernel_rfl) (fun _ _ _ h => h) (Or.inl ⟨by rfl, ?hyra_86⟩) (by assumption) ?restra_86
  case hyra_86 => (intro w hSw; refine exec_convert 22 9 (.tmp 87) ?_ (.slice (some ⟨H2, 0, none⟩) 64 64) (.string (secStr F1)) ?_ (conv_sec (hSw.at FF.out.1) 0 64 64 LF.out.2 LF.out.1) <;> rfl)
  try simp only [Act.put, List.setIfInBounds_toArray, List.set_cons_zero, List.set_cons_succ]
  refine wpAnyH_take (i := 28) (oi := { dst := some 89, op := Op.move (Operand.tmp 9), type := 22, pos := "more.go:53", after := #[{ on := 25, ground := Ground.guard }], guard := some (25, true) }) (v := ?_) rfl (by kernel_rfl) (by kernel_rfl) (by kernel_rfl) (fun _ _ _ h => h) (Or.inl ⟨by rfl, ?hyra_89⟩) (by assumption) ?restra_89
  case hyra_89 => (intro w hSw; (try dsimp only at hSw); go_simp; try with_reducible rfl)
  try simp only [Act.put, List.setIfInBounds_toArray, List.set_cons_zero, List.set_cons_succ]
  refine wpAnyH_take (i := 29) (oi := { dst := some 90, op := Op.convert 22 9 (Operand.tmp 89), type := 9, pos := "more.go:53", after := #[{ on := 28, ground := Ground.data }, { on := 25, ground := Ground.guard }], guard := some (25, true) }) (v := ?_) rfl (by kernel_rfl) (by kernel_rfl) (by kernel_rfl) (fun _ _ _ h => h) (Or.inl ⟨by rfl, ?hyra_92⟩) (by assumption) ?restra_92
  case hyra_92 => (intro w hSw; refine exec_convert 22 9 (.tmp 89) ?_ (.slice (some ⟨v1.heap.size, 0, none⟩) 64 64) (.string (secStr F1)) ?_ (conv_sec (hSw.at FF.out.2.2) 0 64 64 LF.out.2 LF.out.1) <;> rfl)
  try simp only [Act.put, List.setIfInBounds_toArray, List.set_cons_zero, List.set_cons_succ]
  refine wpAnyH_take (i := 30) (oi := { dst := some 91, op := Op.binOp BinOp.eql 9 (Operand.tmp 88) (Operand.tmp 90) 9, type := 4, pos := "more.go:53", after := #[{ on := 27, ground := Ground.data }, { on := 29, ground := Ground.data }, { on := 25, ground := Ground.guard }], guard := some (25, true) }) (v := ?_) rfl (by kernel_rfl) (by kernel_rfl) (by kernel_rfl) (fun _ _ _ h => h) (Or.inl ⟨by rfl, ?hyra_95⟩) (by assumption) ?restra_95
  case hyra_95 => (intro w hSw; (try dsimp only at hSw); go_simp; try with_reducible rfl)
  try simp only [Act.put, List.setIfInBounds_toArray, List.set_cons_zero, List.set_cons_succ]
  refine wpAnyH_take (i := 31) (oi := { dst := some 92, op := Op.pick (Operand.tmp 86) (Operand.tmp 91) (Operand.const (Value.bool false)), type := 4, pos := "more.go:53", after := #[{ on := 25, ground := Ground.data }, { on := 30, ground := Ground.data }], guard := none }) (v := ?_) rfl (by kernel_rfl) (by kernel_rfl) (by kernel_rfl) (fun _ _ _ h => h) (Or.inl ⟨by rfl, ?hyra_98⟩) (by assumption) ?restra_98
  case hyra_98 => (intro w hSw; (try dsimp only at hSw); go_simp; try with_reducible rfl)
  try simp only [Act.put, List.setIfInBounds_toArray, List.set_cons_zero, List.set_cons_succ]
  refine wpAnyH_take (i := 32) (oi := { dst := some 93, op := Op.move (Operand.tmp 92), type := 4, pos := "more.go:53", after := #[{ on := 31, ground := Ground.data }, { on := 25, ground := Ground.chain }], guard := none }) (v := ?_) rfl (by kernel_rfl) (by kernel_rfl) (by kernel_rfl) (fun _ _ _ h => h) (Or.inl ⟨by rfl, ?hyra_101⟩) (by assumption) ?restra_101
  case hyra_101 => (intro w hSw; (try dsimp only at hSw); go_simp; try with_reducible rfl)
  try simp only [Act.put, List.setIfInBounds_toArray, List.set_cons_zero, List.set_cons_succ]
  refine wpAnyH_take (i := 33) (oi := { dst := some 94, op := Op.move (Operand.tmp 6), type := 24, pos := "more.go:53", after := #[{ on := 32, ground := Ground.guard }], guard := some (32, true) }) (v := ?_) rfl (by kernel_rfl) (by kernel_rfl) (by kernel_rfl) (fun _ _ _ h => h) (Or.inl ⟨by rfl, ?hyra_104⟩) (by assumption) ?restra_104
  case hyra_104 => (intro w hSw; (try dsimp only at hSw); go_simp; try with_reducible rfl)
  try simp only [Act.put, List.setIfInBounds_toArray, List.set_cons_zero, List.set_cons_succ]
  refine wpAnyH_ready (rs := [34]) (by kernel_rfl) (by simp) (AllReadyH.cons (o := { dst := some 95, op := Op.call { callee := Callee.value (Operand.func 16), args := #[Operand.tmp 94], argTypes := #[24] }, type := 3, pos := "more.go:53", after := #[{ on := 33, ground := Ground.data }, { on := 32, ground := Ground.chain }, { on := 32, ground := Ground.guard }], guard := some (32, true) }) rfl (fun K hK => ?_) AllReadyH.nil)
  refine want_if (by kernel_rfl) ?_
  go_simp
  refine (steps_own hHeld.own).mono ?_
  rintro e w9 ⟨rfl, rfl⟩
  rw [HPS.out]
  refine hK.out _ _ (hHeld) (fun hHeld => ?_)
  clear hK K
  try simp only [Act.put, List.setIfInBounds_toArray, List.set_cons_zero, List.set_cons_succ]
  refine wpAnyH_take (i := 35) (oi := { dst := some 96, op := Op.binOp BinOp.eql 3 (Operand.tmp 95) (Operand.const (Value.int IntKind.i64 3)) 3, type := 4, pos := "more.go:53", after := #[{ on := 34, ground := Ground.data }, { on := 32, ground := Ground.guard }], guard := some (32, true) }) (v := ?_) rfl (by kernel_rfl) (by kernel_rfl) (by kernel_rfl) (fun _ _ _ h => h) (Or.inl ⟨by rfl, ?hyra_116⟩) (by assumption) ?restra_116
  case hyra_116 => (intro w hSw; (try dsimp only at hSw); go_simp; try with_reducible rfl)
  try simp only [Act.put, List.setIfInBounds_toArray, List.set_cons_zero, List.set_cons_succ]
  refine wpAnyH_take (i := 36) (oi := { dst := some 97, op := Op.pick (Operand.tmp 93) (Operand.tmp 96) (Operand.const (Value.bool false)), type := 4, pos := "more.go:53", after := #[{ on := 32, ground := Ground.data }, { on := 35, ground := Ground.data }], guard := none }) (v := ?_) rfl (by kernel_rfl) (by kernel_rfl) (by kernel_rfl) (fun _ _ _ h => h) (Or.inl ⟨by rfl, ?hyra_119⟩) (by assumption) ?restra_119
  case hyra_119 => (intro w hSw; (try dsimp only at hSw); go_simp; try with_reducible rfl)
  try simp only [Act.put, List.setIfInBounds_toArray, List.set_cons_zero, List.set_cons_succ]
  refine wpAnyH_take (i := 37) (oi := { dst := some 4, op := Op.assign (Operand.tmp 97), type := 4, pos := "more.go:53", after := #[{ on := 36, ground := Ground.data }, { on := 34, ground := Ground.chain }, { on := 0, ground := Ground.phase }, { on := 1, ground := Ground.phase }, { on := 2, ground := Ground.phase }, { on := 3, ground := Ground.phase }, { on := 4, ground := Ground.phase }, { on := 5, ground := Ground.phase }, { on := 6, ground := Ground.phase }, { on := 7, ground := Ground.phase }, { on := 8, ground := Ground.phase }, { on := 9, ground := Ground.phase }, { on := 10, ground := Ground.phase }, { on := 11, ground := Ground.phase }, { on := 12, ground := Ground.phase }, { on := 13, ground := Ground.phase }, { on := 14, ground := Ground.phase }, { on := 15, ground := Ground.phase }, { on := 16, ground := Ground.phase }, { on := 17, ground := Ground.phase }, { on := 18, ground := Ground.phase }, { on := 19, ground := Ground.phase }, { on := 20, ground := Ground.phase }, { on := 21, ground := Ground.phase }, { on := 22, ground := Ground.phase }, { on := 23, ground := Ground.phase }, { on := 24, ground := Ground.phase }, { on := 25, ground := Ground.phase }, { on := 26, ground := Ground.phase }, { on := 27, ground := Ground.phase }, { on := 28, ground := Ground.phase }, { on := 29, ground := Ground.phase }, { on := 30, ground := Ground.phase }, { on := 31, ground := Ground.phase }, { on := 32, ground := Ground.phase }, { on := 33, ground := Ground.phase }, { on := 34, ground := Ground.phase }, { on := 35, ground := Ground.phase }, { on := 36, ground := Ground.phase }], guard := none }) (v := ?_) rfl (by kernel_rfl) (by kernel_rfl) (by kernel_rfl) (fun _ _ _ h => h) (Or.inl ⟨by rfl, ?hyra_122⟩) (by assumption) ?restra_122
  case hyra_122 => (intro w hSw; (try dsimp only at hSw); go_simp; try with_reducible rfl)
  try simp only [Act.put, List.setIfInBounds_toArray, List.set_cons_zero, List.set_cons_succ]
  refine wpAnyH_done (by kernel_rfl) ?_ _
  have HB := hHeld.base
  clear hHeld h10
  go_wp2_with fail
  go_ret
  exact ⟨rfl, HB⟩
end Go.Proofs.Ytpnijopbbbgffaa.plantw
