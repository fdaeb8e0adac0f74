/- Walks of layer 3's statements: shown. Conditions: as each theorem says. -/
import Derived.Test.YtpnijopbbbgffaaPlantF
import Derived.Deep.RegionHeld3
import Derived.Deep.QuietTactic
import Derived.BigQuiet
namespace Go.Proofs.Ytpnijopbbbgffaa.plantw
open Go.RowKit
open Go.Proofs.Ytpnijopbbbgffaa.plantp
open Go.Proofs.Ytpnijopbbbgffaa.mapfn
open Go.Proofs.Ytpnijopbbbgffaa.buf
set_option maxHeartbeats 4000000 in
set_option maxRecDepth 100000 in
theorem shown_any (w : World) : Calls Try.prog 10 #[] w fun e w' => e = .returned (.bool true) ∧ Below w.heap.size w w' := by
  have hb0 : Below w.heap.size w (w.alloc (.cells #[.int .i64 4] 3)) := (Below.refl _ _).alloc (Nat.le_refl _) _
  have HN := Lib.hid (new_own hb0 (ints_lit (zs := [4]) (heap_alloc_last w (.cells #[.int .i64 4] 3)) (by decide)) (by decide))
  have F1 : Hid (∀ W, Calls Try.prog 18 #[.int .u8 1] W (SecAt (List.replicate 64 1) W)) := Lib.hid fun W => full_any 1 W
  have F2 : Hid (∀ W, Calls Try.prog 18 #[.int .u8 2] W (SecAt (List.replicate 64 2) W)) := Lib.hid fun W => full_any 2 W
  go_enter Try.func10, Try.ntmps10
  go_wp2_with fail
  refine HN.out.mono ?_
  rintro e w1 ⟨g, rfl, h1⟩
  go_wp2_with fail
  refine (F1.out _).mono ?_
  rintro e w2 ⟨H1, rfl, b2, s2, c2⟩
  go_wp2_with fail
  refine (write_own (n := 64) rfl h1 b2 s2 c2 (by decide) 0 0).mono ?_
  rintro e w3 ⟨he, h3⟩
  have q3 : ((PS.new (List.map Int.toNat [4])).write 0 0 (List.replicate 64 1)).2 = 0 := by decide
  rw [q3] at he
  obtain rfl := he
  go_wp2_with fail
  refine (F2.out _).mono ?_
  rintro e w4 ⟨H2, rfl, b4, s4, c4⟩
  go_wp2_with fail
  refine (write_own (n := 64) rfl h3 b4 s4 c4 (by decide) 0 0).mono ?_
  rintro e w5 ⟨he, h5⟩
  have q5 : (((PS.new (List.map Int.toNat [4])).write 0 0 (List.replicate 64 1)).1.write 0 0 (List.replicate 64 2)).2 = 0 := by decide
  rw [q5] at he
  obtain rfl := he
  have h6 := h5.below ((Below.refl _ _).alloc (Nat.le_refl _) (.cells #[.int .i64 1, .int .i64 2] 3))
  have HBT := Lib.hid (boot_own h6 (by decide) (ints_lit (zs := [1, 2]) (heap_alloc_last w5 (.cells #[.int .i64 1, .int .i64 2] 3)) (by decide)))
  go_wp2_with fail
  refine HBT.out.mono ?_
  rintro e w7 ⟨rfl, h7⟩
  go_wp2_with fail
  refine (read_own h7 0 0).mono ?_
  rintro e w8 ⟨b8, ⟨n8, _⟩ | ⟨_, H3, rfl, s8, c8⟩⟩
  · exact absurd (by decide) n8
  have hsec : ((((PS.new (List.map Int.toNat [4])).write 0 0 (List.replicate 64 1)).1.write 0 0 (List.replicate 64 2)).1.boot [1, 2]).sec (Int.toNat 0) (Int.toNat 0) = List.replicate 32 2 ++ List.replicate 32 1 := by decide
  rw [hsec] at c8
  obtain ⟨L1, e1⟩ : ∃ L : Sec, List.replicate 64 1 = L := ⟨_, rfl⟩
  obtain ⟨L2, e2⟩ : ∃ L : Sec, List.replicate 64 2 = L := ⟨_, rfl⟩
  obtain ⟨A, e3⟩ : ∃ L : Sec, List.replicate 32 2 ++ List.replicate 32 1 = L := ⟨_, rfl⟩
  obtain ⟨x35, e35⟩ : ∃ L : Sec, (A.drop 0).take 64 = L := ⟨_, rfl⟩
  obtain ⟨x38, e38⟩ : ∃ L : Sec, (L2.drop 0).take 32 = L := ⟨_, rfl⟩
  obtain ⟨x41, e41⟩ : ∃ L : Sec, (L1.drop 32).take 32 = L := ⟨_, rfl⟩
  have hcmp : ((secStr x35).toList == (secStr x38 ++ secStr x41).toList) = true := by
    rw [secStr_add, secStr_eq, ← e35, ← e38, ← e41, ← e3, ← e1, ← e2]
    decide
  have hsum : ¬ 9223372036854775807 < (secStr x38).size + (secStr x41).size := by
    rw [secStr_size, secStr_size, ← e38, ← e41, ← e1, ← e2]
    decide
  have l1 : Hid (L1.length = 64) := Lib.hid (by rw [← e1]; rfl)
  have l2 : Hid (L2.length = 64) := Lib.hid (by rw [← e2]; rfl)
  have l3 : Hid (A.length = 64) := Lib.hid (by rw [← e3]; rfl)
  have F1' : Hid (∀ W, Calls Try.prog 18 #[.int .u8 1] W (SecAt L1 W)) := by rw [← e1]; exact F1
  have F2' : Hid (∀ W, Calls Try.prog 18 #[.int .u8 2] W (SecAt L2 W)) := by rw [← e2]; exact F2
  rw [e3] at c8
  have h35 := Lib.hid e35
  have h38 := Lib.hid e38
  have h41 := Lib.hid e41
  have q3' := Lib.hid (And.intro q3 q5)
  have h7' := Lib.hid h7
  clear e1 e2 e3 e35 e38 e41 hsec q3 q5 F1 F2 c2 c4 h1 h3 h5 h6 h7 HN HBT
  go_wp2_with fail
  refine wp_region_held_drew (S := (fun W => W.heap[H3]? = some (.cells (secA A) 5 (0, 0)))) (by kernel_rfl) (c8) (fun hHeld => ?_)
  refine wpAnyH_take (i := 0) (oi := { dst := some 34, op := Op.move (Operand.tmp 5), type := 22, pos := "law.go:29", after := #[], guard := none }) (v := ?_) rfl (by kernel_rfl) (by kernel_rfl) (by kernel_rfl) (fun _ _ _ h => h) (Or.inl ⟨by rfl, ?hyr8_1⟩) (by assumption) ?restr8_1
  case hyr8_1 => (intro w hSw; (try dsimp only at hSw); go_simp; try with_reducible rfl)
  try simp only [Act.put, List.setIfInBounds_toArray, List.set_cons_zero, List.set_cons_succ]
  refine wpAnyH_take (i := 1) (oi := { dst := some 35, op := Op.convert 22 9 (Operand.tmp 34), type := 9, pos := "law.go:29", after := #[{ on := 0, ground := Ground.data }], guard := none }) (v := ?_) rfl (by kernel_rfl) (by kernel_rfl) (by kernel_rfl) (fun _ _ _ h => h) (Or.inl ⟨by rfl, ?hyr8_4⟩) (by assumption) ?restr8_4
  case hyr8_4 => (intro w hSw; refine exec_convert 22 9 (.tmp 34) ?_ (.slice (some ⟨H3, 0, none⟩) 64 64) (.string (secStr x35)) ?_ (conv_sec hSw 0 64 64 (by have := l3.out; omega) h35.out) <;> rfl)
  try simp only [Act.put, List.setIfInBounds_toArray, List.set_cons_zero, List.set_cons_succ]
  refine wpAnyH_ready (rs := [2]) (by kernel_rfl) (by simp) (AllReadyH.cons (o := { dst := some 36, op := Op.call { callee := Callee.value (Operand.func 18), args := #[Operand.const (Value.int IntKind.u8 2)], argTypes := #[5] }, type := 22, pos := "law.go:29", after := #[], guard := none }) rfl (fun K hK => ?_) AllReadyH.nil)
  go_simp
  refine (F2'.out _).mono ?_
  rintro e w9 ⟨H4, rfl, b9, s9, c9⟩
  refine hK.out _ _ ((b9.block H3 (Array.getElem?_eq_some_iff.1 hHeld).1).trans hHeld) (fun hHeld => ?_)
  clear hK K
  try simp only [Act.put, List.setIfInBounds_toArray, List.set_cons_zero, List.set_cons_succ]
  refine wpAnyH_take (i := 3) (oi := { dst := some 37, op := Op.slice 22 (Operand.tmp 36) none (some (Operand.const (Value.int IntKind.i64 32))) none, type := 22, pos := "law.go:29", after := #[{ on := 2, ground := Ground.data }], guard := none }) (v := ?_) rfl (by kernel_rfl) (by kernel_rfl) (by kernel_rfl) (fun _ _ _ h => h) (Or.inl ⟨by rfl, ?hyr8_14⟩) (by assumption) ?restr8_14
  case hyr8_14 => (intro w hSw; (try dsimp only at hSw); go_simp; try with_reducible rfl)
  try simp only [Act.put, List.setIfInBounds_toArray, List.set_cons_zero, List.set_cons_succ]
  refine wpAnyH_ready (rs := [4, 5]) (by kernel_rfl) (by simp) (AllReadyH.cons (o := { dst := some 38, op := Op.convert 22 9 (Operand.tmp 37), type := 9, pos := "law.go:29", after := #[{ on := 3, ground := Ground.data }], guard := none }) rfl (fun K hK => ?_) (AllReadyH.cons (o := { dst := some 39, op := Op.call { callee := Callee.value (Operand.func 18), args := #[Operand.const (Value.int IntKind.u8 1)], argTypes := #[5] }, type := 22, pos := "law.go:29", after := #[{ on := 2, ground := Ground.chain }], guard := none }) rfl (fun K hK => ?_) AllReadyH.nil))
  · refine step_run rfl (.string (secStr x38)) (exec_convert 22 9 (.tmp 37) rfl (.slice (some ⟨H4, 0, none⟩) 32 64) _ rfl (conv_sec (by first | exact c9 | exact (b10.block H4 (Array.getElem?_eq_some_iff.1 c9).1).trans c9) 0 32 64 (by have := l2.out; omega) h38.out)) ?_
    refine hK.out _ _ (hHeld) (fun hHeld => ?_)
    clear hK K
    try simp only [Act.put, List.setIfInBounds_toArray, List.set_cons_zero, List.set_cons_succ]
    refine wpAnyH_ready (rs := [5]) (by kernel_rfl) (by simp) (AllReadyH.cons (o := { dst := some 39, op := Op.call { callee := Callee.value (Operand.func 18), args := #[Operand.const (Value.int IntKind.u8 1)], argTypes := #[5] }, type := 22, pos := "law.go:29", after := #[{ on := 2, ground := Ground.chain }], guard := none }) rfl (fun K hK => ?_) AllReadyH.nil)
    go_simp
    refine (F1'.out _).mono ?_
    rintro e w10 ⟨H5, rfl, b10, s10, c10⟩
    refine hK.out _ _ ((b10.block H3 (Array.getElem?_eq_some_iff.1 hHeld).1).trans hHeld) (fun hHeld => ?_)
    clear hK K
    try simp only [Act.put, List.setIfInBounds_toArray, List.set_cons_zero, List.set_cons_succ]
    refine wpAnyH_take (i := 6) (oi := { dst := some 40, op := Op.slice 22 (Operand.tmp 39) (some (Operand.const (Value.int IntKind.i64 32))) none none, type := 22, pos := "law.go:29", after := #[{ on := 5, ground := Ground.data }], guard := none }) (v := ?_) rfl (by kernel_rfl) (by kernel_rfl) (by kernel_rfl) (fun _ _ _ h => h) (Or.inl ⟨by rfl, ?hyr8_29⟩) (by assumption) ?restr8_29
    case hyr8_29 => (intro w hSw; (try dsimp only at hSw); go_simp; try with_reducible rfl)
    try simp only [Act.put, List.setIfInBounds_toArray, List.set_cons_zero, List.set_cons_succ]
    refine wpAnyH_ready (rs := [7]) (by kernel_rfl) (by simp) (AllReadyH.cons (o := { dst := some 41, op := Op.convert 22 9 (Operand.tmp 40), type := 9, pos := "law.go:29", after := #[{ on := 6, ground := Ground.data }], guard := none }) rfl (fun K hK => ?_) AllReadyH.nil)
    refine step_run rfl (.string (secStr x41)) (exec_convert 22 9 (.tmp 40) rfl (.slice (some ⟨H5, 32, none⟩) 32 32) _ rfl (conv_sec c10 32 32 32 (by have := l1.out; omega) h41.out)) ?_
    refine hK.out _ _ (hHeld) (fun hHeld => ?_)
    clear hK K
    try simp only [Act.put, List.setIfInBounds_toArray, List.set_cons_zero, List.set_cons_succ]
    refine wpAnyH_take (i := 8) (oi := { dst := some 42, op := Op.binOp BinOp.add 9 (Operand.tmp 38) (Operand.tmp 41) 9, type := 9, pos := "law.go:29", after := #[{ on := 4, ground := Ground.data }, { on := 7, ground := Ground.data }], guard := none }) (v := ?_) rfl (by kernel_rfl) (by kernel_rfl) (by kernel_rfl) (fun _ _ _ h => h) (Or.inl ⟨by rfl, ?hyr8_37⟩) (by assumption) ?restr8_37
    case hyr8_37 => (intro w hSw; (try dsimp only at hSw); go_simp; try with_reducible rfl)
    try simp only [Act.put, List.setIfInBounds_toArray, List.set_cons_zero, List.set_cons_succ]
    refine wpAnyH_take (i := 9) (oi := { dst := some 43, op := Op.binOp BinOp.eql 9 (Operand.tmp 35) (Operand.tmp 42) 9, type := 4, pos := "law.go:29", after := #[{ on := 1, ground := Ground.data }, { on := 8, ground := Ground.data }], guard := none }) (v := ?_) rfl (by kernel_rfl) (by kernel_rfl) (by kernel_rfl) (fun _ _ _ h => h) (Or.inl ⟨by rfl, ?hyr8_40⟩) (by assumption) ?restr8_40
    case hyr8_40 => (intro w hSw; (try dsimp only at hSw); go_simp; try with_reducible rfl)
    try simp only [Act.put, List.setIfInBounds_toArray, List.set_cons_zero, List.set_cons_succ]
    refine wpAnyH_take (i := 10) (oi := { dst := some 7, op := Op.assign (Operand.tmp 43), type := 4, pos := "law.go:29", after := #[{ on := 9, ground := Ground.data }, { on := 5, ground := Ground.chain }, { on := 0, ground := Ground.phase }, { on := 1, ground := Ground.phase }, { on := 2, ground := Ground.phase }, { on := 3, ground := Ground.phase }, { on := 4, ground := Ground.phase }, { on := 5, ground := Ground.phase }, { on := 6, ground := Ground.phase }, { on := 7, ground := Ground.phase }, { on := 8, ground := Ground.phase }, { on := 9, ground := Ground.phase }], guard := none }) (v := ?_) rfl (by kernel_rfl) (by kernel_rfl) (by kernel_rfl) (fun _ _ _ h => h) (Or.inl ⟨by rfl, ?hyr8_43⟩) (by assumption) ?restr8_43
    case hyr8_43 => (intro w hSw; (try dsimp only at hSw); go_simp; try with_reducible rfl)
    try simp only [Act.put, List.setIfInBounds_toArray, List.set_cons_zero, List.set_cons_succ]
    refine wpAnyH_done (by kernel_rfl) ?_ _
    have h10 := ((h7'.out.below b8).below (⟨b9.os, b9.tape, b9.output, b9.size, b9.block⟩ : Below w8.heap.size w8 w9)).below b10
    clear h7' c8 c9 c10 b8 b9 b10 hHeld hcmp hsum
    go_wp2_with fail
    refine (fuse_own h10 0 (by decide)).mono ?_
    rintro e w11 ⟨rfl, h11⟩
    go_wp2_with fail
    refine (flush_own h11 (by decide) 0).mono ?_
    rintro e w12 ⟨he, h12⟩
    have q12 : (((((((PS.new (List.map Int.toNat [4])).write 0 0 (List.replicate 64 1)).1.write 0 0 (List.replicate 64 2)).1.boot [1, 2]).fuseAt 0).flushAt 0)).2 = 2 := by decide
    rw [q12] at he
    obtain rfl := he
    have q13 : (!(((((((PS.new (List.map Int.toNat [4])).write 0 0 (List.replicate 64 1)).1.write 0 0 (List.replicate 64 2)).1.boot [1, 2]).fuseAt 0).flushAt 0)).1.off) = false := by decide
    have q14 : (((((((PS.new (List.map Int.toNat [4])).write 0 0 (List.replicate 64 1)).1.write 0 0 (List.replicate 64 2)).1.boot [1, 2]).fuseAt 0).flushAt 0)).1.steps = 2 := by decide
    have H13 := Lib.hid (on_own h12)
    have H14 := Lib.hid (steps_own h12)
    rw [q13] at H13
    rw [q14] at H14
    have HBASE := Lib.hid h12.base
    clear q12 q13 q14 h10 h11 h12
    go_wp2_with fail
    refine H13.out.mono ?_
    rintro e w13 ⟨rfl, rfl⟩
    go_wp2_with fail
    refine H14.out.mono ?_
    rintro e w14 ⟨rfl, rfl⟩
    go_wp2_with fail
    go_ret
    exact ⟨rfl, HBASE.out⟩
  · go_simp
    refine (F1'.out _).mono ?_
    rintro e w10 ⟨H5, rfl, b10, s10, c10⟩
    refine hK.out _ _ ((b10.block H3 (Array.getElem?_eq_some_iff.1 hHeld).1).trans hHeld) (fun hHeld => ?_)
    clear hK K
    try simp only [Act.put, List.setIfInBounds_toArray, List.set_cons_zero, List.set_cons_succ]
    refine wpAnyH_take (i := 6) (oi := { dst := some 40, op := Op.slice 22 (Operand.tmp 39) (some (Operand.const (Value.int IntKind.i64 32))) none none, type := 22, pos := "law.go:29", after := #[{ on := 5, ground := Ground.data }], guard := none }) (v := ?_) rfl (by kernel_rfl) (by kernel_rfl) (by kernel_rfl) (fun _ _ _ h => h) (Or.inl ⟨by rfl, ?hyr8_54⟩) (by assumption) ?restr8_54
    case hyr8_54 => (intro w hSw; (try dsimp only at hSw); go_simp; try with_reducible rfl)
    try simp only [Act.put, List.setIfInBounds_toArray, List.set_cons_zero, List.set_cons_succ]
    refine wpAnyH_ready (rs := [4, 7]) (by kernel_rfl) (by simp) (AllReadyH.cons (o := { dst := some 38, op := Op.convert 22 9 (Operand.tmp 37), type := 9, pos := "law.go:29", after := #[{ on := 3, ground := Ground.data }], guard := none }) rfl (fun K hK => ?_) (AllReadyH.cons (o := { dst := some 41, op := Op.convert 22 9 (Operand.tmp 40), type := 9, pos := "law.go:29", after := #[{ on := 6, ground := Ground.data }], guard := none }) rfl (fun K hK => ?_) AllReadyH.nil))
    · refine step_run rfl (.string (secStr x38)) (exec_convert 22 9 (.tmp 37) rfl (.slice (some ⟨H4, 0, none⟩) 32 64) _ rfl (conv_sec (by first | exact c9 | exact (b10.block H4 (Array.getElem?_eq_some_iff.1 c9).1).trans c9) 0 32 64 (by have := l2.out; omega) h38.out)) ?_
      refine hK.out _ _ (hHeld) (fun hHeld => ?_)
      clear hK K
      try simp only [Act.put, List.setIfInBounds_toArray, List.set_cons_zero, List.set_cons_succ]
      refine wpAnyH_ready (rs := [7]) (by kernel_rfl) (by simp) (AllReadyH.cons (o := { dst := some 41, op := Op.convert 22 9 (Operand.tmp 40), type := 9, pos := "law.go:29", after := #[{ on := 6, ground := Ground.data }], guard := none }) rfl (fun K hK => ?_) AllReadyH.nil)
      refine step_run rfl (.string (secStr x41)) (exec_convert 22 9 (.tmp 40) rfl (.slice (some ⟨H5, 32, none⟩) 32 32) _ rfl (conv_sec c10 32 32 32 (by have := l1.out; omega) h41.out)) ?_
      refine hK.out _ _ (hHeld) (fun hHeld => ?_)
      clear hK K
      try simp only [Act.put, List.setIfInBounds_toArray, List.set_cons_zero, List.set_cons_succ]
      refine wpAnyH_take (i := 8) (oi := { dst := some 42, op := Op.binOp BinOp.add 9 (Operand.tmp 38) (Operand.tmp 41) 9, type := 9, pos := "law.go:29", after := #[{ on := 4, ground := Ground.data }, { on := 7, ground := Ground.data }], guard := none }) (v := ?_) rfl (by kernel_rfl) (by kernel_rfl) (by kernel_rfl) (fun _ _ _ h => h) (Or.inl ⟨by rfl, ?hyr8_67⟩) (by assumption) ?restr8_67
      case hyr8_67 => (intro w hSw; (try dsimp only at hSw); go_simp; try with_reducible rfl)
      try simp only [Act.put, List.setIfInBounds_toArray, List.set_cons_zero, List.set_cons_succ]
      refine wpAnyH_take (i := 9) (oi := { dst := some 43, op := Op.binOp BinOp.eql 9 (Operand.tmp 35) (Operand.tmp 42) 9, type := 4, pos := "law.go:29", after := #[{ on := 1, ground := Ground.data }, { on := 8, ground := Ground.data }], guard := none }) (v := ?_) rfl (by kernel_rfl) (by kernel_rfl) (by kernel_rfl) (fun _ _ _ h => h) (Or.inl ⟨by rfl, ?hyr8_70⟩) (by assumption) ?restr8_70
      case hyr8_70 => (intro w hSw; (try dsimp only at hSw); go_simp; try with_reducible rfl)
      try simp only [Act.put, List.setIfInBounds_toArray, List.set_cons_zero, List.set_cons_succ]
      refine wpAnyH_take (i := 10) (oi := { dst := some 7, op := Op.assign (Operand.tmp 43), type := 4, pos := "law.go:29", after := #[{ on := 9, ground := Ground.data }, { on := 5, ground := Ground.chain }, { on := 0, ground := Ground.phase }, { on := 1, ground := Ground.phase }, { on := 2, ground := Ground.phase }, { on := 3, ground := Ground.phase }, { on := 4, ground := Ground.phase }, { on := 5, ground := Ground.phase }, { on := 6, ground := Ground.phase }, { on := 7, ground := Ground.phase }, { on := 8, ground := Ground.phase }, { on := 9, ground := Ground.phase }], guard := none }) (v := ?_) rfl (by kernel_rfl) (by kernel_rfl) (by kernel_rfl) (fun _ _ _ h => h) (Or.inl ⟨by rfl, ?hyr8_73⟩) (by assumption) ?restr8_73
      case hyr8_73 => (intro w hSw; (try dsimp only at hSw); go_simp; try with_reducible rfl)
      try simp only [Act.put, List.setIfInBounds_toArray, List.set_cons_zero, List.set_cons_succ]
      refine wpAnyH_done (by kernel_rfl) ?_ _
      have h10 := ((h7'.out.below b8).below (⟨b9.os, b9.tape, b9.output, b9.size, b9.block⟩ : Below w8.heap.size w8 w9)).below b10
      clear h7' c8 c9 c10 b8 b9 b10 hHeld hcmp hsum
      go_wp2_with fail
      refine (fuse_own h10 0 (by decide)).mono ?_
      rintro e w11 ⟨rfl, h11⟩
      go_wp2_with fail
      refine (flush_own h11 (by decide) 0).mono ?_
      rintro e w12 ⟨he, h12⟩
      have q12 : (((((((PS.new (List.map Int.toNat [4])).write 0 0 (List.replicate 64 1)).1.write 0 0 (List.replicate 64 2)).1.boot [1, 2]).fuseAt 0).flushAt 0)).2 = 2 := by decide
      rw [q12] at he
      obtain rfl := he
      have q13 : (!(((((((PS.new (List.map Int.toNat [4])).write 0 0 (List.replicate 64 1)).1.write 0 0 (List.replicate 64 2)).1.boot [1, 2]).fuseAt 0).flushAt 0)).1.off) = false := by decide
      have q14 : (((((((PS.new (List.map Int.toNat [4])).write 0 0 (List.replicate 64 1)).1.write 0 0 (List.replicate 64 2)).1.boot [1, 2]).fuseAt 0).flushAt 0)).1.steps = 2 := by decide
      have H13 := Lib.hid (on_own h12)
      have H14 := Lib.hid (steps_own h12)
      rw [q13] at H13
      rw [q14] at H14
      have HBASE := Lib.hid h12.base
      clear q12 q13 q14 h10 h11 h12
      go_wp2_with fail
      refine H13.out.mono ?_
      rintro e w13 ⟨rfl, rfl⟩
      go_wp2_with fail
      refine H14.out.mono ?_
      rintro e w14 ⟨rfl, rfl⟩
      go_wp2_with fail
      go_ret
      exact ⟨rfl, HBASE.out⟩
    · refine step_run rfl (.string (secStr x41)) (exec_convert 22 9 (.tmp 40) rfl (.slice (some ⟨H5, 32, none⟩) 32 32) _ rfl (conv_sec c10 32 32 32 (by have := l1.out; omega) h41.out)) ?_
      refine hK.out _ _ (hHeld) (fun hHeld => ?_)
      clear hK K
      try simp only [Act.put, List.setIfInBounds_toArray, List.set_cons_zero, List.set_cons_succ]
      refine wpAnyH_ready (rs := [4]) (by kernel_rfl) (by simp) (AllReadyH.cons (o := { dst := some 38, op := Op.convert 22 9 (Operand.tmp 37), type := 9, pos := "law.go:29", after := #[{ on := 3, ground := Ground.data }], guard := none }) rfl (fun K hK => ?_) AllReadyH.nil)
      refine step_run rfl (.string (secStr x38)) (exec_convert 22 9 (.tmp 37) rfl (.slice (some ⟨H4, 0, none⟩) 32 64) _ rfl (conv_sec (by first | exact c9 | exact (b10.block H4 (Array.getElem?_eq_some_iff.1 c9).1).trans c9) 0 32 64 (by have := l2.out; omega) h38.out)) ?_
      refine hK.out _ _ (hHeld) (fun hHeld => ?_)
      clear hK K
      try simp only [Act.put, List.setIfInBounds_toArray, List.set_cons_zero, List.set_cons_succ]
      refine wpAnyH_take (i := 8) (oi := { dst := some 42, op := Op.binOp BinOp.add 9 (Operand.tmp 38) (Operand.tmp 41) 9, type := 9, pos := "law.go:29", after := #[{ on := 4, ground := Ground.data }, { on := 7, ground := Ground.data }], guard := none }) (v := ?_) rfl (by kernel_rfl) (by kernel_rfl) (by kernel_rfl) (fun _ _ _ h => h) (Or.inl ⟨by rfl, ?hyr8_87⟩) (by assumption) ?restr8_87
      case hyr8_87 => (intro w hSw; (try dsimp only at hSw); go_simp; try with_reducible rfl)
      try simp only [Act.put, List.setIfInBounds_toArray, List.set_cons_zero, List.set_cons_succ]
      refine wpAnyH_take (i := 9) (oi := { dst := some 43, op := Op.binOp BinOp.eql 9 (Operand.tmp 35) (Operand.tmp 42) 9, type := 4, pos := "law.go:29", after := #[{ on := 1, ground := Ground.data }, { on := 8, ground := Ground.data }], guard := none }) (v := ?_) rfl (by kernel_rfl) (by kernel_rfl) (by kernel_rfl) (fun _ _ _ h => h) (Or.inl ⟨by rfl, ?hyr8_90⟩) (by assumption) ?restr8_90
      case hyr8_90 => (intro w hSw; (try dsimp only at hSw); go_simp; try with_reducible rfl)
      try simp only [Act.put, List.setIfInBounds_toArray, List.set_cons_zero, List.set_cons_succ]
      refine wpAnyH_take (i := 10) (oi := { dst := some 7, op := Op.assign (Operand.tmp 43), type := 4, pos := "law.go:29", after := #[{ on := 9, ground := Ground.data }, { on := 5, ground := Ground.chain }, { on := 0, ground := Ground.phase }, { on := 1, ground := Ground.phase }, { on := 2, ground := Ground.phase }, { on := 3, ground := Ground.phase }, { on := 4, ground := Ground.phase }, { on := 5, ground := Ground.phase }, { on := 6, ground := Ground.phase }, { on := 7, ground := Ground.phase }, { on := 8, ground := Ground.phase }, { on := 9, ground := Ground.phase }], guard := none }) (v := ?_) rfl (by kernel_rfl) (by kernel_rfl) (by kernel_rfl) (fun _ _ _ h => h) (Or.inl ⟨by rfl, ?hyr8_93⟩) (by assumption) ?restr8_93
      case hyr8_93 => (intro w hSw; (try dsimp only at hSw); go_simp; try with_reducible rfl)
      try simp only [Act.put, List.setIfInBounds_toArray, List.set_cons_zero, List.set_cons_succ]
      refine wpAnyH_done (by kernel_rfl) ?_ _
      have h10 := ((h7'.out.below b8).below (⟨b9.os, b9.tape, b9.output, b9.size, b9.block⟩ : Below w8.heap.size w8 w9)).below b10
      clear h7' c8 c9 c10 b8 b9 b10 hHeld hcmp hsum
      go_wp2_with fail
      refine (fuse_own h10 0 (by decide)).mono ?_
      rintro e w11 ⟨rfl, h11⟩
      go_wp2_with fail
      refine (flush_own h11 (by decide) 0).mono ?_
      rintro e w12 ⟨he, h12⟩
      have q12 : (((((((PS.new (List.map Int.toNat [4])).write 0 0 (List.replicate 64 1)).1.write 0 0 (List.replicate 64 2)).1.boot [1, 2]).fuseAt 0).flushAt 0)).2 = 2 := by decide
      rw [q12] at he
      obtain rfl := he
      have q13 : (!(((((((PS.new (List.map Int.toNat [4])).write 0 0 (List.replicate 64 1)).1.write 0 0 (List.replicate 64 2)).1.boot [1, 2]).fuseAt 0).flushAt 0)).1.off) = false := by decide
      have q14 : (((((((PS.new (List.map Int.toNat [4])).write 0 0 (List.replicate 64 1)).1.write 0 0 (List.replicate 64 2)).1.boot [1, 2]).fuseAt 0).flushAt 0)).1.steps = 2 := by decide
      have H13 := Lib.hid (on_own h12)
      have H14 := Lib.hid (steps_own h12)
      rw [q13] at H13
      rw [q14] at H14
      have HBASE := Lib.hid h12.base
      clear q12 q13 q14 h10 h11 h12
      go_wp2_with fail
      refine H13.out.mono ?_
      rintro e w13 ⟨rfl, rfl⟩
      go_wp2_with fail
      refine H14.out.mono ?_
      rintro e w14 ⟨rfl, rfl⟩
      go_wp2_with fail
      go_ret
      exact ⟨rfl, HBASE.out⟩
end Go.Proofs.Ytpnijopbbbgffaa.plantw
