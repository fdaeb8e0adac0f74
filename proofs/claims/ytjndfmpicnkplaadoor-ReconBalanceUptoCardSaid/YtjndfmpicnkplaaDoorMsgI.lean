/- Layer 5: how a dialect writes a field. Conditions: as each theorem says. -/
import Derived.Test.YtjndfmpicnkplaaDoorMsgH
import Derived.Test.YtjndfmpicnkplaaDoorWWords
import Derived.Deep.RegionHeld3
namespace Go.Proofs.YtjndfmpicnkplaaDoor.msgw
open Go.RowKit
open Go.Proofs.YtjndfmpicnkplaaDoor.msgp
open Go.Proofs.YtjndfmpicnkplaaDoor.buf
/-- A field's kind, and its size in a dialect that leaves so many digits of an amount out. -/
def formF (no out : Int) : Option (Int × Int) := if h : fieldAt no < 17 then some (fieldsL[fieldAt no].2.1, fieldsL[fieldAt no].2.2 - (if no = 4 then out else 0)) else none
def formV (code : Int) : Option (Int × Int) → Value
  | none => .tuple #[.agg #[.int .i64 0, .int .i64 0, .int .i64 0], .bool false]
  | some (k, s) => .tuple #[.agg #[.int .i64 k, .int .i64 s, .int .i64 code], .bool true]
theorem info55s : (Tryd.prog.info? 55).map (·.size) = some 3 := by kernel_rfl
theorem fields_small : ∀ i (h : i < fieldsL.length), 0 ≤ fieldsL[i].2.2 ∧ fieldsL[i].2.2 ≤ 20 ∧ 1 ≤ fieldsL[i].2.1 ∧ fieldsL[i].2.1 ≤ 5 := by decide
theorem zero55 (w : World) : (zeroValue 55).run Tryd.prog w = .ok (.agg #[.int .i64 0, .int .i64 0, .int .i64 0]) w := (zero_of_info (P := Tryd.prog) (t := 55) (v := .agg #[.int .i64 0, .int .i64 0, .int .i64 0]) (n := 3) (by kernel_rfl)).1 w
theorem store_form {w : World} {g : Nat} {cur : Array Value} (h : w.heap[g]? = some (.cells cur 55 (0, 0))) (hc : cur.size = 3) (k s c : Int) :
    (storeVar 55 ⟨g, 0, none⟩ (.agg #[.int .i64 k, .int .i64 s, .int .i64 c])).run Tryd.prog w = .ok () (w.setRow g #[.int .i64 k, .int .i64 s, .int .i64 c]) := by
  have := run_storeVar_mid' (P := Tryd.prog) (ty := 55) (g := g) (o' := 0) (n := 3) (cs := #[.int .i64 k, .int .i64 s, .int .i64 c]) h info55s rfl (by omega) (by rw [Array.all_eq_true_iff_forall_mem]; intro u hu; simp at hu; rcases hu with rfl | rfl | rfl <;> rfl)
  rw [List.drop_of_length_le (by rw [Array.length_toList, hc]; exact Nat.le_refl 3)] at this
  exact this
set_option maxHeartbeats 4000000 in
set_option maxRecDepth 100000 in
theorem form_any {w : World} (hT : Tabs w) (code ver out no : Int) (ho : 0 ≤ out ∧ out ≤ 2) :
    Calls Tryd.prog 31 #[.agg #[.int .i64 code, .int .u8 ver, .int .i64 out], .int .i64 no] w fun e w' => e = .returned (formV code (formF no out)) ∧ Below w.heap.size w w' := by
  obtain ⟨B, eB⟩ : ∃ b, w.heap.size = b := ⟨_, rfl⟩
  obtain ⟨w0, e0⟩ : ∃ W, ((w.alloc (.cells #[.int .i64 code, .int .u8 ver, .int .i64 out] 75)).alloc (.cells #[.int .i64 no] 3)).alloc (.cells #[.int .i64 0, .int .i64 0, .int .i64 0] 55) = W := ⟨_, rfl⟩
  have b0 : Below w.heap.size w w0 := by rw [← e0]; exact (((Below.refl _ _).alloc (Nat.le_refl _) _).alloc (by simp) _).alloc (by simp; omega) _
  have s0 : w0.heap.size = B + 3 := by rw [← e0, ← eB]; simp
  have kd : w0.heap[B]? = some (.cells #[.int .i64 code, .int .u8 ver, .int .i64 out] 75 (0, 0)) := by
    rw [← e0, ← eB, Below.heap_alloc _ _ _ (by simp; omega), Below.heap_alloc _ _ _ (by simp)]
    exact heap_alloc_last _ _
  have kn : w0.heap[B + 1]? = some (.cells #[.int .i64 no] 3 (0, 0)) := by
    rw [← e0, ← eB, Below.heap_alloc _ _ _ (by simp)]
    have := heap_alloc_last (w.alloc (.cells #[.int .i64 code, .int .u8 ver, .int .i64 out] 75)) (.cells #[.int .i64 no] 3)
    simpa using this
  have kr : w0.heap[B + 2]? = some (.cells #[.int .i64 0, .int .i64 0, .int .i64 0] 55 (0, 0)) := by
    rw [← e0, ← eB]
    have := heap_alloc_last ((w.alloc (.cells #[.int .i64 code, .int .u8 ver, .int .i64 out] 75)).alloc (.cells #[.int .i64 no] 3)) (.cells #[.int .i64 0, .int .i64 0, .int .i64 0] 55)
    simpa using this
  have HI := Lib.hid (index_form (cells_at kn 0) (hT.below b0))
  have HT0 := Lib.hid (hT.below b0)
  have HB0 := Lib.hid b0
  have S0 := Lib.hid s0
  have KD := Lib.hid kd
  have KN := Lib.hid kn
  have KR := Lib.hid kr
  have E0 := Lib.hid e0
  have EB := Lib.hid eB
  have hFF : formF no out = formF no out := rfl
  clear b0 s0 kd kn kr e0 hT hFF
  go_enter Tryd.func31, Tryd.ntmps31
  go_wp2_with fail
  rw [E0.out]
  clear eB
  refine HI.out.mono ?_
  rintro e w1 ⟨rfl, b1⟩
  have HB1 := Lib.hid b1
  have r1 := (b1.block (B + 2) (by have := S0.out; omega)).trans KR.out
  have n1 : w1.cell? ⟨B + 1, 0, none⟩ = some (.int .i64 no) := b1.keptCell (cells_at KN.out 0)
  have d1 : w1.cell? ⟨B, 0, none⟩ = some (.int .i64 code) := b1.keptCell (cells_at KD.out 0)
  have d3 : w1.cell? ⟨B, 2, none⟩ = some (.int .i64 out) := b1.keptCell (cells_at KD.out 2)
  have R1 := Lib.hid r1
  by_cases hf : fieldAt no < 17
  · rw [if_pos hf]
    obtain ⟨q0, q1, q2⟩ := (HT0.out.below b1).fields (fieldAt no) hf
    obtain ⟨z0, z1, _, _⟩ := fields_small (fieldAt no) hf
    have hfv : formF no out = some (fieldsL[fieldAt no].2.1, fieldsL[fieldAt no].2.2 - (if no = 4 then out else 0)) := by unfold formF; rw [dif_pos hf]
    obtain ⟨x, ex⟩ : ∃ x, fieldsL[fieldAt no] = x := ⟨_, rfl⟩
    rw [ex] at q0 q1 q2 hfv z0 z1
    have HFV := Lib.hid hfv
    obtain ⟨k, ek⟩ : ∃ k, fieldAt no = k := ⟨_, rfl⟩
    rw [ek] at q0 q1 q2 hf
    rw [ek]
    obtain ⟨nn, kk, ss⟩ := x
    have hk17 : (k : Int) < 17 := by omega
    clear r1 b1 ex ek HI hfv q0
    go_wp2_with fail
    have bd : Below w1.heap.size w1 (w1.drew.alloc (.cells #[.int .i64 0, .int .i64 0, .int .i64 0] 55)) := (show Below w1.heap.size w1 w1.drew from ⟨rfl, rfl, rfl, Nat.le_refl _, fun _ _ => rfl⟩).alloc (Nat.le_refl _) _
    have K2 := Lib.hid (show (w1.drew.alloc (.cells #[.int .i64 0, .int .i64 0, .int .i64 0] 55)).heap[w1.heap.size]? = some (.cells #[.int .i64 0, .int .i64 0, .int .i64 0] 55 (0, 0)) from heap_alloc_last w1.drew _)
    have HA := Lib.hid (show _ ∧ _ ∧ _ from ⟨bd.keptCell d1, bd.keptCell q1, bd.keptCell q2⟩)
    have HBD := Lib.hid bd
    obtain ⟨w2, ew2⟩ : ∃ W, (w1.drew.alloc (.cells #[.int .i64 0, .int .i64 0, .int .i64 0] 55)).setRow w1.heap.size #[.int .i64 kk, .int .i64 ss, .int .i64 code] = W := ⟨_, rfl⟩
    have bd2 : Below w1.heap.size w1 w2 := by
      rw [← ew2]
      exact ⟨bd.os, bd.tape, bd.output, by simp, fun q hq => (setRow_other _ _ q _ (by omega)).trans (bd.block q hq)⟩
    have HS := Lib.hid (show _ ∧ _ ∧ _ from ⟨bd2.keptCell d1, bd2.keptCell q1, bd2.keptCell q2⟩)
    have HBD2 := Lib.hid bd2
    have HW2 := Lib.hid ew2
    have HFIN := Lib.hid (show ∃ g, w2.heap[w1.heap.size]? = some (.cells #[.int .i64 kk, .int .i64 ss, .int .i64 code] 55 (0, 0)) ∧ w2.cell? ⟨B + 1, 0, none⟩ = some (.int .i64 no) ∧ w2.cell? ⟨B, 2, none⟩ = some (.int .i64 out) ∧ w2.heap[B + 2]? = some (.cells #[.int .i64 0, .int .i64 0, .int .i64 0] 55 (0, 0)) ∧ w1.heap.size = g ∧ Below w.heap.size w w2 ∧ B + 3 ≤ g ∧ g < w2.heap.size from
      ⟨_, by rw [← ew2]; exact setRow_block K2.out, bd2.keptCell n1, bd2.keptCell d3, (bd2.block (B + 2) (by have := HB1.out.size; have := S0.out; omega)).trans R1.out, rfl, by have b01 := HB0.out.trans (HB1.out.mono HB0.out.size); exact b01.trans (bd2.mono b01.size), by have := HB1.out.size; have := S0.out; omega, by rw [← ew2]; simp⟩)
    clear bd bd2
    refine wp_region_held_drew (S := (fun W => W.cell? ⟨B, 0, none⟩ = some (.int .i64 code) ∧ W.cell? ⟨2, k * 3 + 1, none⟩ = some (.int .i64 kk) ∧ W.cell? ⟨2, k * 3 + 2, none⟩ = some (.int .i64 ss))) (by kernel_rfl) (⟨d1, q1, q2⟩) (fun hHeld => ?_)
    refine wpAnyH_take (i := 0) (oi := { dst := some 14, op := Op.move (Operand.tmp 6), type := 3, pos := "message.go:92", after := #[], guard := none }) (v := ?_) rfl (by kernel_rfl) (by kernel_rfl) (by kernel_rfl) (fun _ _ _ h => h) (Or.inl ⟨by rfl, ?hyfa1⟩) (by assumption) ?restfa1
    case hyfa1 => (intro w hSw; (try dsimp only at hSw); go_simp; try with_reducible rfl)
    try simp only [Act.put, List.setIfInBounds_toArray, List.set_cons_zero, List.set_cons_succ]
    refine wpAnyH_take (i := 1) (oi := { dst := some 15, op := Op.indexAddr 112 (Operand.global 2) (Operand.tmp 14), type := 0, pos := "message.go:92", after := #[{ on := 0, ground := Ground.data }], guard := none }) (v := ?_) rfl (by kernel_rfl) (by kernel_rfl) (by kernel_rfl) (fun _ _ _ h => h) (Or.inl ⟨by rfl, ?hyfa4⟩) (by assumption) ?restfa4
    case hyfa4 => (intro w hSw; (try dsimp only at hSw); go_simp; try with_reducible rfl)
    try simp only [Act.put, List.setIfInBounds_toArray, List.set_cons_zero, List.set_cons_succ]
    refine wpAnyH_take (i := 2) (oi := { dst := some 16, op := Op.fieldAddr 111 (Operand.tmp 15) 1, type := 0, pos := "message.go:92", after := #[{ on := 1, ground := Ground.data }], guard := none }) (v := ?_) rfl (by kernel_rfl) (by kernel_rfl) (by kernel_rfl) (fun _ _ _ h => h) (Or.inl ⟨by rfl, ?hyfa7⟩) (by assumption) ?restfa7
    case hyfa7 => (intro w hSw; (try dsimp only at hSw); go_simp; try with_reducible rfl)
    try simp only [Act.put, List.setIfInBounds_toArray, List.set_cons_zero, List.set_cons_succ]
    refine wpAnyH_take (i := 3) (oi := { dst := some 17, op := Op.load 3 (Operand.tmp 16), type := 3, pos := "message.go:92", after := #[{ on := 2, ground := Ground.data }], guard := none }) (v := ?_) rfl (by kernel_rfl) (by kernel_rfl) (by kernel_rfl) (fun _ _ _ h => h) (Or.inl ⟨by rfl, ?hyfa10⟩) (by assumption) ?restfa10
    case hyfa10 => (intro w hSw; have q := hSw.2.1; clear hSw; (try dsimp only at q); go_simp; try with_reducible rfl)
    try simp only [Act.put, List.setIfInBounds_toArray, List.set_cons_zero, List.set_cons_succ]
    refine wpAnyH_take (i := 4) (oi := { dst := some 18, op := Op.move (Operand.tmp 6), type := 3, pos := "message.go:92", after := #[], guard := none }) (v := ?_) rfl (by kernel_rfl) (by kernel_rfl) (by kernel_rfl) (fun _ _ _ h => h) (Or.inl ⟨by rfl, ?hyfa13⟩) (by assumption) ?restfa13
    case hyfa13 => (intro w hSw; (try dsimp only at hSw); go_simp; try with_reducible rfl)
    try simp only [Act.put, List.setIfInBounds_toArray, List.set_cons_zero, List.set_cons_succ]
    refine wpAnyH_take (i := 5) (oi := { dst := some 19, op := Op.indexAddr 112 (Operand.global 2) (Operand.tmp 18), type := 0, pos := "message.go:92", after := #[{ on := 4, ground := Ground.data }], guard := none }) (v := ?_) rfl (by kernel_rfl) (by kernel_rfl) (by kernel_rfl) (fun _ _ _ h => h) (Or.inl ⟨by rfl, ?hyfa16⟩) (by assumption) ?restfa16
    case hyfa16 => (intro w hSw; (try dsimp only at hSw); go_simp; try with_reducible rfl)
    try simp only [Act.put, List.setIfInBounds_toArray, List.set_cons_zero, List.set_cons_succ]
    refine wpAnyH_take (i := 6) (oi := { dst := some 20, op := Op.fieldAddr 111 (Operand.tmp 19) 2, type := 0, pos := "message.go:92", after := #[{ on := 5, ground := Ground.data }], guard := none }) (v := ?_) rfl (by kernel_rfl) (by kernel_rfl) (by kernel_rfl) (fun _ _ _ h => h) (Or.inl ⟨by rfl, ?hyfa19⟩) (by assumption) ?restfa19
    case hyfa19 => (intro w hSw; (try dsimp only at hSw); go_simp; try with_reducible rfl)
    try simp only [Act.put, List.setIfInBounds_toArray, List.set_cons_zero, List.set_cons_succ]
    refine wpAnyH_take (i := 7) (oi := { dst := some 21, op := Op.load 3 (Operand.tmp 20), type := 3, pos := "message.go:92", after := #[{ on := 6, ground := Ground.data }], guard := none }) (v := ?_) rfl (by kernel_rfl) (by kernel_rfl) (by kernel_rfl) (fun _ _ _ h => h) (Or.inl ⟨by rfl, ?hyfa22⟩) (by assumption) ?restfa22
    case hyfa22 => (intro w hSw; have q := hSw.2.2; clear hSw; (try dsimp only at q); go_simp; try with_reducible rfl)
    try simp only [Act.put, List.setIfInBounds_toArray, List.set_cons_zero, List.set_cons_succ]
    refine wpAnyH_take (i := 8) (oi := { dst := some 22, op := Op.fieldAddr 75 (Operand.tmp 2) 0, type := 0, pos := "message.go:92", after := #[], guard := none }) (v := ?_) rfl (by kernel_rfl) (by kernel_rfl) (by kernel_rfl) (fun _ _ _ h => h) (Or.inl ⟨by rfl, ?hyfa25⟩) (by assumption) ?restfa25
    case hyfa25 => (intro w hSw; (try dsimp only at hSw); go_simp; try with_reducible rfl)
    try simp only [Act.put, List.setIfInBounds_toArray, List.set_cons_zero, List.set_cons_succ]
    refine wpAnyH_take (i := 9) (oi := { dst := some 23, op := Op.load 3 (Operand.tmp 22), type := 3, pos := "message.go:92", after := #[{ on := 8, ground := Ground.data }], guard := none }) (v := ?_) rfl (by kernel_rfl) (by kernel_rfl) (by kernel_rfl) (fun _ _ _ h => h) (Or.inl ⟨by rfl, ?hyfa28⟩) (by assumption) ?restfa28
    case hyfa28 => (intro w hSw; have q := hSw.1; clear hSw; (try dsimp only at q); go_simp; try with_reducible rfl)
    try simp only [Act.put, List.setIfInBounds_toArray, List.set_cons_zero, List.set_cons_succ]
    refine wpAnyH_take (i := 10) (oi := { dst := some 24, op := Op.build 55 #[(0, Operand.tmp 17), (1, Operand.tmp 21), (2, Operand.tmp 23)], type := 55, pos := "message.go:92", after := #[{ on := 3, ground := Ground.data }, { on := 7, ground := Ground.data }, { on := 9, ground := Ground.data }], guard := none }) (v := ?_) rfl (by kernel_rfl) (by kernel_rfl) (by kernel_rfl) (fun _ _ _ h => h) (Or.inl ⟨by rfl, ?hyfa31⟩) (by assumption) ?restfa31
    case hyfa31 => (intro w hSw; (try dsimp only at hSw); go_simp; try with_reducible rfl)
    try simp only [Act.put, List.setIfInBounds_toArray, List.set_cons_zero, List.set_cons_succ]
    refine wpAnyH_ready (rs := [11]) (by kernel_rfl) (by simp) (AllReadyH.cons (o := { dst := some 7, op := Op.alloc 55, type := 0, pos := "message.go:92", after := #[], guard := none }) rfl (fun K hK => ?_) AllReadyH.nil)
    refine step_run rfl _ (exec_alloc 55 rfl #[.int .i64 0, .int .i64 0, .int .i64 0] (zero55 _)) ?_
    refine hK.out _ _ (HA.out) (fun hHeld => ?_)
    clear hK K
    try simp only [Act.put, List.setIfInBounds_toArray, List.set_cons_zero, List.set_cons_succ]
    refine wpAnyH_ready (rs := [12]) (by kernel_rfl) (by simp) (AllReadyH.cons (o := { dst := none, op := Op.store 55 (Operand.tmp 7) (Operand.tmp 24), type := 0, pos := "message.go:92", after := #[{ on := 11, ground := Ground.data }, { on := 10, ground := Ground.data }, { on := 0, ground := Ground.phase }, { on := 1, ground := Ground.phase }, { on := 2, ground := Ground.phase }, { on := 3, ground := Ground.phase }, { on := 4, ground := Ground.phase }, { on := 5, ground := Ground.phase }, { on := 6, ground := Ground.phase }, { on := 7, ground := Ground.phase }, { on := 8, ground := Ground.phase }, { on := 9, ground := Ground.phase }, { on := 10, ground := Ground.phase }, { on := 11, ground := Ground.phase }], guard := none }) rfl (fun K hK => ?_) AllReadyH.nil)
    refine step_nov rfl (exec_store 55 (.tmp 7) (.tmp 24) rfl ⟨w1.heap.size, 0, none⟩ rfl _ rfl (store_form K2.out rfl kk ss code)) ?_
    refine hK.out _ _ ((by rw [HW2.out]; exact HS.out)) (fun hHeld => ?_)
    clear hK K
    refine wpAnyH_done (by kernel_rfl) ?_ _
    clear hHeld
    rw [HW2.out]
    clear d1 q1 q2
    obtain ⟨g, rg, ng, dg, rrg, hg, hbg, hgB, hgs⟩ := HFIN.out
    rw [hg] at rg
    rw [show w1.drew.heap.size = g from hg]
    have g0 : w2.cell? ⟨g, 0, none⟩ = some (.int .i64 kk) := cells_at rg 0
    have g1 : w2.cell? ⟨g, 1, none⟩ = some (.int .i64 ss) := cells_at rg 1
    have g2 : w2.cell? ⟨g, 2, none⟩ = some (.int .i64 code) := cells_at rg 2
    have gf : w2.frozen? ⟨g, 1, none⟩ = false := frozen_at rg 1
    by_cases h4 : no = 4
    · subst h4
      have HSS := Lib.hid (show wrap64 (ss - out) = ss - out from IntWalk.wrap64_in _ ⟨by omega, by omega⟩)
      have rrg' : (w2.setCell ⟨g, 1, none⟩ (.int .i64 (ss - out))).heap[B + 2]? = some (.cells #[.int .i64 0, .int .i64 0, .int .i64 0] 55 (0, 0)) := (Below.heap_setCell _ _ _ _ (by show B + 2 ≠ g; omega)).trans rrg
      have hst := store_form (g := B + 2) rrg' rfl kk (ss - out) code
      have hbg' : Below w.heap.size w (w2.setCell ⟨g, 1, none⟩ (.int .i64 (ss - out))) := hbg.setCell (by show w.heap.size ≤ g; have := EB.out; omega) _
      go_wp2_with (refine wpList_store_at rfl 55 (.tmp 4) (.tmp 33) rfl ⟨B + 2, 0, none⟩ rfl _ rfl hst ?_)
      refine bodyPost_ret (Go.Proofs.YtjndfmpicnkplaaDoorW.PrintWords.results_ct rfl _ _ (B + 2) _ #[.int .i64 kk, .int .i64 (ss - out), .int .i64 code] (0, 0) _ rfl (setRow_block rrg') Tryd.underlying55 rfl info55s) rfl ?_
      exact ⟨by rw [HFV.out]; rfl, ⟨hbg'.os, hbg'.tape, hbg'.output, by have := hbg'.size; simpa using this, fun q hq => (setRow_other _ _ q _ (by have := EB.out; omega)).trans (hbg'.block q hq)⟩⟩
    · have h4' : decide (no = 4) = false := by simpa using h4
      have hst := store_form (w := w2) (g := B + 2) rrg rfl kk ss code
      go_wp2_with (refine wpList_store_at rfl 55 (.tmp 4) (.tmp 33) rfl ⟨B + 2, 0, none⟩ rfl _ rfl hst ?_)
      refine bodyPost_ret (Go.Proofs.YtjndfmpicnkplaaDoorW.PrintWords.results_ct rfl _ _ (B + 2) _ #[.int .i64 kk, .int .i64 ss, .int .i64 code] (0, 0) _ rfl (setRow_block rrg) Tryd.underlying55 rfl info55s) rfl ?_
      exact ⟨by rw [HFV.out, if_neg h4, Int.sub_zero]; rfl, ⟨hbg.os, hbg.tape, hbg.output, by have := hbg.size; simpa using this, fun q hq => (setRow_other _ _ q _ (by have := EB.out; omega)).trans (hbg.block q hq)⟩⟩
  · rw [if_neg hf]
    have HFV := Lib.hid (show formF no out = none by unfold formF; rw [dif_neg hf])
    clear hf HI
    have hst := store_form (w := w1) (g := B + 2) r1 rfl 0 0 0
    have HST := Lib.hid hst
    have k6 : (w1.setRow (B + 2) #[.int .i64 0, .int .i64 0, .int .i64 0]).heap[B + 2]? = some (.cells #[.int .i64 0, .int .i64 0, .int .i64 0] 55 (0, 0)) := setRow_block r1
    have HBW := Lib.hid (show Below w.heap.size w (w1.setRow (B + 2) #[.int .i64 0, .int .i64 0, .int .i64 0]) from by
      have hb1 := HB0.out.trans (b1.mono HB0.out.size)
      have := EB.out
      exact ⟨hb1.os, hb1.tape, hb1.output, by simpa using hb1.size, fun q hq => (setRow_other _ _ q _ (by omega)).trans (hb1.block q hq)⟩)
    clear r1 b1 hst
    go_wp2_with (refine wpList_store_at rfl 55 (.tmp 4) (.tmp 13) rfl ⟨B + 2, 0, none⟩ rfl _ rfl HST.out ?_)
    refine bodyPost_ret (Go.Proofs.YtjndfmpicnkplaaDoorW.PrintWords.results_ct rfl _ _ (B + 2) _ #[.int .i64 0, .int .i64 0, .int .i64 0] (0, 0) _ rfl k6 Tryd.underlying55 rfl info55s) rfl ?_
    exact ⟨by rw [HFV.out]; rfl, HBW.out⟩
end Go.Proofs.YtjndfmpicnkplaaDoor.msgw
