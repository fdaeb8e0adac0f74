/- Layer 5: Set. Conditions: as each theorem says. -/
import Derived.Test.YtjndfmpicnkplaaDoorMsgF
import Derived.Deep.RegionHeld3
namespace Go.Proofs.YtjndfmpicnkplaaDoor.msgw
open Go.RowKit
open Go.Proofs.YtjndfmpicnkplaaDoor.msgp
open Go.Proofs.YtjndfmpicnkplaaDoor.buf
theorem info32s : (Tryd.prog.info? 32).map (·.size) = some 2 := by kernel_rfl
theorem spot_le (F : Flds) (no : Int) : spot F no ≤ F.length := List.findIdx_le_length
theorem _root_.Go.Proofs.YtjndfmpicnkplaaDoor.buf.Turn.keptCell {O : List Nat} {w w' : World} (t : Turn O w w') {x i : Nat} {u : Value} (h : w.cell? ⟨x, i, none⟩ = some u) (hx : x ∉ O) : w'.cell? ⟨x, i, none⟩ = some u :=
  (World.cell?_of_block (a := ⟨x, i, none⟩) (t.block x (World.block_lt_of_cell? w ⟨x, i, none⟩ h) hx)).trans h
set_option maxHeartbeats 4000000 in
set_option maxRecDepth 100000 in
theorem set_any {w : World} {v : Value} {F : Flds} (h : FsAt w v F) (hF : F.length ≤ 2097152) (ty no : Int) (t : ByteArray) :
    Calls Tryd.prog 10 #[.agg #[.int .i64 ty, v], .int .i64 no, .string t] w fun e w' => ∃ v', e = .returned (.agg #[.int .i64 ty, v']) ∧ FBuf w.heap.size w' v' (setM F no t) ∧ Below w.heap.size w w' := by
  obtain ⟨p, c, rfl⟩ := h.shape
  obtain ⟨Bm, eBm⟩ : ∃ b, w.heap.size = b := ⟨_, rfl⟩
  obtain ⟨w0, e0⟩ : ∃ W, ((w.alloc (.cells #[.int .i64 ty, .slice p F.length c] 32)).alloc (.cells #[.int .i64 no] 3)).alloc (.cells #[.int .i64 0, .slice none 0 0] 32) = W := ⟨_, rfl⟩
  have b0 : Below w.heap.size w w0 := by rw [← e0]; exact (((Below.refl _ _).alloc (Nat.le_refl _) _).alloc (by simp) _).alloc (by simp; omega) _
  have s0 : w0.heap.size = Bm + 3 := by rw [← e0, ← eBm]; simp
  have km : w0.heap[Bm]? = some (.cells #[.int .i64 ty, .slice p F.length c] 32 (0, 0)) := by
    rw [← e0, ← eBm, Below.heap_alloc _ _ _ (by simp; omega), Below.heap_alloc _ _ _ (by simp)]
    exact heap_alloc_last _ _
  have kn : w0.heap[Bm + 1]? = some (.cells #[.int .i64 no] 3 (0, 0)) := by
    rw [← e0, ← eBm, Below.heap_alloc _ _ _ (by simp)]
    have := heap_alloc_last (w.alloc (.cells #[.int .i64 ty, .slice p F.length c] 32)) (.cells #[.int .i64 no] 3)
    simpa using this
  have kr : w0.heap[Bm + 2]? = some (.cells #[.int .i64 0, .slice none 0 0] 32 (0, 0)) := by
    rw [← e0, ← eBm]
    have := heap_alloc_last ((w.alloc (.cells #[.int .i64 ty, .slice p F.length c] 32)).alloc (.cells #[.int .i64 no] 3)) (.cells #[.int .i64 0, .slice none 0 0] 32)
    simpa using this
  have HC := Lib.hid (clone_fs (h.below b0) hF)
  have HB0 := Lib.hid b0
  have S0 := Lib.hid s0
  have KM := Lib.hid km
  have KN := Lib.hid kn
  have KR := Lib.hid kr
  have E0 := Lib.hid e0
  have EB := Lib.hid eBm
  have c0 : w0.cell? ⟨Bm, 1, none⟩ = some (.slice p F.length c) := cells_at km 1
  clear h b0 s0 km kn kr e0
  go_enter Tryd.func10, Tryd.ntmps10
  go_wp2_with fail
  rw [E0.out]
  clear eBm
  refine HC.out.mono ?_
  rintro e w1 ⟨v1, rfl, f1, b1⟩
  have hn1 : w1.cell? ⟨Bm + 1, 0, none⟩ = some (.int .i64 no) := b1.keptCell (cells_at KN.out 0)
  have HD := Lib.hid (del_any hn1 f1 (fun k hk => by have := f1.new k hk; have := S0.out; omega) hF)
  have F1 := Lib.hid f1
  have HB1 := Lib.hid b1
  have N1 := Lib.hid hn1
  clear f1 b1 hn1 HC c0
  go_wp2_with fail
  refine HD.out.mono ?_
  rintro e w2 ⟨v2, rfl, f2, hbk, t2⟩
  have hO : ∀ k ∈ (bufBlock v1).toList, w0.heap.size ≤ k := fun k hk => F1.out.new k (by simpa using hk)
  have hB2 : Below w0.heap.size w0 w2 := HB1.out.trans (t2.below HB1.out.size hO)
  have hn2 : w2.cell? ⟨Bm + 1, 0, none⟩ = some (.int .i64 no) := hB2.keptCell (cells_at KN.out 0)
  have hdl : (delM F no).length ≤ F.length := List.length_filter_le _ _
  have HI := Lib.hid (index_past hn2 (f2.fs (by simp only [maxLen]; omega)))
  have F2 := Lib.hid f2
  have HB2 := Lib.hid hB2
  obtain ⟨p2, c2, rfl, _, _⟩ := f2.buf.shape
  obtain ⟨D, eD⟩ : ∃ D, delM F no = D := ⟨_, rfl⟩
  rw [eD] at HI F2 hdl
  rw [eD]
  have ED := Lib.hid eD
  clear f2 hbk t2 hO hB2 hn2 HD F1 HB1 N1 eD
  go_wp2_with fail
  refine HI.out.mono ?_
  rintro e w3 ⟨rfl, b3⟩
  have HB3 := Lib.hid (HB2.out.trans (b3.mono HB2.out.size))
  have F3 := Lib.hid (F2.out.below b3)
  have m3 : w3.cell? ⟨Bm, 0, none⟩ = some (.int .i64 ty) := HB3.out.keptCell (cells_at KM.out 0)
  have n3 : w3.cell? ⟨Bm + 1, 0, none⟩ = some (.int .i64 no) := HB3.out.keptCell (cells_at KN.out 0)
  obtain ⟨r, er⟩ : ∃ r : Int, (if D.findIdx (fun x => decide (no < x.1)) < D.length then ((D.findIdx (fun x => decide (no < x.1)) : Nat) : Int) else -1) = r := ⟨_, rfl⟩
  rw [er]
  have hk : (if r < 0 then (D.length : Int) else r) = (spot D no : Nat) := by
    rw [← er]
    have := spot_le D no
    unfold spot at this ⊢
    split <;> split <;> omega
  have hsp := spot_le D no
  obtain ⟨k, ek⟩ : ∃ k, spot D no = k := ⟨_, rfl⟩
  rw [ek] at hk hsp
  have EK := Lib.hid ek
  have HDL := Lib.hid (show D.length ≤ 2097152 by omega)
  clear b3 HI HB2 F2 er ek hdl
  by_cases hr : r < 0
  · rw [if_pos hr] at hk
    go_wp2_with fail
    obtain rfl : k = D.length := by omega
    have bd : Below w3.heap.size w3 (w3.drew.alloc (.cells #[.int .i64 no, .string t] 45)) := (show Below w3.heap.size w3 w3.drew from ⟨rfl, rfl, rfl, Nat.le_refl _, fun _ _ => rfl⟩).alloc (Nat.le_refl _) _
    have o4 : OneAt (w3.drew.alloc (.cells #[.int .i64 no, .string t] 45)) w3.heap.size (no, t) := heap_alloc_last w3.drew _
    have HINS := Lib.hid (insert_any (F3.out.below bd) (by have := HB3.out.size; have := bd.size; omega) o4 (fun q hq => by have := F3.out.buf.lt q hq; omega) HDL.out hsp)
    unfold InsAt at HINS
    obtain ⟨L, eL⟩ : ∃ L, D.take D.length ++ (no, t) :: D.drop D.length = L := ⟨_, rfl⟩
    rw [eL] at HINS
    have EL := Lib.hid eL
    clear eL
    have m4 : (w3.drew.alloc (.cells #[.int .i64 no, .string t] 45)).cell? ⟨Bm, 0, none⟩ = some (.int .i64 ty) := bd.keptCell m3
    have n4 : (w3.drew.alloc (.cells #[.int .i64 no, .string t] 45)).cell? ⟨Bm + 1, 0, none⟩ = some (.int .i64 no) := bd.keptCell n3
    have HK5 := Lib.hid (fun (w5 : World) (t5 : Turn (bufBlock (.slice p2 D.length c2)).toList (w3.drew.alloc (.cells #[.int .i64 no, .string t] 45)) w5) => show w5.heap[Bm + 2]? = some (.cells #[.int .i64 0, .slice none 0 0] 32 (0, 0)) ∧ w5.cell? ⟨Bm, 0, none⟩ = some (.int .i64 ty) ∧ w5.cell? ⟨Bm + 1, 0, none⟩ = some (.int .i64 no) from by
      have hno : ∀ q, q < Bm + 3 → q ∉ (bufBlock (.slice p2 D.length c2)).toList := fun q hq hm => by
        have := F3.out.new q (by simpa using hm)
        have := S0.out
        omega
      have hs := S0.out
      have h3 := HB3.out.size
      have h4 := bd.size
      exact ⟨((t5.block (Bm + 2) (by omega) (hno _ (by omega))).trans ((bd.block (Bm + 2) (by omega)).trans (HB3.out.block (Bm + 2) (by omega)))).trans KR.out, t5.keptCell m4 (hno _ (by omega)), t5.keptCell n4 (hno _ (by omega))⟩)
    have HK6 := Lib.hid (fun (w5 : World) (R : Array Value) (m5 : w5.cell? ⟨Bm, 0, none⟩ = some (.int .i64 ty)) (n5 : w5.cell? ⟨Bm + 1, 0, none⟩ = some (.int .i64 no)) => show (w5.setRow (Bm + 2) R).cell? ⟨Bm, 0, none⟩ = some (.int .i64 ty) ∧ (w5.setRow (Bm + 2) R).cell? ⟨Bm + 1, 0, none⟩ = some (.int .i64 no) from
      ⟨(World.cell?_of_block (a := ⟨Bm, 0, none⟩) (setRow_other _ _ Bm _ (by omega))).trans m5, (World.cell?_of_block (a := ⟨Bm + 1, 0, none⟩) (setRow_other _ _ (Bm + 1) _ (by omega))).trans n5⟩)
    have HFIN := Lib.hid (fun (w5 : World) (p5 : Option Addr) (c5 : Nat) (R : Array Value) (f5 : FBuf w0.heap.size w5 (.slice p5 L.length c5) L) (t5 : Turn (bufBlock (.slice p2 D.length c2)).toList (w3.drew.alloc (.cells #[.int .i64 no, .string t] 45)) w5) => show FBuf w.heap.size (w5.setRow (Bm + 2) R) (.slice p5 L.length c5) (setM F no t) ∧ Below w.heap.size w (w5.setRow (Bm + 2) R) from by
      have hs := S0.out
      have hb := EB.out
      have hL : L = setM F no t := by rw [← EL.out]; unfold setM insM; rw [ED.out, EK.out]
      refine ⟨⟨?_, fun g hg => by have := f5.new g hg; omega⟩, ?_⟩
      · rw [← hL]
        exact f5.buf.kept fun q hq => setRow_other _ _ q _ (by have := f5.new q hq; omega)
      · have b04 : Below w0.heap.size w0 (w3.drew.alloc (.cells #[.int .i64 no, .string t] 45)) := HB3.out.trans (bd.mono HB3.out.size)
        have b05 : Below w0.heap.size w0 w5 := b04.trans (t5.below b04.size (fun q hq => F3.out.new q (by simpa using hq)))
        have bw5 : Below w.heap.size w w5 := HB0.out.trans (b05.mono HB0.out.size)
        exact ⟨bw5.os, bw5.tape, bw5.output, by have := bw5.size; simpa using this, fun q hq => (setRow_other _ _ q _ (by omega)).trans (bw5.block q hq)⟩)
    clear bd o4
    refine wp_region_held_drew (S := (fun W => W.cell? ⟨Bm, 0, none⟩ = some (.int .i64 ty) ∧ W.cell? ⟨Bm + 1, 0, none⟩ = some (.int .i64 no))) (by kernel_rfl) (⟨m3, n3⟩) (fun hHeld => ?_)
    refine wpAnyH_take (i := 0) (oi := { dst := some 21, op := Op.fieldAddr 32 (Operand.tmp 3) 0, type := 0, pos := "message.go:299", after := #[], guard := none }) (v := ?_) rfl (by kernel_rfl) (by kernel_rfl) (by kernel_rfl) (fun _ _ _ h => h) (Or.inl ⟨by rfl, ?hysa1⟩) (by assumption) ?restsa1
    case hysa1 => (intro w hSw; (try dsimp only at hSw); go_simp; try with_reducible rfl)
    try simp only [Act.put, List.setIfInBounds_toArray, List.set_cons_zero, List.set_cons_succ]
    refine wpAnyH_take (i := 1) (oi := { dst := some 22, op := Op.load 3 (Operand.tmp 21), type := 3, pos := "message.go:299", after := #[{ on := 0, ground := Ground.data }], guard := none }) (v := ?_) rfl (by kernel_rfl) (by kernel_rfl) (by kernel_rfl) (fun _ _ _ h => h) (Or.inl ⟨by rfl, ?hysa4⟩) (by assumption) ?restsa4
    case hysa4 => (intro w hSw; have q1 := hSw.1; clear hSw; (try dsimp only at q1); go_simp; try with_reducible rfl)
    try simp only [Act.put, List.setIfInBounds_toArray, List.set_cons_zero, List.set_cons_succ]
    refine wpAnyH_take (i := 2) (oi := { dst := some 23, op := Op.move (Operand.tmp 7), type := 30, pos := "message.go:299", after := #[], guard := none }) (v := ?_) rfl (by kernel_rfl) (by kernel_rfl) (by kernel_rfl) (fun _ _ _ h => h) (Or.inl ⟨by rfl, ?hysa7⟩) (by assumption) ?restsa7
    case hysa7 => (intro w hSw; (try dsimp only at hSw); go_simp; try with_reducible rfl)
    try simp only [Act.put, List.setIfInBounds_toArray, List.set_cons_zero, List.set_cons_succ]
    refine wpAnyH_take (i := 3) (oi := { dst := some 24, op := Op.move (Operand.tmp 8), type := 3, pos := "message.go:299", after := #[], guard := none }) (v := ?_) rfl (by kernel_rfl) (by kernel_rfl) (by kernel_rfl) (fun _ _ _ h => h) (Or.inl ⟨by rfl, ?hysa10⟩) (by assumption) ?restsa10
    case hysa10 => (intro w hSw; (try dsimp only at hSw); go_simp; try with_reducible rfl)
    try simp only [Act.put, List.setIfInBounds_toArray, List.set_cons_zero, List.set_cons_succ]
    refine wpAnyH_take (i := 4) (oi := { dst := some 25, op := Op.load 3 (Operand.tmp 4), type := 3, pos := "message.go:299", after := #[], guard := none }) (v := ?_) rfl (by kernel_rfl) (by kernel_rfl) (by kernel_rfl) (fun _ _ _ h => h) (Or.inl ⟨by rfl, ?hysa13⟩) (by assumption) ?restsa13
    case hysa13 => (intro w hSw; have q1 := hSw.2; clear hSw; (try dsimp only at q1); go_simp; try with_reducible rfl)
    try simp only [Act.put, List.setIfInBounds_toArray, List.set_cons_zero, List.set_cons_succ]
    refine wpAnyH_take (i := 5) (oi := { dst := some 26, op := Op.move (Operand.tmp 2), type := 9, pos := "message.go:299", after := #[], guard := none }) (v := ?_) rfl (by kernel_rfl) (by kernel_rfl) (by kernel_rfl) (fun _ _ _ h => h) (Or.inl ⟨by rfl, ?hysa16⟩) (by assumption) ?restsa16
    case hysa16 => (intro w hSw; (try dsimp only at hSw); go_simp; try with_reducible rfl)
    try simp only [Act.put, List.setIfInBounds_toArray, List.set_cons_zero, List.set_cons_succ]
    refine wpAnyH_take (i := 6) (oi := { dst := some 27, op := Op.build 45 #[(0, Operand.tmp 25), (1, Operand.tmp 26)], type := 45, pos := "message.go:299", after := #[{ on := 4, ground := Ground.data }, { on := 5, ground := Ground.data }], guard := none }) (v := ?_) rfl (by kernel_rfl) (by kernel_rfl) (by kernel_rfl) (fun _ _ _ h => h) (Or.inl ⟨by rfl, ?hysa19⟩) (by assumption) ?restsa19
    case hysa19 => (intro w hSw; (try dsimp only at hSw); go_simp; try with_reducible rfl)
    try simp only [Act.put, List.setIfInBounds_toArray, List.set_cons_zero, List.set_cons_succ]
    refine wpAnyH_ready (rs := [7]) (by kernel_rfl) (by simp) (AllReadyH.cons (o := { dst := some 28, op := Op.buildSlice 30 1 #[(0, Operand.tmp 27)], type := 30, pos := "message.go:299", after := #[{ on := 6, ground := Ground.data }], guard := none }) rfl (fun K hK => ?_) AllReadyH.nil)
    refine step_run rfl _ (exec_buildSlice_one 30 45 (.tmp 27) rfl _ 2 24 Tryd.underlying30 info45f (by omega) #[.int .i64 no, .string t] rfl rfl) ?_
    refine hK.out _ _ (⟨m4, n4⟩) (fun hHeld => ?_)
    clear hK K
    try simp only [Act.put, List.setIfInBounds_toArray, List.set_cons_zero, List.set_cons_succ]
    refine wpAnyH_ready (rs := [8]) (by kernel_rfl) (by simp) (AllReadyH.cons (o := { dst := some 29, op := Op.call { callee := Callee.value (Operand.func 26), args := #[Operand.tmp 23, Operand.tmp 24, Operand.tmp 28], argTypes := #[30, 3, 30] }, type := 30, pos := "message.go:299", after := #[{ on := 2, ground := Ground.data }, { on := 3, ground := Ground.data }, { on := 7, ground := Ground.data }], guard := none }) rfl (fun K hK => ?_) AllReadyH.nil)
    go_simp
    refine HINS.out.mono ?_
    rintro e w5 ⟨v5, rfl, f5, t5⟩
    obtain ⟨k5, m5, n5⟩ := HK5.out w5 t5
    obtain ⟨p5, c5, rfl, _, _⟩ := f5.buf.shape
    have hst := run_storeVar_mid' (P := Tryd.prog) (ty := 32) (g := Bm + 2) (o' := 0) (n := 2) (cs := #[.int .i64 ty, .slice p5 L.length c5]) k5 info32s rfl (by simp) (by rw [Array.all_eq_true_iff_forall_mem]; intro u hu; simp at hu; rcases hu with rfl | rfl <;> rfl)
    refine hK.out _ _ (⟨m5, n5⟩) (fun hHeld => ?_)
    clear hK K
    try simp only [Act.put, List.setIfInBounds_toArray, List.set_cons_zero, List.set_cons_succ]
    refine wpAnyH_take (i := 9) (oi := { dst := some 30, op := Op.build 32 #[(0, Operand.tmp 22), (1, Operand.tmp 29)], type := 32, pos := "message.go:299", after := #[{ on := 1, ground := Ground.data }, { on := 8, ground := Ground.data }], guard := none }) (v := ?_) rfl (by kernel_rfl) (by kernel_rfl) (by kernel_rfl) (fun _ _ _ h => h) (Or.inl ⟨by rfl, ?hysa37⟩) (by assumption) ?restsa37
    case hysa37 => (intro w hSw; (try dsimp only at hSw); go_simp; try with_reducible rfl)
    try simp only [Act.put, List.setIfInBounds_toArray, List.set_cons_zero, List.set_cons_succ]
    refine wpAnyH_ready (rs := [10]) (by kernel_rfl) (by simp) (AllReadyH.cons (o := { dst := none, op := Op.store 32 (Operand.tmp 6) (Operand.tmp 30), type := 0, pos := "message.go:299", after := #[{ on := 9, ground := Ground.data }, { on := 8, ground := Ground.chain }, { on := 0, ground := Ground.phase }, { on := 1, ground := Ground.phase }, { on := 2, ground := Ground.phase }, { on := 3, ground := Ground.phase }, { on := 4, ground := Ground.phase }, { on := 5, ground := Ground.phase }, { on := 6, ground := Ground.phase }, { on := 7, ground := Ground.phase }, { on := 8, ground := Ground.phase }, { on := 9, ground := Ground.phase }], guard := none }) rfl (fun K hK => ?_) AllReadyH.nil)
    refine step_nov rfl (exec_store 32 (.tmp 6) (.tmp 30) rfl ⟨Bm + 2, 0, none⟩ rfl _ rfl hst) ?_
    refine hK.out _ _ (HK6.out w5 _ m5 n5) (fun hHeld => ?_)
    clear hK K
    refine wpAnyH_done (by kernel_rfl) ?_ _
    clear hHeld
    have k6 : (w5.setRow (Bm + 2) #[.int .i64 ty, .slice p5 L.length c5]).heap[Bm + 2]? = some (.cells #[.int .i64 ty, .slice p5 L.length c5] 32 (0, 0)) := setRow_block k5
    have HF5 := Lib.hid (HFIN.out w5 p5 c5 #[.int .i64 ty, .slice p5 L.length c5] f5 t5)
    go_wp2_with fail
    refine bodyPost_ret (results_cell_row rfl _ _ (Bm + 2) _ #[.int .i64 ty, .slice p5 L.length c5] (0, 0) _ rfl k6 Tryd.underlying32 rfl info32s) rfl ?_
    exact ⟨_, rfl, HF5.out⟩
  · rw [if_neg hr] at hk
    subst hk
    go_wp2_with fail
    have bd : Below w3.heap.size w3 (w3.drew.alloc (.cells #[.int .i64 no, .string t] 45)) := (show Below w3.heap.size w3 w3.drew from ⟨rfl, rfl, rfl, Nat.le_refl _, fun _ _ => rfl⟩).alloc (Nat.le_refl _) _
    have o4 : OneAt (w3.drew.alloc (.cells #[.int .i64 no, .string t] 45)) w3.heap.size (no, t) := heap_alloc_last w3.drew _
    have HINS := Lib.hid (insert_any (F3.out.below bd) (by have := HB3.out.size; have := bd.size; omega) o4 (fun q hq => by have := F3.out.buf.lt q hq; omega) HDL.out hsp)
    unfold InsAt at HINS
    obtain ⟨L, eL⟩ : ∃ L, D.take k ++ (no, t) :: D.drop k = L := ⟨_, rfl⟩
    rw [eL] at HINS
    have EL := Lib.hid eL
    clear eL
    have m4 : (w3.drew.alloc (.cells #[.int .i64 no, .string t] 45)).cell? ⟨Bm, 0, none⟩ = some (.int .i64 ty) := bd.keptCell m3
    have n4 : (w3.drew.alloc (.cells #[.int .i64 no, .string t] 45)).cell? ⟨Bm + 1, 0, none⟩ = some (.int .i64 no) := bd.keptCell n3
    have HK5 := Lib.hid (fun (w5 : World) (t5 : Turn (bufBlock (.slice p2 D.length c2)).toList (w3.drew.alloc (.cells #[.int .i64 no, .string t] 45)) w5) => show w5.heap[Bm + 2]? = some (.cells #[.int .i64 0, .slice none 0 0] 32 (0, 0)) ∧ w5.cell? ⟨Bm, 0, none⟩ = some (.int .i64 ty) ∧ w5.cell? ⟨Bm + 1, 0, none⟩ = some (.int .i64 no) from by
      have hno : ∀ q, q < Bm + 3 → q ∉ (bufBlock (.slice p2 D.length c2)).toList := fun q hq hm => by
        have := F3.out.new q (by simpa using hm)
        have := S0.out
        omega
      have hs := S0.out
      have h3 := HB3.out.size
      have h4 := bd.size
      exact ⟨((t5.block (Bm + 2) (by omega) (hno _ (by omega))).trans ((bd.block (Bm + 2) (by omega)).trans (HB3.out.block (Bm + 2) (by omega)))).trans KR.out, t5.keptCell m4 (hno _ (by omega)), t5.keptCell n4 (hno _ (by omega))⟩)
    have HK6 := Lib.hid (fun (w5 : World) (R : Array Value) (m5 : w5.cell? ⟨Bm, 0, none⟩ = some (.int .i64 ty)) (n5 : w5.cell? ⟨Bm + 1, 0, none⟩ = some (.int .i64 no)) => show (w5.setRow (Bm + 2) R).cell? ⟨Bm, 0, none⟩ = some (.int .i64 ty) ∧ (w5.setRow (Bm + 2) R).cell? ⟨Bm + 1, 0, none⟩ = some (.int .i64 no) from
      ⟨(World.cell?_of_block (a := ⟨Bm, 0, none⟩) (setRow_other _ _ Bm _ (by omega))).trans m5, (World.cell?_of_block (a := ⟨Bm + 1, 0, none⟩) (setRow_other _ _ (Bm + 1) _ (by omega))).trans n5⟩)
    have HFIN := Lib.hid (fun (w5 : World) (p5 : Option Addr) (c5 : Nat) (R : Array Value) (f5 : FBuf w0.heap.size w5 (.slice p5 L.length c5) L) (t5 : Turn (bufBlock (.slice p2 D.length c2)).toList (w3.drew.alloc (.cells #[.int .i64 no, .string t] 45)) w5) => show FBuf w.heap.size (w5.setRow (Bm + 2) R) (.slice p5 L.length c5) (setM F no t) ∧ Below w.heap.size w (w5.setRow (Bm + 2) R) from by
      have hs := S0.out
      have hb := EB.out
      have hL : L = setM F no t := by rw [← EL.out]; unfold setM insM; rw [ED.out, EK.out]
      refine ⟨⟨?_, fun g hg => by have := f5.new g hg; omega⟩, ?_⟩
      · rw [← hL]
        exact f5.buf.kept fun q hq => setRow_other _ _ q _ (by have := f5.new q hq; omega)
      · have b04 : Below w0.heap.size w0 (w3.drew.alloc (.cells #[.int .i64 no, .string t] 45)) := HB3.out.trans (bd.mono HB3.out.size)
        have b05 : Below w0.heap.size w0 w5 := b04.trans (t5.below b04.size (fun q hq => F3.out.new q (by simpa using hq)))
        have bw5 : Below w.heap.size w w5 := HB0.out.trans (b05.mono HB0.out.size)
        exact ⟨bw5.os, bw5.tape, bw5.output, by have := bw5.size; simpa using this, fun q hq => (setRow_other _ _ q _ (by omega)).trans (bw5.block q hq)⟩)
    clear bd o4
    refine wp_region_held_drew (S := (fun W => W.cell? ⟨Bm, 0, none⟩ = some (.int .i64 ty) ∧ W.cell? ⟨Bm + 1, 0, none⟩ = some (.int .i64 no))) (by kernel_rfl) (⟨m3, n3⟩) (fun hHeld => ?_)
    refine wpAnyH_take (i := 0) (oi := { dst := some 21, op := Op.fieldAddr 32 (Operand.tmp 3) 0, type := 0, pos := "message.go:299", after := #[], guard := none }) (v := ?_) rfl (by kernel_rfl) (by kernel_rfl) (by kernel_rfl) (fun _ _ _ h => h) (Or.inl ⟨by rfl, ?hysb1⟩) (by assumption) ?restsb1
    case hysb1 => (intro w hSw; (try dsimp only at hSw); go_simp; try with_reducible rfl)
    try simp only [Act.put, List.setIfInBounds_toArray, List.set_cons_zero, List.set_cons_succ]
    refine wpAnyH_take (i := 1) (oi := { dst := some 22, op := Op.load 3 (Operand.tmp 21), type := 3, pos := "message.go:299", after := #[{ on := 0, ground := Ground.data }], guard := none }) (v := ?_) rfl (by kernel_rfl) (by kernel_rfl) (by kernel_rfl) (fun _ _ _ h => h) (Or.inl ⟨by rfl, ?hysb4⟩) (by assumption) ?restsb4
    case hysb4 => (intro w hSw; have q1 := hSw.1; clear hSw; (try dsimp only at q1); go_simp; try with_reducible rfl)
    try simp only [Act.put, List.setIfInBounds_toArray, List.set_cons_zero, List.set_cons_succ]
    refine wpAnyH_take (i := 2) (oi := { dst := some 23, op := Op.move (Operand.tmp 7), type := 30, pos := "message.go:299", after := #[], guard := none }) (v := ?_) rfl (by kernel_rfl) (by kernel_rfl) (by kernel_rfl) (fun _ _ _ h => h) (Or.inl ⟨by rfl, ?hysb7⟩) (by assumption) ?restsb7
    case hysb7 => (intro w hSw; (try dsimp only at hSw); go_simp; try with_reducible rfl)
    try simp only [Act.put, List.setIfInBounds_toArray, List.set_cons_zero, List.set_cons_succ]
    refine wpAnyH_take (i := 3) (oi := { dst := some 24, op := Op.move (Operand.tmp 8), type := 3, pos := "message.go:299", after := #[], guard := none }) (v := ?_) rfl (by kernel_rfl) (by kernel_rfl) (by kernel_rfl) (fun _ _ _ h => h) (Or.inl ⟨by rfl, ?hysb10⟩) (by assumption) ?restsb10
    case hysb10 => (intro w hSw; (try dsimp only at hSw); go_simp; try with_reducible rfl)
    try simp only [Act.put, List.setIfInBounds_toArray, List.set_cons_zero, List.set_cons_succ]
    refine wpAnyH_take (i := 4) (oi := { dst := some 25, op := Op.load 3 (Operand.tmp 4), type := 3, pos := "message.go:299", after := #[], guard := none }) (v := ?_) rfl (by kernel_rfl) (by kernel_rfl) (by kernel_rfl) (fun _ _ _ h => h) (Or.inl ⟨by rfl, ?hysb13⟩) (by assumption) ?restsb13
    case hysb13 => (intro w hSw; have q1 := hSw.2; clear hSw; (try dsimp only at q1); go_simp; try with_reducible rfl)
    try simp only [Act.put, List.setIfInBounds_toArray, List.set_cons_zero, List.set_cons_succ]
    refine wpAnyH_take (i := 5) (oi := { dst := some 26, op := Op.move (Operand.tmp 2), type := 9, pos := "message.go:299", after := #[], guard := none }) (v := ?_) rfl (by kernel_rfl) (by kernel_rfl) (by kernel_rfl) (fun _ _ _ h => h) (Or.inl ⟨by rfl, ?hysb16⟩) (by assumption) ?restsb16
    case hysb16 => (intro w hSw; (try dsimp only at hSw); go_simp; try with_reducible rfl)
    try simp only [Act.put, List.setIfInBounds_toArray, List.set_cons_zero, List.set_cons_succ]
    refine wpAnyH_take (i := 6) (oi := { dst := some 27, op := Op.build 45 #[(0, Operand.tmp 25), (1, Operand.tmp 26)], type := 45, pos := "message.go:299", after := #[{ on := 4, ground := Ground.data }, { on := 5, ground := Ground.data }], guard := none }) (v := ?_) rfl (by kernel_rfl) (by kernel_rfl) (by kernel_rfl) (fun _ _ _ h => h) (Or.inl ⟨by rfl, ?hysb19⟩) (by assumption) ?restsb19
    case hysb19 => (intro w hSw; (try dsimp only at hSw); go_simp; try with_reducible rfl)
    try simp only [Act.put, List.setIfInBounds_toArray, List.set_cons_zero, List.set_cons_succ]
    refine wpAnyH_ready (rs := [7]) (by kernel_rfl) (by simp) (AllReadyH.cons (o := { dst := some 28, op := Op.buildSlice 30 1 #[(0, Operand.tmp 27)], type := 30, pos := "message.go:299", after := #[{ on := 6, ground := Ground.data }], guard := none }) rfl (fun K hK => ?_) AllReadyH.nil)
    refine step_run rfl _ (exec_buildSlice_one 30 45 (.tmp 27) rfl _ 2 24 Tryd.underlying30 info45f (by omega) #[.int .i64 no, .string t] rfl rfl) ?_
    refine hK.out _ _ (⟨m4, n4⟩) (fun hHeld => ?_)
    clear hK K
    try simp only [Act.put, List.setIfInBounds_toArray, List.set_cons_zero, List.set_cons_succ]
    refine wpAnyH_ready (rs := [8]) (by kernel_rfl) (by simp) (AllReadyH.cons (o := { dst := some 29, op := Op.call { callee := Callee.value (Operand.func 26), args := #[Operand.tmp 23, Operand.tmp 24, Operand.tmp 28], argTypes := #[30, 3, 30] }, type := 30, pos := "message.go:299", after := #[{ on := 2, ground := Ground.data }, { on := 3, ground := Ground.data }, { on := 7, ground := Ground.data }], guard := none }) rfl (fun K hK => ?_) AllReadyH.nil)
    go_simp
    refine HINS.out.mono ?_
    rintro e w5 ⟨v5, rfl, f5, t5⟩
    obtain ⟨k5, m5, n5⟩ := HK5.out w5 t5
    obtain ⟨p5, c5, rfl, _, _⟩ := f5.buf.shape
    have hst := run_storeVar_mid' (P := Tryd.prog) (ty := 32) (g := Bm + 2) (o' := 0) (n := 2) (cs := #[.int .i64 ty, .slice p5 L.length c5]) k5 info32s rfl (by simp) (by rw [Array.all_eq_true_iff_forall_mem]; intro u hu; simp at hu; rcases hu with rfl | rfl <;> rfl)
    refine hK.out _ _ (⟨m5, n5⟩) (fun hHeld => ?_)
    clear hK K
    try simp only [Act.put, List.setIfInBounds_toArray, List.set_cons_zero, List.set_cons_succ]
    refine wpAnyH_take (i := 9) (oi := { dst := some 30, op := Op.build 32 #[(0, Operand.tmp 22), (1, Operand.tmp 29)], type := 32, pos := "message.go:299", after := #[{ on := 1, ground := Ground.data }, { on := 8, ground := Ground.data }], guard := none }) (v := ?_) rfl (by kernel_rfl) (by kernel_rfl) (by kernel_rfl) (fun _ _ _ h => h) (Or.inl ⟨by rfl, ?hysb37⟩) (by assumption) ?restsb37
    case hysb37 => (intro w hSw; (try dsimp only at hSw); go_simp; try with_reducible rfl)
    try simp only [Act.put, List.setIfInBounds_toArray, List.set_cons_zero, List.set_cons_succ]
    refine wpAnyH_ready (rs := [10]) (by kernel_rfl) (by simp) (AllReadyH.cons (o := { dst := none, op := Op.store 32 (Operand.tmp 6) (Operand.tmp 30), type := 0, pos := "message.go:299", after := #[{ on := 9, ground := Ground.data }, { on := 8, ground := Ground.chain }, { on := 0, ground := Ground.phase }, { on := 1, ground := Ground.phase }, { on := 2, ground := Ground.phase }, { on := 3, ground := Ground.phase }, { on := 4, ground := Ground.phase }, { on := 5, ground := Ground.phase }, { on := 6, ground := Ground.phase }, { on := 7, ground := Ground.phase }, { on := 8, ground := Ground.phase }, { on := 9, ground := Ground.phase }], guard := none }) rfl (fun K hK => ?_) AllReadyH.nil)
    refine step_nov rfl (exec_store 32 (.tmp 6) (.tmp 30) rfl ⟨Bm + 2, 0, none⟩ rfl _ rfl hst) ?_
    refine hK.out _ _ (HK6.out w5 _ m5 n5) (fun hHeld => ?_)
    clear hK K
    refine wpAnyH_done (by kernel_rfl) ?_ _
    clear hHeld
    have k6 : (w5.setRow (Bm + 2) #[.int .i64 ty, .slice p5 L.length c5]).heap[Bm + 2]? = some (.cells #[.int .i64 ty, .slice p5 L.length c5] 32 (0, 0)) := setRow_block k5
    have HF5 := Lib.hid (HFIN.out w5 p5 c5 #[.int .i64 ty, .slice p5 L.length c5] f5 t5)
    go_wp2_with fail
    refine bodyPost_ret (results_cell_row rfl _ _ (Bm + 2) _ #[.int .i64 ty, .slice p5 L.length c5] (0, 0) _ rfl k6 Tryd.underlying32 rfl info32s) rfl ?_
    exact ⟨_, rfl, HF5.out⟩
end Go.Proofs.YtjndfmpicnkplaaDoor.msgw
