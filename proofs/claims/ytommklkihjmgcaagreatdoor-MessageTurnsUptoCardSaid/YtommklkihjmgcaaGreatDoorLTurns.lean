/- Layer 5: MessageTurns, walked. Conditions: as each theorem says. -/
import Derived.Test.YtommklkihjmgcaaGreatDoorOwn
import Derived.Test.YtommklkihjmgcaaGreatDoorRefSet
import Derived.Test.YtommklkihjmgcaaGreatDoorLUnlike
import Derived.Test.YtommklkihjmgcaaGreatDoorRGet
namespace Go.Proofs.YtommklkihjmgcaaGreatDoor.msgw
open Go.RowKit Go.Proofs.YtommklkihjmgcaaGreatDoorW.PrintWords Go.Proofs.YtommklkihjmgcaaGreatDoor.msgp Go.Proofs.YtommklkihjmgcaaGreatDoor.buf Go.Proofs.YtommklkihjmgcaaGreatDoor.fieldp Go.Proofs.YtommklkihjmgcaaGreatDoor.fieldw
theorem get_set (F : Flds) (no : Int) (t : ByteArray) : getM (setM F no t) no = some t := by
  have hD : ∀ x ∈ delM F no, x.1 ≠ no := fun x hx => by simpa using (List.mem_filter.1 hx).2
  unfold setM insM getM
  rw [List.find?_append, List.find?_eq_none.2 (fun x hx => by simpa using hD x (List.mem_of_mem_take hx))]
  simp
/-- A row that may be written. -/
def RowIn (w : World) (g n : Nat) : Prop := ∃ cur : Array Value, w.heap[g]? = some (.cells cur 28 (0, 0)) ∧ n ≤ cur.size
theorem RowIn.cell {w : World} {g n j : Nat} (h : RowIn w g n) (hj : j < n) : (∃ u, w.cell? ⟨g, j, none⟩ = some u) ∧ w.frozen? ⟨g, j, none⟩ = false := by
  obtain ⟨cur, h1, h2⟩ := h
  exact ⟨⟨cur[j]'(by omega), (cells_at h1 j).trans (Array.getElem?_eq_getElem (by omega))⟩, frozen_at h1 j⟩
theorem RowIn.set {w : World} {g n : Nat} (h : RowIn w g n) (j : Nat) (u : Value) : RowIn (w.setCell ⟨g, j, none⟩ u) g n := by
  obtain ⟨cur, h1, h2⟩ := h
  refine ⟨_, blk_set h1 j u, by simpa using h2⟩
set_option maxHeartbeats 4000000 in
set_option maxRecDepth 100000 in
theorem turns_any {w : World} {v : Value} {F : Flds} (h : FsAt w v F) (hT : Tabs5 w) (hl : F.length ≤ 1048575) (ty no : Int) (t : ByteArray) :
    Calls Tryz.prog 4 #[.agg #[.int .i64 ty, v], .int .i64 no, .string t] w fun e w' => e = .returned (.bool true) ∧ Below w.heap.size w w' := by
  obtain ⟨p, c, rfl⟩ := h.shape
  obtain ⟨B, eB⟩ : ∃ b, w.heap.size = b := ⟨_, rfl⟩
  obtain ⟨w0, e0⟩ : ∃ W, w.alloc (.cells #[.int .i64 ty, .slice p F.length c] 24) = W := ⟨_, rfl⟩
  have b0 : Below w.heap.size w w0 := by rw [← e0]; exact alloc_below _ _
  have k0 : MsgIn w0 B ty (.slice p F.length c) := by rw [← eB, ← e0]; exact msgIn_new w ty _
  have HT := Lib.hid (hT.below b0)
  have HF := Lib.hid (h.below b0)
  have HB0 := Lib.hid b0
  have K0 := Lib.hid k0
  have E0 := Lib.hid e0
  have HN := Lib.hid (And.intro hl trivial)
  clear h hT b0 k0 e0
  go_enter Tryz.func4, Tryz.ntmps4
  go_wp2_with fail
  rw [E0.out]
  refine (shown_any HT.out).mono ?_
  rintro e w1 ⟨rfl, b1⟩
  have HF1 := Lib.hid (HF.out.below b1)
  have HT1 := Lib.hid (HT.out.below b1)
  have HB1 := Lib.hid (HB0.out.trans (b1.mono HB0.out.size))
  have HM1 := Lib.hid (K0.out.below b1)
  clear b1 HF HB0 K0 E0 HT
  obtain ⟨m0, m1⟩ := HM1.out
  go_wp2_with fail
  have HBc := Lib.hid (show Below w1.heap.size w1 w1.drew from drew_below _)
  refine wp_region_held_drew (S := (fun W => MsgIn W B ty (.slice p F.length c))) (by kernel_rfl) (HM1.out) (fun hHeld => ?_)
  refine wpAnyH_take (i := 0) (oi := { dst := some 19, op := Op.fieldAddr 24 (Operand.tmp 3) 0, type := 0, pos := "law.go:86", after := #[], guard := none }) (v := ?_) rfl (by kernel_rfl) (by kernel_rfl) (by kernel_rfl) (fun _ _ _ h => h) (Or.inl ⟨by rfl, ?hyown1⟩) (by assumption) ?restown1
  case hyown1 => (intro W hSw; obtain ⟨s0, s1⟩ := hSw; go_simp; try with_reducible rfl)
  try simp only [Act.put, List.setIfInBounds_toArray, List.set_cons_zero, List.set_cons_succ]
  refine wpAnyH_take (i := 1) (oi := { dst := some 20, op := Op.load 3 (Operand.tmp 19), type := 3, pos := "law.go:86", after := #[{ on := 0, ground := Ground.data }], guard := none }) (v := ?_) rfl (by kernel_rfl) (by kernel_rfl) (by kernel_rfl) (fun _ _ _ h => h) (Or.inl ⟨by rfl, ?hyown4⟩) (by assumption) ?restown4
  case hyown4 => (intro W hSw; obtain ⟨s0, s1⟩ := hSw; go_simp; try with_reducible rfl)
  try simp only [Act.put, List.setIfInBounds_toArray, List.set_cons_zero, List.set_cons_succ]
  refine wpAnyH_take (i := 3) (oi := { dst := some 22, op := Op.fieldAddr 24 (Operand.tmp 3) 1, type := 0, pos := "law.go:86", after := #[], guard := none }) (v := ?_) rfl (by kernel_rfl) (by kernel_rfl) (by kernel_rfl) (fun _ _ _ h => h) (Or.inl ⟨by rfl, ?hyown7⟩) (by assumption) ?restown7
  case hyown7 => (intro W hSw; obtain ⟨s0, s1⟩ := hSw; go_simp; try with_reducible rfl)
  try simp only [Act.put, List.setIfInBounds_toArray, List.set_cons_zero, List.set_cons_succ]
  refine wpAnyH_take (i := 4) (oi := { dst := some 23, op := Op.load 22 (Operand.tmp 22), type := 22, pos := "law.go:86", after := #[{ on := 3, ground := Ground.data }], guard := none }) (v := ?_) rfl (by kernel_rfl) (by kernel_rfl) (by kernel_rfl) (fun _ _ _ h => h) (Or.inl ⟨by rfl, ?hyown10⟩) (by assumption) ?restown10
  case hyown10 => (intro W hSw; obtain ⟨s0, s1⟩ := hSw; go_simp; try with_reducible rfl)
  try simp only [Act.put, List.setIfInBounds_toArray, List.set_cons_zero, List.set_cons_succ]
  refine wpAnyH_ready (rs := [2, 7]) (by kernel_rfl) (by simp) (AllReadyH.cons (o := { dst := some 21, op := Op.buildSlice 22 0 #[], type := 22, pos := "law.go:86", after := #[], guard := none }) rfl (fun K hK => ?_) (AllReadyH.cons (o := { dst := some 8, op := Op.alloc 24, type := 0, pos := "law.go:86", after := #[], guard := none }) rfl (fun K hK => ?_) AllReadyH.nil))
  · refine step_bs rfl rfl (fun E wn hb => ?_)
    have HBn := Lib.hid (HBc.out.trans (hb.mono HBc.out.size))
    try (have HK2 := Lib.hid (show _ from And.intro (Nat.lt_of_lt_of_le HKr.out.1 hb.size) ((hb.block _ HKr.out.1).trans HKr.out.2)); clear HKr; have HKr := HK2; clear HK2)
    clear hb HBc
    have HBc := HBn
    clear HBn
    refine hK.out _ _ ((HM1.out.below HBc.out)) (fun hHeld => ?_)
    clear hK K
    try simp only [Act.put, List.setIfInBounds_toArray, List.set_cons_zero, List.set_cons_succ]
    refine wpAnyH_ready (rs := [5, 7]) (by kernel_rfl) (by simp) (AllReadyH.cons (o := { dst := some 24, op := Op.call { callee := Callee.builtin Builtin.append, args := #[Operand.tmp 21, Operand.tmp 23], argTypes := #[22, 22] }, type := 22, pos := "law.go:86", after := #[{ on := 2, ground := Ground.data }, { on := 4, ground := Ground.data }], guard := none }) rfl (fun K hK => ?_) (AllReadyH.cons (o := { dst := some 8, op := Op.alloc 24, type := 0, pos := "law.go:86", after := #[], guard := none }) rfl (fun K hK => ?_) AllReadyH.nil))
    · refine step_own rfl (.tmp 21) (.tmp 23) rfl rfl rfl (HF1.out.below HBc.out) (by have := HN.out.1; omega) (fun p5 c5 wn hf hb => ?_)
      have HFo := Lib.hid (fbuf_lower hf HBc.out.size)
      have HBn := Lib.hid (HBc.out.trans (hb.mono HBc.out.size))
      try (have HK2 := Lib.hid (show _ from And.intro (Nat.lt_of_lt_of_le HKr.out.1 hb.size) ((hb.block _ HKr.out.1).trans HKr.out.2)); clear HKr; have HKr := HK2; clear HK2)
      clear hb hf HBc
      have HBc := HBn
      clear HBn
      refine hK.out _ _ ((HM1.out.below HBc.out)) (fun hHeld => ?_)
      clear hK K
      try simp only [Act.put, List.setIfInBounds_toArray, List.set_cons_zero, List.set_cons_succ]
      refine wpAnyH_take (i := 6) (oi := { dst := some 25, op := Op.build 24 #[(0, Operand.tmp 20), (1, Operand.tmp 24)], type := 24, pos := "law.go:86", after := #[{ on := 1, ground := Ground.data }, { on := 5, ground := Ground.data }], guard := none }) (v := ?_) rfl (by kernel_rfl) (by kernel_rfl) (by kernel_rfl) (fun _ _ _ h => h) (Or.inl ⟨by rfl, ?hyown34⟩) (by assumption) ?restown34
      case hyown34 => (intro w hSw; (try dsimp only at hSw); go_simp; try with_reducible rfl)
      try simp only [Act.put, List.setIfInBounds_toArray, List.set_cons_zero, List.set_cons_succ]
      refine wpAnyH_ready (rs := [7]) (by kernel_rfl) (by simp) (AllReadyH.cons (o := { dst := some 8, op := Op.alloc 24, type := 0, pos := "law.go:86", after := #[], guard := none }) rfl (fun K hK => ?_) AllReadyH.nil)
      refine step_al rfl rfl (fun Kb wn hb hK1 hK2 => ?_)
      try (have HF2 := Lib.hid (HFo.out.below hb); clear HFo; have HFo := HF2; clear HF2)
      have HKl := Lib.hid (Nat.le_trans HBc.out.size hK1)
      have HKr := Lib.hid (And.intro (show Kb < wn.heap.size from (Array.getElem?_eq_some_iff.1 hK2).1) hK2)
      have HBn := Lib.hid (HBc.out.trans (hb.mono HBc.out.size))
      clear hb hK1 hK2 HBc
      have HBc := HBn
      clear HBn
      refine hK.out _ _ ((HM1.out.below HBc.out)) (fun hHeld => ?_)
      clear hK K
      try simp only [Act.put, List.setIfInBounds_toArray, List.set_cons_zero, List.set_cons_succ]
      refine wpAnyH_ready (rs := [8]) (by kernel_rfl) (by simp) (AllReadyH.cons (o := { dst := none, op := Op.store 24 (Operand.tmp 8) (Operand.tmp 25), type := 0, pos := "law.go:86", after := #[{ on := 7, ground := Ground.data }, { on := 6, ground := Ground.data }, { on := 5, ground := Ground.chain }, { on := 0, ground := Ground.phase }, { on := 1, ground := Ground.phase }, { on := 2, ground := Ground.phase }, { on := 3, ground := Ground.phase }, { on := 4, ground := Ground.phase }, { on := 5, ground := Ground.phase }, { on := 6, ground := Ground.phase }, { on := 7, ground := Ground.phase }], guard := none }) rfl (fun K hK => ?_) AllReadyH.nil)
      have hst := store_all (ty := 24) HKr.out.2 info32s rfl #[.int .i64 ty, .slice p5 F.length c5] rfl rfl
      refine step_nov rfl (exec_store 24 (.tmp 8) (.tmp 25) rfl ⟨Kb, 0, none⟩ rfl _ rfl hst) ?_
      clear hst
      have HFn := Lib.hid (fbuf_setRow HFo.out HKr.out.2 #[.int .i64 ty, .slice p5 F.length c5])
      have HBn := Lib.hid (below_setRow HBc.out HKl.out #[.int .i64 ty, .slice p5 F.length c5])
      have hKn := setRow_block HKr.out.2 (cs' := #[.int .i64 ty, .slice p5 F.length c5])
      have HMo := Lib.hid (show MsgIn _ Kb ty (.slice p5 F.length c5) from ⟨(cells_at hKn 0).trans rfl, (cells_at hKn 1).trans rfl⟩)
      clear HFo HBc HKr hKn
      have HBc := HBn
      clear HBn
      refine hK.out _ _ ((HM1.out.below HBc.out)) (fun hHeld => ?_)
      clear hK K
      refine wpAnyH_done (by kernel_rfl) ?_ _
      clear hHeld m0 m1
      obtain ⟨w2, e2⟩ : ∃ W, World.setRow wn Kb #[.int .i64 ty, .slice p5 F.length c5] = W := ⟨_, rfl⟩
      rw [e2] at HFn HBc HMo ⊢
      clear e2 HKl
      have HFs := Lib.hid (HFn.out.fs (by have := HN.out.1; simp only [maxLen]; omega))
      have HM2 := Lib.hid (HM1.out.below HBc.out)
      have HF2 := Lib.hid (HF1.out.below HBc.out)
      have HB2 := Lib.hid (HB1.out.trans (HBc.out.mono HB1.out.size))
      clear HFn HBc HM1 HF1 HB1 HT1
      obtain ⟨m0, m1⟩ := HMo.out
      obtain ⟨gs, gb, eg⟩ : ∃ s b, (getM F no).getD ⟨#[]⟩ = s ∧ (getM F no).isSome = b := ⟨_, _, rfl, rfl⟩
      have HG := Lib.hid eg
      clear eg
      go_wp2_with fail
      refine (get_any HFs.out ty no).mono ?_
      rintro e w3 ⟨rfl, b3⟩
      rw [HG.out.1, HG.out.2]
      have HM3 := Lib.hid (HM2.out.below b3)
      have HMo3 := Lib.hid (HMo.out.below b3)
      have HF3 := Lib.hid (HF2.out.below b3)
      have HFs3 := Lib.hid (HFs.out.below b3)
      have HB3 := Lib.hid (HB2.out.trans (b3.mono HB2.out.size))
      clear m0 m1 b3 HM2 HMo HF2 HFs HB2
      obtain ⟨m0, m1⟩ := HM3.out
      go_wp2_with fail
      refine (rget_any HF3.out ty no).mono ?_
      rintro e w4 ⟨rfl, b4⟩
      rw [HG.out.1, HG.out.2]
      have HM4 := Lib.hid (HM3.out.below b4)
      have HMo4 := Lib.hid (HMo3.out.below b4)
      have HF4 := Lib.hid (HF3.out.below b4)
      have HFs4 := Lib.hid (HFs3.out.below b4)
      have HB4 := Lib.hid (HB3.out.trans (b4.mono HB3.out.size))
      clear m0 m1 b4 HM3 HMo3 HF3 HFs3 HB3
      obtain ⟨m0, m1⟩ := HMo4.out
      go_wp2_with fail
      refine (set_any HFs4.out (by have := HN.out.1; omega) ty no t).mono ?_
      rintro e w5 ⟨v5, rfl, hX, b5⟩
      obtain ⟨X, eX⟩ : ∃ X, setM F no t = X := ⟨_, rfl⟩
      have hxl := setM_len F no t
      rw [eX] at hX hxl
      have HXL := Lib.hid hxl
      have hXf := hX.fs (by have := HN.out.1; simp only [maxLen]; omega)
      obtain ⟨g, cap, rfl, hgr⟩ : ∃ g cap, v5 = .slice (some ⟨g, 0, none⟩) X.length cap ∧ RowIn w5 g (X.length * 2) ∧ w4.heap.size ≤ g := by
        obtain ⟨⟨_, ⟨h0, _⟩ | ⟨g, cap, cur, e1, e2, e3, e4, e5, e6, _⟩⟩, hn⟩ := hX
        · omega
        · exact ⟨g, cap, e1, ⟨cur, e2, by rw [e6]; exact Nat.mul_le_mul_right 2 e3⟩, hn g (by rw [e1]; simp [bufBlock]; omega)⟩
      have HX5 := Lib.hid hXf
      have HGR := Lib.hid hgr
      obtain ⟨w6, e6⟩ : ∃ W, w5.alloc (.cells #[.int .i64 ty, .slice (some ⟨g, 0, none⟩) X.length cap] 24) = W := ⟨_, rfl⟩
      have b6 : Below w5.heap.size w5 w6 := by rw [← e6]; exact alloc_below _ _
      have b56 := b5.trans (b6.mono b5.size)
      obtain ⟨Kx, eKx⟩ : ∃ k, w5.heap.size = k := ⟨_, rfl⟩
      have HM6 := Lib.hid (HM4.out.below b56)
      have HMo6 := Lib.hid (HMo4.out.below b56)
      have HF6 := Lib.hid (HF4.out.below b56)
      have HFs6 := Lib.hid (HFs4.out.below b56)
      have HB6 := Lib.hid (HB4.out.trans (b56.mono HB4.out.size))
      have HX6 := Lib.hid (hXf.below b6)
      have HR6 := Lib.hid (show RowIn w6 g (X.length * 2) by
        obtain ⟨cur, h1, h2⟩ := hgr.1
        exact ⟨cur, (b6.block g (Array.getElem?_eq_some_iff.1 h1).1).trans h1, h2⟩)
      have HMx6 := Lib.hid (show MsgIn w6 Kx ty (.slice (some ⟨g, 0, none⟩) X.length cap) by rw [← eKx, ← e6]; exact msgIn_new w5 ty _)
      have HEX := Lib.hid eX
      have HGK := Lib.hid (show g < Kx by
        obtain ⟨cur, h1, _⟩ := hgr.1
        rw [← eKx]
        exact (Array.getElem?_eq_some_iff.1 h1).1)
      have HS4 := Lib.hid (show (B < w4.heap.size ∧ Kb < w4.heap.size) from ⟨World.block_lt_of_cell? w4 ⟨B, 0, none⟩ HM4.out.1, World.block_lt_of_cell? w4 ⟨Kb, 0, none⟩ HMo4.out.1⟩)
      have HF4b := Lib.hid HF4.out
      have HFs4b := Lib.hid HFs4.out
      have HM4b := Lib.hid HM4.out
      have HMo4b := Lib.hid HMo4.out
      have HB4b := Lib.hid HB4.out
      have HB46 := Lib.hid b56
      have HG4 := Lib.hid hgr.2
      have HKS := Lib.hid (show Kx < w6.heap.size by rw [← eKx, ← e6]; simp)
      clear m0 m1 b5 b6 b56 hX hXf hgr eX hxl HM4 HMo4 HB4
      subst e6 eKx
      obtain ⟨m0, m1⟩ := HM6.out
      go_wp2_with fail
      refine (rset_any HF6.out (by have := HN.out.1; omega) ty no t).mono ?_
      rw [HEX.out]
      rintro e w7 ⟨p7, c7, rfl, hY, b7⟩
      obtain ⟨w8, e8⟩ : ∃ W, w7.alloc (.cells #[.int .i64 ty, .slice p7 X.length c7] 24) = W := ⟨_, rfl⟩
      have b8 : Below w7.heap.size w7 w8 := by rw [← e8]; exact alloc_below _ _
      have b78 := b7.trans (b8.mono b7.size)
      obtain ⟨Ky, eKy⟩ : ∃ k, w7.heap.size = k := ⟨_, rfl⟩
      have HM8 := Lib.hid (HM6.out.below b78)
      have HMo8 := Lib.hid (HMo6.out.below b78)
      have HF8 := Lib.hid (HF6.out.below b78)
      have HFs8 := Lib.hid (HFs6.out.below b78)
      have HB8 := Lib.hid (HB6.out.trans (b78.mono HB6.out.size))
      have HX8 := Lib.hid (HX6.out.below b78)
      have HR8 := Lib.hid (show RowIn w8 g (X.length * 2) by
        obtain ⟨cur, h1, h2⟩ := HR6.out
        exact ⟨cur, (b78.block g (Array.getElem?_eq_some_iff.1 h1).1).trans h1, h2⟩)
      have HMx8 := Lib.hid (HMx6.out.below b78)
      have HMy8 := Lib.hid (show MsgIn w8 Ky ty (.slice p7 X.length c7) by rw [← eKy, ← e8]; exact msgIn_new w7 ty _)
      have HY8 := Lib.hid (hY.below b8)
      have HB48 := Lib.hid (HB46.out.trans (b78.mono HB46.out.size))
      have HKS8 := Lib.hid (Nat.lt_of_lt_of_le HKS.out b78.size)
      clear m0 m1 b7 b8 b78 hY HM6 HMo6 HF6 HFs6 HB6 HX6 HR6 HMx6
      subst e8 eKy
      obtain ⟨x0, x1⟩ := HMx8.out
      obtain ⟨y0, y1⟩ := HMy8.out
      go_wp2_with fail
      have hxl8 : X.length ≤ 1048576 := by have h1 := HXL.out.2; have h2 := HN.out.1; omega
      refine (same_w HX8.out HY8.out hxl8 ty ty (b := true) (by rw [decide_eq_true rfl, decide_eq_true rfl]; rfl)).mono ?_
      rintro e w9 ⟨rfl, b9⟩
      have HB49 := Lib.hid (HB48.out.trans (b9.mono HB48.out.size))
      have HMx9 := Lib.hid (HMx8.out.below b9)
      have HR9 := Lib.hid (show RowIn w9 g (X.length * 2) by
        obtain ⟨cur, h1, h2⟩ := HR8.out
        exact ⟨cur, (b9.block g (Array.getElem?_eq_some_iff.1 h1).1).trans h1, h2⟩)
      have HK9 := Lib.hid (World.block_lt_of_cell? w9 ⟨w5.heap.size, 0, none⟩ HMx9.out.1)
      clear x0 x1 y0 y1 b9 HM8 HMo8 HF8 HFs8 HB8 HX8 HR8 HMx8 HMy8 HY8 HB46 HB48 HKS HKS8 HX5 HGR HF4 HFs4
      go_wp2_with fail
      go_loopw [15] (fun iv wr => ∃ i : Nat, i ≤ X.length ∧ iv = .int .i64 i ∧ Turn [g] w9 wr ∧ RowIn wr g (X.length * 2)) (fun iv _ => X.length - (intOf iv).toNat)
      case atStart => exact ⟨0, Nat.zero_le _, rfl, Turn.refl _ _, HR9.out⟩
      case round =>
        obtain ⟨i, hi, rfl, ht, hrow⟩ := hrel
        have hxk : ∀ j, wr.cell? ⟨w5.heap.size, j, none⟩ = w9.cell? ⟨w5.heap.size, j, none⟩ := fun j => World.cell?_of_block (a := ⟨w5.heap.size, j, none⟩) (ht.block _ HK9.out (by have := HGK.out; simp; omega))
        have x0 := (hxk 0).trans HMx9.out.1
        have x1 := (hxk 1).trans HMx9.out.2
        clear hxk
        have HTn := Lib.hid ht
        by_cases hlt : i < X.length
        · have hlt' : (i : Int) < X.length := by omega
          obtain ⟨⟨u, hu⟩, hfz⟩ := hrow.cell (j := i * 2 + 1) (by omega)
          have HRn := Lib.hid (hrow.set (i * 2 + 1) (.string ⟨#[115, 112, 111, 105, 108, 116]⟩))
          have HTm := Lib.hid (ht.set (b := g) (.inl (by simp)) (i * 2 + 1) (.string ⟨#[115, 112, 111, 105, 108, 116]⟩))
          clear ht hrow
          go_wp2_with fail
          go_roundw
          case rel => exact ⟨i + 1, by omega, by go_num, HTm.out, HRn.out⟩
          case measure => simp [intOf]; omega
        · have hge : ¬ (i : Int) < X.length := by omega
          have b10 := HB49.out.trans (HTn.out.below HB49.out.size (by have := HG4.out; simpa using this))
          have HB10 := Lib.hid (HB4b.out.trans (b10.mono HB4b.out.size))
          have HM10 := Lib.hid (HM4b.out.below b10)
          have HMo10 := Lib.hid (HMo4b.out.below b10)
          have HF10 := Lib.hid (HF4b.out.below b10)
          have HFs10 := Lib.hid (HFs4b.out.below b10)
          clear ht hrow b10 HTn
          obtain ⟨o0, o1⟩ := HMo10.out
          go_wp2_with fail
          refine (set_any HFs10.out (by have := HN.out.1; omega) ty no t).mono ?_
          rintro e w11 ⟨v11, rfl, hX, b11⟩
          have hX2 := hX.fs (by have h1 := HXL.out.2; have h2 := HN.out.1; rw [HEX.out]; simp only [maxLen]; omega)
          have HX11 := Lib.hid hX2
          have HM11 := Lib.hid (HM10.out.below b11)
          have HMo11 := Lib.hid (HMo10.out.below b11)
          have HF11 := Lib.hid (HF10.out.below b11)
          have HFs11 := Lib.hid (HFs10.out.below b11)
          have HB11 := Lib.hid (HB10.out.trans (b11.mono HB10.out.size))
          obtain ⟨p11, c11, rfl⟩ := hX2.shape
          clear o0 o1 b11 hX hX2 x0 x1
          have HGS := Lib.hid (get_set F no t)
          go_wp2_with fail
          refine (get_any HX11.out ty no).mono ?_
          rintro e w12 ⟨rfl, b12⟩
          rw [HGS.out]
          have HF12 := Lib.hid (HF11.out.below b12)
          have HFs12 := Lib.hid (HFs11.out.below b12)
          have HB12 := Lib.hid (HB11.out.trans (b12.mono HB11.out.size))
          obtain ⟨m0, m1⟩ := HM11.out.below b12
          obtain ⟨o0, o1⟩ := HMo11.out.below b12
          clear b12
          go_wp2_with fail
          refine (same_w HFs12.out HF12.out (by have := HN.out.1; omega) ty ty (b := true) (by rw [decide_eq_true rfl, decide_eq_true rfl]; rfl)).mono ?_
          rintro e w13 ⟨rfl, b13⟩
          have HB13 := Lib.hid (HB12.out.trans (b13.mono HB12.out.size))
          clear b13 m0 m1 o0 o1
          go_wp2_with fail
          go_ret
          exact ⟨rfl, HB13.out⟩
    · refine step_al rfl rfl (fun Kb wn hb hK1 hK2 => ?_)
      try (have HF2 := Lib.hid (HFo.out.below hb); clear HFo; have HFo := HF2; clear HF2)
      have HKl := Lib.hid (Nat.le_trans HBc.out.size hK1)
      have HKr := Lib.hid (And.intro (show Kb < wn.heap.size from (Array.getElem?_eq_some_iff.1 hK2).1) hK2)
      have HBn := Lib.hid (HBc.out.trans (hb.mono HBc.out.size))
      clear hb hK1 hK2 HBc
      have HBc := HBn
      clear HBn
      refine hK.out _ _ ((HM1.out.below HBc.out)) (fun hHeld => ?_)
      clear hK K
      try simp only [Act.put, List.setIfInBounds_toArray, List.set_cons_zero, List.set_cons_succ]
      refine wpAnyH_ready (rs := [5]) (by kernel_rfl) (by simp) (AllReadyH.cons (o := { dst := some 24, op := Op.call { callee := Callee.builtin Builtin.append, args := #[Operand.tmp 21, Operand.tmp 23], argTypes := #[22, 22] }, type := 22, pos := "law.go:86", after := #[{ on := 2, ground := Ground.data }, { on := 4, ground := Ground.data }], guard := none }) rfl (fun K hK => ?_) AllReadyH.nil)
      refine step_own rfl (.tmp 21) (.tmp 23) rfl rfl rfl (HF1.out.below HBc.out) (by have := HN.out.1; omega) (fun p5 c5 wn hf hb => ?_)
      have HFo := Lib.hid (fbuf_lower hf HBc.out.size)
      have HBn := Lib.hid (HBc.out.trans (hb.mono HBc.out.size))
      try (have HK2 := Lib.hid (show _ from And.intro (Nat.lt_of_lt_of_le HKr.out.1 hb.size) ((hb.block _ HKr.out.1).trans HKr.out.2)); clear HKr; have HKr := HK2; clear HK2)
      clear hb hf HBc
      have HBc := HBn
      clear HBn
      refine hK.out _ _ ((HM1.out.below HBc.out)) (fun hHeld => ?_)
      clear hK K
      try simp only [Act.put, List.setIfInBounds_toArray, List.set_cons_zero, List.set_cons_succ]
      refine wpAnyH_take (i := 6) (oi := { dst := some 25, op := Op.build 24 #[(0, Operand.tmp 20), (1, Operand.tmp 24)], type := 24, pos := "law.go:86", after := #[{ on := 1, ground := Ground.data }, { on := 5, ground := Ground.data }], guard := none }) (v := ?_) rfl (by kernel_rfl) (by kernel_rfl) (by kernel_rfl) (fun _ _ _ h => h) (Or.inl ⟨by rfl, ?hyown262⟩) (by assumption) ?restown262
      case hyown262 => (intro w hSw; (try dsimp only at hSw); go_simp; try with_reducible rfl)
      try simp only [Act.put, List.setIfInBounds_toArray, List.set_cons_zero, List.set_cons_succ]
      refine wpAnyH_ready (rs := [8]) (by kernel_rfl) (by simp) (AllReadyH.cons (o := { dst := none, op := Op.store 24 (Operand.tmp 8) (Operand.tmp 25), type := 0, pos := "law.go:86", after := #[{ on := 7, ground := Ground.data }, { on := 6, ground := Ground.data }, { on := 5, ground := Ground.chain }, { on := 0, ground := Ground.phase }, { on := 1, ground := Ground.phase }, { on := 2, ground := Ground.phase }, { on := 3, ground := Ground.phase }, { on := 4, ground := Ground.phase }, { on := 5, ground := Ground.phase }, { on := 6, ground := Ground.phase }, { on := 7, ground := Ground.phase }], guard := none }) rfl (fun K hK => ?_) AllReadyH.nil)
      have hst := store_all (ty := 24) HKr.out.2 info32s rfl #[.int .i64 ty, .slice p5 F.length c5] rfl rfl
      refine step_nov rfl (exec_store 24 (.tmp 8) (.tmp 25) rfl ⟨Kb, 0, none⟩ rfl _ rfl hst) ?_
      clear hst
      have HFn := Lib.hid (fbuf_setRow HFo.out HKr.out.2 #[.int .i64 ty, .slice p5 F.length c5])
      have HBn := Lib.hid (below_setRow HBc.out HKl.out #[.int .i64 ty, .slice p5 F.length c5])
      have hKn := setRow_block HKr.out.2 (cs' := #[.int .i64 ty, .slice p5 F.length c5])
      have HMo := Lib.hid (show MsgIn _ Kb ty (.slice p5 F.length c5) from ⟨(cells_at hKn 0).trans rfl, (cells_at hKn 1).trans rfl⟩)
      clear HFo HBc HKr hKn
      have HBc := HBn
      clear HBn
      refine hK.out _ _ ((HM1.out.below HBc.out)) (fun hHeld => ?_)
      clear hK K
      refine wpAnyH_done (by kernel_rfl) ?_ _
      clear hHeld m0 m1
      obtain ⟨w2, e2⟩ : ∃ W, World.setRow wn Kb #[.int .i64 ty, .slice p5 F.length c5] = W := ⟨_, rfl⟩
      rw [e2] at HFn HBc HMo ⊢
      clear e2 HKl
      have HFs := Lib.hid (HFn.out.fs (by have := HN.out.1; simp only [maxLen]; omega))
      have HM2 := Lib.hid (HM1.out.below HBc.out)
      have HF2 := Lib.hid (HF1.out.below HBc.out)
      have HB2 := Lib.hid (HB1.out.trans (HBc.out.mono HB1.out.size))
      clear HFn HBc HM1 HF1 HB1 HT1
      obtain ⟨m0, m1⟩ := HMo.out
      obtain ⟨gs, gb, eg⟩ : ∃ s b, (getM F no).getD ⟨#[]⟩ = s ∧ (getM F no).isSome = b := ⟨_, _, rfl, rfl⟩
      have HG := Lib.hid eg
      clear eg
      go_wp2_with fail
      refine (get_any HFs.out ty no).mono ?_
      rintro e w3 ⟨rfl, b3⟩
      rw [HG.out.1, HG.out.2]
      have HM3 := Lib.hid (HM2.out.below b3)
      have HMo3 := Lib.hid (HMo.out.below b3)
      have HF3 := Lib.hid (HF2.out.below b3)
      have HFs3 := Lib.hid (HFs.out.below b3)
      have HB3 := Lib.hid (HB2.out.trans (b3.mono HB2.out.size))
      clear m0 m1 b3 HM2 HMo HF2 HFs HB2
      obtain ⟨m0, m1⟩ := HM3.out
      go_wp2_with fail
      refine (rget_any HF3.out ty no).mono ?_
      rintro e w4 ⟨rfl, b4⟩
      rw [HG.out.1, HG.out.2]
      have HM4 := Lib.hid (HM3.out.below b4)
      have HMo4 := Lib.hid (HMo3.out.below b4)
      have HF4 := Lib.hid (HF3.out.below b4)
      have HFs4 := Lib.hid (HFs3.out.below b4)
      have HB4 := Lib.hid (HB3.out.trans (b4.mono HB3.out.size))
      clear m0 m1 b4 HM3 HMo3 HF3 HFs3 HB3
      obtain ⟨m0, m1⟩ := HMo4.out
      go_wp2_with fail
      refine (set_any HFs4.out (by have := HN.out.1; omega) ty no t).mono ?_
      rintro e w5 ⟨v5, rfl, hX, b5⟩
      obtain ⟨X, eX⟩ : ∃ X, setM F no t = X := ⟨_, rfl⟩
      have hxl := setM_len F no t
      rw [eX] at hX hxl
      have HXL := Lib.hid hxl
      have hXf := hX.fs (by have := HN.out.1; simp only [maxLen]; omega)
      obtain ⟨g, cap, rfl, hgr⟩ : ∃ g cap, v5 = .slice (some ⟨g, 0, none⟩) X.length cap ∧ RowIn w5 g (X.length * 2) ∧ w4.heap.size ≤ g := by
        obtain ⟨⟨_, ⟨h0, _⟩ | ⟨g, cap, cur, e1, e2, e3, e4, e5, e6, _⟩⟩, hn⟩ := hX
        · omega
        · exact ⟨g, cap, e1, ⟨cur, e2, by rw [e6]; exact Nat.mul_le_mul_right 2 e3⟩, hn g (by rw [e1]; simp [bufBlock]; omega)⟩
      have HX5 := Lib.hid hXf
      have HGR := Lib.hid hgr
      obtain ⟨w6, e6⟩ : ∃ W, w5.alloc (.cells #[.int .i64 ty, .slice (some ⟨g, 0, none⟩) X.length cap] 24) = W := ⟨_, rfl⟩
      have b6 : Below w5.heap.size w5 w6 := by rw [← e6]; exact alloc_below _ _
      have b56 := b5.trans (b6.mono b5.size)
      obtain ⟨Kx, eKx⟩ : ∃ k, w5.heap.size = k := ⟨_, rfl⟩
      have HM6 := Lib.hid (HM4.out.below b56)
      have HMo6 := Lib.hid (HMo4.out.below b56)
      have HF6 := Lib.hid (HF4.out.below b56)
      have HFs6 := Lib.hid (HFs4.out.below b56)
      have HB6 := Lib.hid (HB4.out.trans (b56.mono HB4.out.size))
      have HX6 := Lib.hid (hXf.below b6)
      have HR6 := Lib.hid (show RowIn w6 g (X.length * 2) by
        obtain ⟨cur, h1, h2⟩ := hgr.1
        exact ⟨cur, (b6.block g (Array.getElem?_eq_some_iff.1 h1).1).trans h1, h2⟩)
      have HMx6 := Lib.hid (show MsgIn w6 Kx ty (.slice (some ⟨g, 0, none⟩) X.length cap) by rw [← eKx, ← e6]; exact msgIn_new w5 ty _)
      have HEX := Lib.hid eX
      have HGK := Lib.hid (show g < Kx by
        obtain ⟨cur, h1, _⟩ := hgr.1
        rw [← eKx]
        exact (Array.getElem?_eq_some_iff.1 h1).1)
      have HS4 := Lib.hid (show (B < w4.heap.size ∧ Kb < w4.heap.size) from ⟨World.block_lt_of_cell? w4 ⟨B, 0, none⟩ HM4.out.1, World.block_lt_of_cell? w4 ⟨Kb, 0, none⟩ HMo4.out.1⟩)
      have HF4b := Lib.hid HF4.out
      have HFs4b := Lib.hid HFs4.out
      have HM4b := Lib.hid HM4.out
      have HMo4b := Lib.hid HMo4.out
      have HB4b := Lib.hid HB4.out
      have HB46 := Lib.hid b56
      have HG4 := Lib.hid hgr.2
      have HKS := Lib.hid (show Kx < w6.heap.size by rw [← eKx, ← e6]; simp)
      clear m0 m1 b5 b6 b56 hX hXf hgr eX hxl HM4 HMo4 HB4
      subst e6 eKx
      obtain ⟨m0, m1⟩ := HM6.out
      go_wp2_with fail
      refine (rset_any HF6.out (by have := HN.out.1; omega) ty no t).mono ?_
      rw [HEX.out]
      rintro e w7 ⟨p7, c7, rfl, hY, b7⟩
      obtain ⟨w8, e8⟩ : ∃ W, w7.alloc (.cells #[.int .i64 ty, .slice p7 X.length c7] 24) = W := ⟨_, rfl⟩
      have b8 : Below w7.heap.size w7 w8 := by rw [← e8]; exact alloc_below _ _
      have b78 := b7.trans (b8.mono b7.size)
      obtain ⟨Ky, eKy⟩ : ∃ k, w7.heap.size = k := ⟨_, rfl⟩
      have HM8 := Lib.hid (HM6.out.below b78)
      have HMo8 := Lib.hid (HMo6.out.below b78)
      have HF8 := Lib.hid (HF6.out.below b78)
      have HFs8 := Lib.hid (HFs6.out.below b78)
      have HB8 := Lib.hid (HB6.out.trans (b78.mono HB6.out.size))
      have HX8 := Lib.hid (HX6.out.below b78)
      have HR8 := Lib.hid (show RowIn w8 g (X.length * 2) by
        obtain ⟨cur, h1, h2⟩ := HR6.out
        exact ⟨cur, (b78.block g (Array.getElem?_eq_some_iff.1 h1).1).trans h1, h2⟩)
      have HMx8 := Lib.hid (HMx6.out.below b78)
      have HMy8 := Lib.hid (show MsgIn w8 Ky ty (.slice p7 X.length c7) by rw [← eKy, ← e8]; exact msgIn_new w7 ty _)
      have HY8 := Lib.hid (hY.below b8)
      have HB48 := Lib.hid (HB46.out.trans (b78.mono HB46.out.size))
      have HKS8 := Lib.hid (Nat.lt_of_lt_of_le HKS.out b78.size)
      clear m0 m1 b7 b8 b78 hY HM6 HMo6 HF6 HFs6 HB6 HX6 HR6 HMx6
      subst e8 eKy
      obtain ⟨x0, x1⟩ := HMx8.out
      obtain ⟨y0, y1⟩ := HMy8.out
      go_wp2_with fail
      have hxl8 : X.length ≤ 1048576 := by have h1 := HXL.out.2; have h2 := HN.out.1; omega
      refine (same_w HX8.out HY8.out hxl8 ty ty (b := true) (by rw [decide_eq_true rfl, decide_eq_true rfl]; rfl)).mono ?_
      rintro e w9 ⟨rfl, b9⟩
      have HB49 := Lib.hid (HB48.out.trans (b9.mono HB48.out.size))
      have HMx9 := Lib.hid (HMx8.out.below b9)
      have HR9 := Lib.hid (show RowIn w9 g (X.length * 2) by
        obtain ⟨cur, h1, h2⟩ := HR8.out
        exact ⟨cur, (b9.block g (Array.getElem?_eq_some_iff.1 h1).1).trans h1, h2⟩)
      have HK9 := Lib.hid (World.block_lt_of_cell? w9 ⟨w5.heap.size, 0, none⟩ HMx9.out.1)
      clear x0 x1 y0 y1 b9 HM8 HMo8 HF8 HFs8 HB8 HX8 HR8 HMx8 HMy8 HY8 HB46 HB48 HKS HKS8 HX5 HGR HF4 HFs4
      go_wp2_with fail
      go_loopw [15] (fun iv wr => ∃ i : Nat, i ≤ X.length ∧ iv = .int .i64 i ∧ Turn [g] w9 wr ∧ RowIn wr g (X.length * 2)) (fun iv _ => X.length - (intOf iv).toNat)
      case atStart => exact ⟨0, Nat.zero_le _, rfl, Turn.refl _ _, HR9.out⟩
      case round =>
        obtain ⟨i, hi, rfl, ht, hrow⟩ := hrel
        have hxk : ∀ j, wr.cell? ⟨w5.heap.size, j, none⟩ = w9.cell? ⟨w5.heap.size, j, none⟩ := fun j => World.cell?_of_block (a := ⟨w5.heap.size, j, none⟩) (ht.block _ HK9.out (by have := HGK.out; simp; omega))
        have x0 := (hxk 0).trans HMx9.out.1
        have x1 := (hxk 1).trans HMx9.out.2
        clear hxk
        have HTn := Lib.hid ht
        by_cases hlt : i < X.length
        · have hlt' : (i : Int) < X.length := by omega
          obtain ⟨⟨u, hu⟩, hfz⟩ := hrow.cell (j := i * 2 + 1) (by omega)
          have HRn := Lib.hid (hrow.set (i * 2 + 1) (.string ⟨#[115, 112, 111, 105, 108, 116]⟩))
          have HTm := Lib.hid (ht.set (b := g) (.inl (by simp)) (i * 2 + 1) (.string ⟨#[115, 112, 111, 105, 108, 116]⟩))
          clear ht hrow
          go_wp2_with fail
          go_roundw
          case rel => exact ⟨i + 1, by omega, by go_num, HTm.out, HRn.out⟩
          case measure => simp [intOf]; omega
        · have hge : ¬ (i : Int) < X.length := by omega
          have b10 := HB49.out.trans (HTn.out.below HB49.out.size (by have := HG4.out; simpa using this))
          have HB10 := Lib.hid (HB4b.out.trans (b10.mono HB4b.out.size))
          have HM10 := Lib.hid (HM4b.out.below b10)
          have HMo10 := Lib.hid (HMo4b.out.below b10)
          have HF10 := Lib.hid (HF4b.out.below b10)
          have HFs10 := Lib.hid (HFs4b.out.below b10)
          clear ht hrow b10 HTn
          obtain ⟨o0, o1⟩ := HMo10.out
          go_wp2_with fail
          refine (set_any HFs10.out (by have := HN.out.1; omega) ty no t).mono ?_
          rintro e w11 ⟨v11, rfl, hX, b11⟩
          have hX2 := hX.fs (by have h1 := HXL.out.2; have h2 := HN.out.1; rw [HEX.out]; simp only [maxLen]; omega)
          have HX11 := Lib.hid hX2
          have HM11 := Lib.hid (HM10.out.below b11)
          have HMo11 := Lib.hid (HMo10.out.below b11)
          have HF11 := Lib.hid (HF10.out.below b11)
          have HFs11 := Lib.hid (HFs10.out.below b11)
          have HB11 := Lib.hid (HB10.out.trans (b11.mono HB10.out.size))
          obtain ⟨p11, c11, rfl⟩ := hX2.shape
          clear o0 o1 b11 hX hX2 x0 x1
          have HGS := Lib.hid (get_set F no t)
          go_wp2_with fail
          refine (get_any HX11.out ty no).mono ?_
          rintro e w12 ⟨rfl, b12⟩
          rw [HGS.out]
          have HF12 := Lib.hid (HF11.out.below b12)
          have HFs12 := Lib.hid (HFs11.out.below b12)
          have HB12 := Lib.hid (HB11.out.trans (b12.mono HB11.out.size))
          obtain ⟨m0, m1⟩ := HM11.out.below b12
          obtain ⟨o0, o1⟩ := HMo11.out.below b12
          clear b12
          go_wp2_with fail
          refine (same_w HFs12.out HF12.out (by have := HN.out.1; omega) ty ty (b := true) (by rw [decide_eq_true rfl, decide_eq_true rfl]; rfl)).mono ?_
          rintro e w13 ⟨rfl, b13⟩
          have HB13 := Lib.hid (HB12.out.trans (b13.mono HB12.out.size))
          clear b13 m0 m1 o0 o1
          go_wp2_with fail
          go_ret
          exact ⟨rfl, HB13.out⟩
  · refine step_al rfl rfl (fun Kb wn hb hK1 hK2 => ?_)
    try (have HF2 := Lib.hid (HFo.out.below hb); clear HFo; have HFo := HF2; clear HF2)
    have HKl := Lib.hid (Nat.le_trans HBc.out.size hK1)
    have HKr := Lib.hid (And.intro (show Kb < wn.heap.size from (Array.getElem?_eq_some_iff.1 hK2).1) hK2)
    have HBn := Lib.hid (HBc.out.trans (hb.mono HBc.out.size))
    clear hb hK1 hK2 HBc
    have HBc := HBn
    clear HBn
    refine hK.out _ _ ((HM1.out.below HBc.out)) (fun hHeld => ?_)
    clear hK K
    try simp only [Act.put, List.setIfInBounds_toArray, List.set_cons_zero, List.set_cons_succ]
    refine wpAnyH_ready (rs := [2]) (by kernel_rfl) (by simp) (AllReadyH.cons (o := { dst := some 21, op := Op.buildSlice 22 0 #[], type := 22, pos := "law.go:86", after := #[], guard := none }) rfl (fun K hK => ?_) AllReadyH.nil)
    refine step_bs rfl rfl (fun E wn hb => ?_)
    have HBn := Lib.hid (HBc.out.trans (hb.mono HBc.out.size))
    try (have HK2 := Lib.hid (show _ from And.intro (Nat.lt_of_lt_of_le HKr.out.1 hb.size) ((hb.block _ HKr.out.1).trans HKr.out.2)); clear HKr; have HKr := HK2; clear HK2)
    clear hb HBc
    have HBc := HBn
    clear HBn
    refine hK.out _ _ ((HM1.out.below HBc.out)) (fun hHeld => ?_)
    clear hK K
    try simp only [Act.put, List.setIfInBounds_toArray, List.set_cons_zero, List.set_cons_succ]
    refine wpAnyH_ready (rs := [5]) (by kernel_rfl) (by simp) (AllReadyH.cons (o := { dst := some 24, op := Op.call { callee := Callee.builtin Builtin.append, args := #[Operand.tmp 21, Operand.tmp 23], argTypes := #[22, 22] }, type := 22, pos := "law.go:86", after := #[{ on := 2, ground := Ground.data }, { on := 4, ground := Ground.data }], guard := none }) rfl (fun K hK => ?_) AllReadyH.nil)
    refine step_own rfl (.tmp 21) (.tmp 23) rfl rfl rfl (HF1.out.below HBc.out) (by have := HN.out.1; omega) (fun p5 c5 wn hf hb => ?_)
    have HFo := Lib.hid (fbuf_lower hf HBc.out.size)
    have HBn := Lib.hid (HBc.out.trans (hb.mono HBc.out.size))
    try (have HK2 := Lib.hid (show _ from And.intro (Nat.lt_of_lt_of_le HKr.out.1 hb.size) ((hb.block _ HKr.out.1).trans HKr.out.2)); clear HKr; have HKr := HK2; clear HK2)
    clear hb hf HBc
    have HBc := HBn
    clear HBn
    refine hK.out _ _ ((HM1.out.below HBc.out)) (fun hHeld => ?_)
    clear hK K
    try simp only [Act.put, List.setIfInBounds_toArray, List.set_cons_zero, List.set_cons_succ]
    refine wpAnyH_take (i := 6) (oi := { dst := some 25, op := Op.build 24 #[(0, Operand.tmp 20), (1, Operand.tmp 24)], type := 24, pos := "law.go:86", after := #[{ on := 1, ground := Ground.data }, { on := 5, ground := Ground.data }], guard := none }) (v := ?_) rfl (by kernel_rfl) (by kernel_rfl) (by kernel_rfl) (fun _ _ _ h => h) (Or.inl ⟨by rfl, ?hyown488⟩) (by assumption) ?restown488
    case hyown488 => (intro w hSw; (try dsimp only at hSw); go_simp; try with_reducible rfl)
    try simp only [Act.put, List.setIfInBounds_toArray, List.set_cons_zero, List.set_cons_succ]
    refine wpAnyH_ready (rs := [8]) (by kernel_rfl) (by simp) (AllReadyH.cons (o := { dst := none, op := Op.store 24 (Operand.tmp 8) (Operand.tmp 25), type := 0, pos := "law.go:86", after := #[{ on := 7, ground := Ground.data }, { on := 6, ground := Ground.data }, { on := 5, ground := Ground.chain }, { on := 0, ground := Ground.phase }, { on := 1, ground := Ground.phase }, { on := 2, ground := Ground.phase }, { on := 3, ground := Ground.phase }, { on := 4, ground := Ground.phase }, { on := 5, ground := Ground.phase }, { on := 6, ground := Ground.phase }, { on := 7, ground := Ground.phase }], guard := none }) rfl (fun K hK => ?_) AllReadyH.nil)
    have hst := store_all (ty := 24) HKr.out.2 info32s rfl #[.int .i64 ty, .slice p5 F.length c5] rfl rfl
    refine step_nov rfl (exec_store 24 (.tmp 8) (.tmp 25) rfl ⟨Kb, 0, none⟩ rfl _ rfl hst) ?_
    clear hst
    have HFn := Lib.hid (fbuf_setRow HFo.out HKr.out.2 #[.int .i64 ty, .slice p5 F.length c5])
    have HBn := Lib.hid (below_setRow HBc.out HKl.out #[.int .i64 ty, .slice p5 F.length c5])
    have hKn := setRow_block HKr.out.2 (cs' := #[.int .i64 ty, .slice p5 F.length c5])
    have HMo := Lib.hid (show MsgIn _ Kb ty (.slice p5 F.length c5) from ⟨(cells_at hKn 0).trans rfl, (cells_at hKn 1).trans rfl⟩)
    clear HFo HBc HKr hKn
    have HBc := HBn
    clear HBn
    refine hK.out _ _ ((HM1.out.below HBc.out)) (fun hHeld => ?_)
    clear hK K
    refine wpAnyH_done (by kernel_rfl) ?_ _
    clear hHeld m0 m1
    obtain ⟨w2, e2⟩ : ∃ W, World.setRow wn Kb #[.int .i64 ty, .slice p5 F.length c5] = W := ⟨_, rfl⟩
    rw [e2] at HFn HBc HMo ⊢
    clear e2 HKl
    have HFs := Lib.hid (HFn.out.fs (by have := HN.out.1; simp only [maxLen]; omega))
    have HM2 := Lib.hid (HM1.out.below HBc.out)
    have HF2 := Lib.hid (HF1.out.below HBc.out)
    have HB2 := Lib.hid (HB1.out.trans (HBc.out.mono HB1.out.size))
    clear HFn HBc HM1 HF1 HB1 HT1
    obtain ⟨m0, m1⟩ := HMo.out
    obtain ⟨gs, gb, eg⟩ : ∃ s b, (getM F no).getD ⟨#[]⟩ = s ∧ (getM F no).isSome = b := ⟨_, _, rfl, rfl⟩
    have HG := Lib.hid eg
    clear eg
    go_wp2_with fail
    refine (get_any HFs.out ty no).mono ?_
    rintro e w3 ⟨rfl, b3⟩
    rw [HG.out.1, HG.out.2]
    have HM3 := Lib.hid (HM2.out.below b3)
    have HMo3 := Lib.hid (HMo.out.below b3)
    have HF3 := Lib.hid (HF2.out.below b3)
    have HFs3 := Lib.hid (HFs.out.below b3)
    have HB3 := Lib.hid (HB2.out.trans (b3.mono HB2.out.size))
    clear m0 m1 b3 HM2 HMo HF2 HFs HB2
    obtain ⟨m0, m1⟩ := HM3.out
    go_wp2_with fail
    refine (rget_any HF3.out ty no).mono ?_
    rintro e w4 ⟨rfl, b4⟩
    rw [HG.out.1, HG.out.2]
    have HM4 := Lib.hid (HM3.out.below b4)
    have HMo4 := Lib.hid (HMo3.out.below b4)
    have HF4 := Lib.hid (HF3.out.below b4)
    have HFs4 := Lib.hid (HFs3.out.below b4)
    have HB4 := Lib.hid (HB3.out.trans (b4.mono HB3.out.size))
    clear m0 m1 b4 HM3 HMo3 HF3 HFs3 HB3
    obtain ⟨m0, m1⟩ := HMo4.out
    go_wp2_with fail
    refine (set_any HFs4.out (by have := HN.out.1; omega) ty no t).mono ?_
    rintro e w5 ⟨v5, rfl, hX, b5⟩
    obtain ⟨X, eX⟩ : ∃ X, setM F no t = X := ⟨_, rfl⟩
    have hxl := setM_len F no t
    rw [eX] at hX hxl
    have HXL := Lib.hid hxl
    have hXf := hX.fs (by have := HN.out.1; simp only [maxLen]; omega)
    obtain ⟨g, cap, rfl, hgr⟩ : ∃ g cap, v5 = .slice (some ⟨g, 0, none⟩) X.length cap ∧ RowIn w5 g (X.length * 2) ∧ w4.heap.size ≤ g := by
      obtain ⟨⟨_, ⟨h0, _⟩ | ⟨g, cap, cur, e1, e2, e3, e4, e5, e6, _⟩⟩, hn⟩ := hX
      · omega
      · exact ⟨g, cap, e1, ⟨cur, e2, by rw [e6]; exact Nat.mul_le_mul_right 2 e3⟩, hn g (by rw [e1]; simp [bufBlock]; omega)⟩
    have HX5 := Lib.hid hXf
    have HGR := Lib.hid hgr
    obtain ⟨w6, e6⟩ : ∃ W, w5.alloc (.cells #[.int .i64 ty, .slice (some ⟨g, 0, none⟩) X.length cap] 24) = W := ⟨_, rfl⟩
    have b6 : Below w5.heap.size w5 w6 := by rw [← e6]; exact alloc_below _ _
    have b56 := b5.trans (b6.mono b5.size)
    obtain ⟨Kx, eKx⟩ : ∃ k, w5.heap.size = k := ⟨_, rfl⟩
    have HM6 := Lib.hid (HM4.out.below b56)
    have HMo6 := Lib.hid (HMo4.out.below b56)
    have HF6 := Lib.hid (HF4.out.below b56)
    have HFs6 := Lib.hid (HFs4.out.below b56)
    have HB6 := Lib.hid (HB4.out.trans (b56.mono HB4.out.size))
    have HX6 := Lib.hid (hXf.below b6)
    have HR6 := Lib.hid (show RowIn w6 g (X.length * 2) by
      obtain ⟨cur, h1, h2⟩ := hgr.1
      exact ⟨cur, (b6.block g (Array.getElem?_eq_some_iff.1 h1).1).trans h1, h2⟩)
    have HMx6 := Lib.hid (show MsgIn w6 Kx ty (.slice (some ⟨g, 0, none⟩) X.length cap) by rw [← eKx, ← e6]; exact msgIn_new w5 ty _)
    have HEX := Lib.hid eX
    have HGK := Lib.hid (show g < Kx by
      obtain ⟨cur, h1, _⟩ := hgr.1
      rw [← eKx]
      exact (Array.getElem?_eq_some_iff.1 h1).1)
    have HS4 := Lib.hid (show (B < w4.heap.size ∧ Kb < w4.heap.size) from ⟨World.block_lt_of_cell? w4 ⟨B, 0, none⟩ HM4.out.1, World.block_lt_of_cell? w4 ⟨Kb, 0, none⟩ HMo4.out.1⟩)
    have HF4b := Lib.hid HF4.out
    have HFs4b := Lib.hid HFs4.out
    have HM4b := Lib.hid HM4.out
    have HMo4b := Lib.hid HMo4.out
    have HB4b := Lib.hid HB4.out
    have HB46 := Lib.hid b56
    have HG4 := Lib.hid hgr.2
    have HKS := Lib.hid (show Kx < w6.heap.size by rw [← eKx, ← e6]; simp)
    clear m0 m1 b5 b6 b56 hX hXf hgr eX hxl HM4 HMo4 HB4
    subst e6 eKx
    obtain ⟨m0, m1⟩ := HM6.out
    go_wp2_with fail
    refine (rset_any HF6.out (by have := HN.out.1; omega) ty no t).mono ?_
    rw [HEX.out]
    rintro e w7 ⟨p7, c7, rfl, hY, b7⟩
    obtain ⟨w8, e8⟩ : ∃ W, w7.alloc (.cells #[.int .i64 ty, .slice p7 X.length c7] 24) = W := ⟨_, rfl⟩
    have b8 : Below w7.heap.size w7 w8 := by rw [← e8]; exact alloc_below _ _
    have b78 := b7.trans (b8.mono b7.size)
    obtain ⟨Ky, eKy⟩ : ∃ k, w7.heap.size = k := ⟨_, rfl⟩
    have HM8 := Lib.hid (HM6.out.below b78)
    have HMo8 := Lib.hid (HMo6.out.below b78)
    have HF8 := Lib.hid (HF6.out.below b78)
    have HFs8 := Lib.hid (HFs6.out.below b78)
    have HB8 := Lib.hid (HB6.out.trans (b78.mono HB6.out.size))
    have HX8 := Lib.hid (HX6.out.below b78)
    have HR8 := Lib.hid (show RowIn w8 g (X.length * 2) by
      obtain ⟨cur, h1, h2⟩ := HR6.out
      exact ⟨cur, (b78.block g (Array.getElem?_eq_some_iff.1 h1).1).trans h1, h2⟩)
    have HMx8 := Lib.hid (HMx6.out.below b78)
    have HMy8 := Lib.hid (show MsgIn w8 Ky ty (.slice p7 X.length c7) by rw [← eKy, ← e8]; exact msgIn_new w7 ty _)
    have HY8 := Lib.hid (hY.below b8)
    have HB48 := Lib.hid (HB46.out.trans (b78.mono HB46.out.size))
    have HKS8 := Lib.hid (Nat.lt_of_lt_of_le HKS.out b78.size)
    clear m0 m1 b7 b8 b78 hY HM6 HMo6 HF6 HFs6 HB6 HX6 HR6 HMx6
    subst e8 eKy
    obtain ⟨x0, x1⟩ := HMx8.out
    obtain ⟨y0, y1⟩ := HMy8.out
    go_wp2_with fail
    have hxl8 : X.length ≤ 1048576 := by have h1 := HXL.out.2; have h2 := HN.out.1; omega
    refine (same_w HX8.out HY8.out hxl8 ty ty (b := true) (by rw [decide_eq_true rfl, decide_eq_true rfl]; rfl)).mono ?_
    rintro e w9 ⟨rfl, b9⟩
    have HB49 := Lib.hid (HB48.out.trans (b9.mono HB48.out.size))
    have HMx9 := Lib.hid (HMx8.out.below b9)
    have HR9 := Lib.hid (show RowIn w9 g (X.length * 2) by
      obtain ⟨cur, h1, h2⟩ := HR8.out
      exact ⟨cur, (b9.block g (Array.getElem?_eq_some_iff.1 h1).1).trans h1, h2⟩)
    have HK9 := Lib.hid (World.block_lt_of_cell? w9 ⟨w5.heap.size, 0, none⟩ HMx9.out.1)
    clear x0 x1 y0 y1 b9 HM8 HMo8 HF8 HFs8 HB8 HX8 HR8 HMx8 HMy8 HY8 HB46 HB48 HKS HKS8 HX5 HGR HF4 HFs4
    go_wp2_with fail
    go_loopw [15] (fun iv wr => ∃ i : Nat, i ≤ X.length ∧ iv = .int .i64 i ∧ Turn [g] w9 wr ∧ RowIn wr g (X.length * 2)) (fun iv _ => X.length - (intOf iv).toNat)
    case atStart => exact ⟨0, Nat.zero_le _, rfl, Turn.refl _ _, HR9.out⟩
    case round =>
      obtain ⟨i, hi, rfl, ht, hrow⟩ := hrel
      have hxk : ∀ j, wr.cell? ⟨w5.heap.size, j, none⟩ = w9.cell? ⟨w5.heap.size, j, none⟩ := fun j => World.cell?_of_block (a := ⟨w5.heap.size, j, none⟩) (ht.block _ HK9.out (by have := HGK.out; simp; omega))
      have x0 := (hxk 0).trans HMx9.out.1
      have x1 := (hxk 1).trans HMx9.out.2
      clear hxk
      have HTn := Lib.hid ht
      by_cases hlt : i < X.length
      · have hlt' : (i : Int) < X.length := by omega
        obtain ⟨⟨u, hu⟩, hfz⟩ := hrow.cell (j := i * 2 + 1) (by omega)
        have HRn := Lib.hid (hrow.set (i * 2 + 1) (.string ⟨#[115, 112, 111, 105, 108, 116]⟩))
        have HTm := Lib.hid (ht.set (b := g) (.inl (by simp)) (i * 2 + 1) (.string ⟨#[115, 112, 111, 105, 108, 116]⟩))
        clear ht hrow
        go_wp2_with fail
        go_roundw
        case rel => exact ⟨i + 1, by omega, by go_num, HTm.out, HRn.out⟩
        case measure => simp [intOf]; omega
      · have hge : ¬ (i : Int) < X.length := by omega
        have b10 := HB49.out.trans (HTn.out.below HB49.out.size (by have := HG4.out; simpa using this))
        have HB10 := Lib.hid (HB4b.out.trans (b10.mono HB4b.out.size))
        have HM10 := Lib.hid (HM4b.out.below b10)
        have HMo10 := Lib.hid (HMo4b.out.below b10)
        have HF10 := Lib.hid (HF4b.out.below b10)
        have HFs10 := Lib.hid (HFs4b.out.below b10)
        clear ht hrow b10 HTn
        obtain ⟨o0, o1⟩ := HMo10.out
        go_wp2_with fail
        refine (set_any HFs10.out (by have := HN.out.1; omega) ty no t).mono ?_
        rintro e w11 ⟨v11, rfl, hX, b11⟩
        have hX2 := hX.fs (by have h1 := HXL.out.2; have h2 := HN.out.1; rw [HEX.out]; simp only [maxLen]; omega)
        have HX11 := Lib.hid hX2
        have HM11 := Lib.hid (HM10.out.below b11)
        have HMo11 := Lib.hid (HMo10.out.below b11)
        have HF11 := Lib.hid (HF10.out.below b11)
        have HFs11 := Lib.hid (HFs10.out.below b11)
        have HB11 := Lib.hid (HB10.out.trans (b11.mono HB10.out.size))
        obtain ⟨p11, c11, rfl⟩ := hX2.shape
        clear o0 o1 b11 hX hX2 x0 x1
        have HGS := Lib.hid (get_set F no t)
        go_wp2_with fail
        refine (get_any HX11.out ty no).mono ?_
        rintro e w12 ⟨rfl, b12⟩
        rw [HGS.out]
        have HF12 := Lib.hid (HF11.out.below b12)
        have HFs12 := Lib.hid (HFs11.out.below b12)
        have HB12 := Lib.hid (HB11.out.trans (b12.mono HB11.out.size))
        obtain ⟨m0, m1⟩ := HM11.out.below b12
        obtain ⟨o0, o1⟩ := HMo11.out.below b12
        clear b12
        go_wp2_with fail
        refine (same_w HFs12.out HF12.out (by have := HN.out.1; omega) ty ty (b := true) (by rw [decide_eq_true rfl, decide_eq_true rfl]; rfl)).mono ?_
        rintro e w13 ⟨rfl, b13⟩
        have HB13 := Lib.hid (HB12.out.trans (b13.mono HB12.out.size))
        clear b13 m0 m1 o0 o1
        go_wp2_with fail
        go_ret
        exact ⟨rfl, HB13.out⟩
end Go.Proofs.YtommklkihjmgcaaGreatDoor.msgw
