/- Layer 5: MessageWrites, walked. Conditions: as each theorem says. -/
import Derived.Test.YtommklkihjmgcaaGreatDoorRefEncX
import Derived.Test.YtommklkihjmgcaaGreatDoorLawY
import Derived.Test.YtommklkihjmgcaaGreatDoorOwn
import Derived.Deep.DeepCutAuto
import Derived.Test.YtommklkihjmgcaaGreatDoorWInvWords
import Derived.Test.YtommklkihjmgcaaGreatDoorWApart
namespace Go.Proofs.YtommklkihjmgcaaGreatDoor.msgr
open Go.RowKit Go.Proofs.YtommklkihjmgcaaGreatDoorW.PrintWords Go.Proofs.YtommklkihjmgcaaGreatDoor.fieldp Go.Proofs.YtommklkihjmgcaaGreatDoor.fieldw Go.Proofs.YtommklkihjmgcaaGreatDoor.fieldl Go.Proofs.YtommklkihjmgcaaGreatDoor.msgp Go.Proofs.YtommklkihjmgcaaGreatDoor.msgw Go.Proofs.YtommklkihjmgcaaGreatDoor.buf
theorem checkP_any {w : World} {v : Value} {F : Flds} (h : FsAt w v F) (hT : Tabs w) (ty : Int) (hS : ∀ x ∈ F, x.2.size ≤ 100000000) {n : Int} (hn : erZ (checkM ty F) = n) :
    Calls Tryz.prog 22 #[.agg #[.int .i64 ty, v]] w fun e w' => e = .returned (.int .i64 n) ∧ Below w.heap.size w w' := by
  obtain ⟨p, c, rfl⟩ := h.shape
  obtain ⟨w0, e0⟩ : ∃ W, w.alloc (.cells #[.int .i64 ty, .slice p F.length c] 24) = W := ⟨_, rfl⟩
  have b0 : Below w.heap.size w w0 := by rw [← e0]; exact alloc_below _ _
  have k0 : MsgIn w0 w.heap.size ty (.slice p F.length c) := by rw [← e0]; exact msgIn_new w ty _
  have HC := Lib.hid (check_all (h.below b0) (hT.below b0) ty hS)
  have HT := Lib.hid (hT.below b0)
  have HB0 := Lib.hid b0
  have HN := Lib.hid hn
  obtain ⟨m0, m1⟩ := k0
  subst e0
  clear h hT b0 hn
  go_enter Tryz.func22, Tryz.ntmps22
  go_wp2_with fail
  refine HC.out.mono ?_
  rintro e w1 ⟨ev, rfl, hev, b1⟩
  have HB1 := Lib.hid (HB0.out.trans (b1.mono HB0.out.size))
  have HTo := Lib.hid (told_all (HT.out.below b1).err hev)
  clear b1 m0 m1 hev
  go_wp2_with fail
  refine HTo.out.mono ?_
  rintro e w2 ⟨rfl, b2⟩
  have HB2 := Lib.hid (HB1.out.trans (b2.mono HB1.out.size))
  clear b2
  rw [HN.out]
  go_wp2_with fail
  go_ret
  exact ⟨rfl, HB2.out⟩
set_option maxHeartbeats 4000000 in
set_option maxRecDepth 100000 in
theorem writes_any {w : World} {v : Value} {F : Flds} (h : FsAt w v F) (hT : Tabs5 w) (hS : ∀ x ∈ F, x.2.size ≤ 1048576) (hlen : F.length ≤ 1048576) (d ty : Int) :
    Calls Tryz.prog 8 #[.int .i64 d, .agg #[.int .i64 ty, v]] w fun e w' => e = .returned (.bool true) ∧ Below w.heap.size w w' := by
  obtain ⟨p, c, rfl⟩ := h.shape
  have hB : ∀ x ∈ F, x.2.size ≤ 100000000 := fun x hx => Nat.le_trans (hS x hx) (by decide)
  obtain ⟨B, eB⟩ : ∃ b, w.heap.size = b := ⟨_, rfl⟩
  obtain ⟨w0, e0⟩ : ∃ W, w.alloc (.cells #[.int .i64 ty, .slice p F.length c] 24) = W := ⟨_, rfl⟩
  have b0 : Below w.heap.size w w0 := by rw [← e0]; exact alloc_below _ _
  have k0 : MsgIn w0 B ty (.slice p F.length c) := by rw [← eB, ← e0]; exact msgIn_new w ty _
  have HT := Lib.hid (hT.below b0)
  have HF := Lib.hid (h.below b0)
  have HB0 := Lib.hid b0
  have K0 := Lib.hid k0
  have E0 := Lib.hid e0
  have HS := Lib.hid hS
  have HBg := Lib.hid hB
  have HN := Lib.hid (And.intro hlen trivial)
  clear h hT hS hB b0 k0 e0 hlen
  go_enter Tryz.func8, Tryz.ntmps8
  go_wp2_with fail
  rw [E0.out]
  refine (shown_any HT.out).mono ?_
  rintro e w1 ⟨rfl, b1⟩
  have HF1 := Lib.hid (HF.out.below b1)
  have HT1 := Lib.hid (HT.out.below b1)
  have HB1 := Lib.hid (HB0.out.trans (b1.mono HB0.out.size))
  have HM1 := Lib.hid (K0.out.below b1)
  clear b1 HF HB0 K0 E0 HT
  obtain ⟨m0, m1⟩ := HM1.out
  go_upto_region 2 with fail
  go_cut [6] (fun sv wx => ∃ Kb p5 c5, sv = .pointer (some ⟨Kb, 0, none⟩) ∧ MsgIn wx Kb ty (.slice p5 F.length c5) ∧ FsAt wx (.slice p5 F.length c5) F ∧ Below w1.heap.size w1 wx)
  case first =>
    have HBc := Lib.hid (show Below w1.heap.size w1 w1.drew from drew_below _)
    refine wp_region_held_drew (S := (fun W => MsgIn W B ty (.slice p F.length c))) (by kernel_rfl) (HM1.out) (fun hHeld => ?_)
    refine wpAnyH_take (i := 0) (oi := { dst := some 12, op := Op.fieldAddr 24 (Operand.tmp 3) 0, type := 0, pos := _, after := _, guard := _ }) (v := ?_) rfl (by kernel_rfl) (by kernel_rfl) (by kernel_rfl) (fun _ _ _ h => h) (Or.inl ⟨by rfl, ?hyown1⟩) (by assumption) ?restown1
    case hyown1 => (intro W hSw; obtain ⟨s0, s1⟩ := hSw; go_simp; try with_reducible rfl)
    try simp only [Act.put, List.setIfInBounds_toArray, List.set_cons_zero, List.set_cons_succ]
    refine wpAnyH_take (i := 1) (oi := { dst := some 13, op := Op.load 3 (Operand.tmp 12), type := 3, pos := _, after := _, guard := _ }) (v := ?_) rfl (by kernel_rfl) (by kernel_rfl) (by kernel_rfl) (fun _ _ _ h => h) (Or.inl ⟨by rfl, ?hyown4⟩) (by assumption) ?restown4
    case hyown4 => (intro W hSw; obtain ⟨s0, s1⟩ := hSw; go_simp; try with_reducible rfl)
    try simp only [Act.put, List.setIfInBounds_toArray, List.set_cons_zero, List.set_cons_succ]
    refine wpAnyH_take (i := 3) (oi := { dst := some 15, op := Op.fieldAddr 24 (Operand.tmp 3) 1, type := 0, pos := _, after := _, guard := _ }) (v := ?_) rfl (by kernel_rfl) (by kernel_rfl) (by kernel_rfl) (fun _ _ _ h => h) (Or.inl ⟨by rfl, ?hyown7⟩) (by assumption) ?restown7
    case hyown7 => (intro W hSw; obtain ⟨s0, s1⟩ := hSw; go_simp; try with_reducible rfl)
    try simp only [Act.put, List.setIfInBounds_toArray, List.set_cons_zero, List.set_cons_succ]
    refine wpAnyH_take (i := 4) (oi := { dst := some 16, op := Op.load 22 (Operand.tmp 15), type := 22, pos := _, after := _, guard := _ }) (v := ?_) rfl (by kernel_rfl) (by kernel_rfl) (by kernel_rfl) (fun _ _ _ h => h) (Or.inl ⟨by rfl, ?hyown10⟩) (by assumption) ?restown10
    case hyown10 => (intro W hSw; obtain ⟨s0, s1⟩ := hSw; go_simp; try with_reducible rfl)
    try simp only [Act.put, List.setIfInBounds_toArray, List.set_cons_zero, List.set_cons_succ]
    refine wpAnyH_ready (rs := [2, 7]) (by kernel_rfl) (by simp) (AllReadyH.cons (o := { dst := some 14, op := Op.buildSlice 22 0 #[], type := 22, pos := _, after := _, guard := _ }) rfl (fun K hK => ?_) (AllReadyH.cons (o := { dst := some 6, op := Op.alloc 24, type := 0, pos := _, after := _, guard := _ }) rfl (fun K hK => ?_) AllReadyH.nil))
    · refine step_bs rfl rfl (fun E wn hb => ?_)
      have HBn := Lib.hid (HBc.out.trans (hb.mono HBc.out.size))
      try (have HK2 := Lib.hid (show _ from And.intro (Nat.lt_of_lt_of_le HKr.out.1 hb.size) ((hb.block _ HKr.out.1).trans HKr.out.2)); clear HKr; have HKr := HK2; clear HK2)
      clear hb HBc
      have HBc := HBn
      clear HBn
      refine hK.out _ _ ((HM1.out.below HBc.out)) (fun hHeld => ?_)
      clear hK K
      try simp only [Act.put, List.setIfInBounds_toArray, List.set_cons_zero, List.set_cons_succ]
      refine wpAnyH_ready (rs := [5, 7]) (by kernel_rfl) (by simp) (AllReadyH.cons (o := { dst := some 17, op := Op.call { callee := Callee.builtin Builtin.append, args := #[Operand.tmp 14, Operand.tmp 16], argTypes := #[22, 22] }, type := 22, pos := _, after := _, guard := _ }) rfl (fun K hK => ?_) (AllReadyH.cons (o := { dst := some 6, op := Op.alloc 24, type := 0, pos := _, after := _, guard := _ }) rfl (fun K hK => ?_) AllReadyH.nil))
      · refine step_own rfl (.tmp 14) (.tmp 16) rfl rfl rfl (HF1.out.below HBc.out) (by have := HN.out.1; omega) (fun p5 c5 wn hf hb => ?_)
        have HFo := Lib.hid (fbuf_lower hf HBc.out.size)
        have HBn := Lib.hid (HBc.out.trans (hb.mono HBc.out.size))
        try (have HK2 := Lib.hid (show _ from And.intro (Nat.lt_of_lt_of_le HKr.out.1 hb.size) ((hb.block _ HKr.out.1).trans HKr.out.2)); clear HKr; have HKr := HK2; clear HK2)
        clear hb hf HBc
        have HBc := HBn
        clear HBn
        refine hK.out _ _ ((HM1.out.below HBc.out)) (fun hHeld => ?_)
        clear hK K
        try simp only [Act.put, List.setIfInBounds_toArray, List.set_cons_zero, List.set_cons_succ]
        refine wpAnyH_take (i := 6) (oi := { dst := some 18, op := Op.build 24 #[(0, Operand.tmp 13), (1, Operand.tmp 17)], type := 24, pos := _, after := _, guard := _ }) (v := ?_) rfl (by kernel_rfl) (by kernel_rfl) (by kernel_rfl) (fun _ _ _ h => h) (Or.inl ⟨by rfl, ?hyown34⟩) (by assumption) ?restown34
        case hyown34 => (intro w hSw; (try dsimp only at hSw); go_simp; try with_reducible rfl)
        try simp only [Act.put, List.setIfInBounds_toArray, List.set_cons_zero, List.set_cons_succ]
        refine wpAnyH_ready (rs := [7]) (by kernel_rfl) (by simp) (AllReadyH.cons (o := { dst := some 6, op := Op.alloc 24, type := 0, pos := _, after := _, guard := _ }) rfl (fun K hK => ?_) AllReadyH.nil)
        refine step_al rfl rfl (fun Kb wn hb hK1 hK2 => ?_)
        try (have HF2 := Lib.hid (HFo.out.below hb); clear HFo; have HFo := HF2; clear HF2)
        have HKl := Lib.hid (Nat.le_trans HBc.out.size hK1)
        have HKr := Lib.hid (And.intro (show Kb < wn.heap.size from (Array.getElem?_eq_some_iff.1 hK2).1) hK2)
        have HBn := Lib.hid (HBc.out.trans (hb.mono HBc.out.size))
        clear hb hK1 hK2 HBc
        have HBc := HBn
        clear HBn
        refine hK.out _ _ ((HM1.out.below HBc.out)) (fun hHeld => ?_)
        clear hK K
        try simp only [Act.put, List.setIfInBounds_toArray, List.set_cons_zero, List.set_cons_succ]
        refine wpAnyH_ready (rs := [8]) (by kernel_rfl) (by simp) (AllReadyH.cons (o := { dst := none, op := Op.store 24 (Operand.tmp 6) (Operand.tmp 18), type := 0, pos := _, after := _, guard := _ }) rfl (fun K hK => ?_) AllReadyH.nil)
        have hst := store_all (ty := 24) HKr.out.2 info32s rfl #[.int .i64 ty, .slice p5 F.length c5] rfl rfl
        refine step_nov rfl (exec_store 24 (.tmp 6) (.tmp 18) rfl ⟨Kb, 0, none⟩ rfl _ rfl hst) ?_
        clear hst
        have HFn := Lib.hid (fbuf_setRow HFo.out HKr.out.2 #[.int .i64 ty, .slice p5 F.length c5])
        have HBn := Lib.hid (below_setRow HBc.out HKl.out #[.int .i64 ty, .slice p5 F.length c5])
        have hKn := setRow_block HKr.out.2 (cs' := #[.int .i64 ty, .slice p5 F.length c5])
        have HMo := Lib.hid (show MsgIn _ Kb ty (.slice p5 F.length c5) from ⟨(cells_at hKn 0).trans rfl, (cells_at hKn 1).trans rfl⟩)
        clear HFo HBc HKr hKn
        have HBc := HBn
        clear HBn
        refine hK.out _ _ ((HM1.out.below HBc.out)) (fun hHeld => ?_)
        clear hK K
        refine wpAnyH_done (by kernel_rfl) ?_ _
        clear hHeld m0 m1
        obtain ⟨w2, e2⟩ : ∃ W, World.setRow wn Kb #[.int .i64 ty, .slice p5 F.length c5] = W := ⟨_, rfl⟩
        rw [e2] at HFn HBc HMo ⊢
        clear e2 HKl
        have HFs := Lib.hid (HFn.out.fs (by have := HN.out.1; simp only [maxLen]; omega))
        go_wp2_with fail
        go_meet
        exact ⟨Kb, p5, c5, rfl, HMo.out, HFs.out, HBc.out⟩
      · refine step_al rfl rfl (fun Kb wn hb hK1 hK2 => ?_)
        try (have HF2 := Lib.hid (HFo.out.below hb); clear HFo; have HFo := HF2; clear HF2)
        have HKl := Lib.hid (Nat.le_trans HBc.out.size hK1)
        have HKr := Lib.hid (And.intro (show Kb < wn.heap.size from (Array.getElem?_eq_some_iff.1 hK2).1) hK2)
        have HBn := Lib.hid (HBc.out.trans (hb.mono HBc.out.size))
        clear hb hK1 hK2 HBc
        have HBc := HBn
        clear HBn
        refine hK.out _ _ ((HM1.out.below HBc.out)) (fun hHeld => ?_)
        clear hK K
        try simp only [Act.put, List.setIfInBounds_toArray, List.set_cons_zero, List.set_cons_succ]
        refine wpAnyH_ready (rs := [5]) (by kernel_rfl) (by simp) (AllReadyH.cons (o := { dst := some 17, op := Op.call { callee := Callee.builtin Builtin.append, args := #[Operand.tmp 14, Operand.tmp 16], argTypes := #[22, 22] }, type := 22, pos := _, after := _, guard := _ }) rfl (fun K hK => ?_) AllReadyH.nil)
        refine step_own rfl (.tmp 14) (.tmp 16) rfl rfl rfl (HF1.out.below HBc.out) (by have := HN.out.1; omega) (fun p5 c5 wn hf hb => ?_)
        have HFo := Lib.hid (fbuf_lower hf HBc.out.size)
        have HBn := Lib.hid (HBc.out.trans (hb.mono HBc.out.size))
        try (have HK2 := Lib.hid (show _ from And.intro (Nat.lt_of_lt_of_le HKr.out.1 hb.size) ((hb.block _ HKr.out.1).trans HKr.out.2)); clear HKr; have HKr := HK2; clear HK2)
        clear hb hf HBc
        have HBc := HBn
        clear HBn
        refine hK.out _ _ ((HM1.out.below HBc.out)) (fun hHeld => ?_)
        clear hK K
        try simp only [Act.put, List.setIfInBounds_toArray, List.set_cons_zero, List.set_cons_succ]
        refine wpAnyH_take (i := 6) (oi := { dst := some 18, op := Op.build 24 #[(0, Operand.tmp 13), (1, Operand.tmp 17)], type := 24, pos := _, after := _, guard := _ }) (v := ?_) rfl (by kernel_rfl) (by kernel_rfl) (by kernel_rfl) (fun _ _ _ h => h) (Or.inl ⟨by rfl, ?hyown93⟩) (by assumption) ?restown93
        case hyown93 => (intro w hSw; (try dsimp only at hSw); go_simp; try with_reducible rfl)
        try simp only [Act.put, List.setIfInBounds_toArray, List.set_cons_zero, List.set_cons_succ]
        refine wpAnyH_ready (rs := [8]) (by kernel_rfl) (by simp) (AllReadyH.cons (o := { dst := none, op := Op.store 24 (Operand.tmp 6) (Operand.tmp 18), type := 0, pos := _, after := _, guard := _ }) rfl (fun K hK => ?_) AllReadyH.nil)
        have hst := store_all (ty := 24) HKr.out.2 info32s rfl #[.int .i64 ty, .slice p5 F.length c5] rfl rfl
        refine step_nov rfl (exec_store 24 (.tmp 6) (.tmp 18) rfl ⟨Kb, 0, none⟩ rfl _ rfl hst) ?_
        clear hst
        have HFn := Lib.hid (fbuf_setRow HFo.out HKr.out.2 #[.int .i64 ty, .slice p5 F.length c5])
        have HBn := Lib.hid (below_setRow HBc.out HKl.out #[.int .i64 ty, .slice p5 F.length c5])
        have hKn := setRow_block HKr.out.2 (cs' := #[.int .i64 ty, .slice p5 F.length c5])
        have HMo := Lib.hid (show MsgIn _ Kb ty (.slice p5 F.length c5) from ⟨(cells_at hKn 0).trans rfl, (cells_at hKn 1).trans rfl⟩)
        clear HFo HBc HKr hKn
        have HBc := HBn
        clear HBn
        refine hK.out _ _ ((HM1.out.below HBc.out)) (fun hHeld => ?_)
        clear hK K
        refine wpAnyH_done (by kernel_rfl) ?_ _
        clear hHeld m0 m1
        obtain ⟨w2, e2⟩ : ∃ W, World.setRow wn Kb #[.int .i64 ty, .slice p5 F.length c5] = W := ⟨_, rfl⟩
        rw [e2] at HFn HBc HMo ⊢
        clear e2 HKl
        have HFs := Lib.hid (HFn.out.fs (by have := HN.out.1; simp only [maxLen]; omega))
        go_wp2_with fail
        go_meet
        exact ⟨Kb, p5, c5, rfl, HMo.out, HFs.out, HBc.out⟩
    · refine step_al rfl rfl (fun Kb wn hb hK1 hK2 => ?_)
      try (have HF2 := Lib.hid (HFo.out.below hb); clear HFo; have HFo := HF2; clear HF2)
      have HKl := Lib.hid (Nat.le_trans HBc.out.size hK1)
      have HKr := Lib.hid (And.intro (show Kb < wn.heap.size from (Array.getElem?_eq_some_iff.1 hK2).1) hK2)
      have HBn := Lib.hid (HBc.out.trans (hb.mono HBc.out.size))
      clear hb hK1 hK2 HBc
      have HBc := HBn
      clear HBn
      refine hK.out _ _ ((HM1.out.below HBc.out)) (fun hHeld => ?_)
      clear hK K
      try simp only [Act.put, List.setIfInBounds_toArray, List.set_cons_zero, List.set_cons_succ]
      refine wpAnyH_ready (rs := [2]) (by kernel_rfl) (by simp) (AllReadyH.cons (o := { dst := some 14, op := Op.buildSlice 22 0 #[], type := 22, pos := _, after := _, guard := _ }) rfl (fun K hK => ?_) AllReadyH.nil)
      refine step_bs rfl rfl (fun E wn hb => ?_)
      have HBn := Lib.hid (HBc.out.trans (hb.mono HBc.out.size))
      try (have HK2 := Lib.hid (show _ from And.intro (Nat.lt_of_lt_of_le HKr.out.1 hb.size) ((hb.block _ HKr.out.1).trans HKr.out.2)); clear HKr; have HKr := HK2; clear HK2)
      clear hb HBc
      have HBc := HBn
      clear HBn
      refine hK.out _ _ ((HM1.out.below HBc.out)) (fun hHeld => ?_)
      clear hK K
      try simp only [Act.put, List.setIfInBounds_toArray, List.set_cons_zero, List.set_cons_succ]
      refine wpAnyH_ready (rs := [5]) (by kernel_rfl) (by simp) (AllReadyH.cons (o := { dst := some 17, op := Op.call { callee := Callee.builtin Builtin.append, args := #[Operand.tmp 14, Operand.tmp 16], argTypes := #[22, 22] }, type := 22, pos := _, after := _, guard := _ }) rfl (fun K hK => ?_) AllReadyH.nil)
      refine step_own rfl (.tmp 14) (.tmp 16) rfl rfl rfl (HF1.out.below HBc.out) (by have := HN.out.1; omega) (fun p5 c5 wn hf hb => ?_)
      have HFo := Lib.hid (fbuf_lower hf HBc.out.size)
      have HBn := Lib.hid (HBc.out.trans (hb.mono HBc.out.size))
      try (have HK2 := Lib.hid (show _ from And.intro (Nat.lt_of_lt_of_le HKr.out.1 hb.size) ((hb.block _ HKr.out.1).trans HKr.out.2)); clear HKr; have HKr := HK2; clear HK2)
      clear hb hf HBc
      have HBc := HBn
      clear HBn
      refine hK.out _ _ ((HM1.out.below HBc.out)) (fun hHeld => ?_)
      clear hK K
      try simp only [Act.put, List.setIfInBounds_toArray, List.set_cons_zero, List.set_cons_succ]
      refine wpAnyH_take (i := 6) (oi := { dst := some 18, op := Op.build 24 #[(0, Operand.tmp 13), (1, Operand.tmp 17)], type := 24, pos := _, after := _, guard := _ }) (v := ?_) rfl (by kernel_rfl) (by kernel_rfl) (by kernel_rfl) (fun _ _ _ h => h) (Or.inl ⟨by rfl, ?hyown150⟩) (by assumption) ?restown150
      case hyown150 => (intro w hSw; (try dsimp only at hSw); go_simp; try with_reducible rfl)
      try simp only [Act.put, List.setIfInBounds_toArray, List.set_cons_zero, List.set_cons_succ]
      refine wpAnyH_ready (rs := [8]) (by kernel_rfl) (by simp) (AllReadyH.cons (o := { dst := none, op := Op.store 24 (Operand.tmp 6) (Operand.tmp 18), type := 0, pos := _, after := _, guard := _ }) rfl (fun K hK => ?_) AllReadyH.nil)
      have hst := store_all (ty := 24) HKr.out.2 info32s rfl #[.int .i64 ty, .slice p5 F.length c5] rfl rfl
      refine step_nov rfl (exec_store 24 (.tmp 6) (.tmp 18) rfl ⟨Kb, 0, none⟩ rfl _ rfl hst) ?_
      clear hst
      have HFn := Lib.hid (fbuf_setRow HFo.out HKr.out.2 #[.int .i64 ty, .slice p5 F.length c5])
      have HBn := Lib.hid (below_setRow HBc.out HKl.out #[.int .i64 ty, .slice p5 F.length c5])
      have hKn := setRow_block HKr.out.2 (cs' := #[.int .i64 ty, .slice p5 F.length c5])
      have HMo := Lib.hid (show MsgIn _ Kb ty (.slice p5 F.length c5) from ⟨(cells_at hKn 0).trans rfl, (cells_at hKn 1).trans rfl⟩)
      clear HFo HBc HKr hKn
      have HBc := HBn
      clear HBn
      refine hK.out _ _ ((HM1.out.below HBc.out)) (fun hHeld => ?_)
      clear hK K
      refine wpAnyH_done (by kernel_rfl) ?_ _
      clear hHeld m0 m1
      obtain ⟨w2, e2⟩ : ∃ W, World.setRow wn Kb #[.int .i64 ty, .slice p5 F.length c5] = W := ⟨_, rfl⟩
      rw [e2] at HFn HBc HMo ⊢
      clear e2 HKl
      have HFs := Lib.hid (HFn.out.fs (by have := HN.out.1; simp only [maxLen]; omega))
      go_wp2_with fail
      go_meet
      exact ⟨Kb, p5, c5, rfl, HMo.out, HFs.out, HBc.out⟩
  case rest =>
    obtain ⟨w2, rfl⟩ : ∃ W, W = wc := ⟨_, rfl⟩
    obtain ⟨Kb, p5, c5, rfl, hMo, hFs, hbc⟩ := hcut
    have HMo := Lib.hid hMo
    have HFs := Lib.hid hFs
    have HM2 := Lib.hid (HM1.out.below hbc)
    have HF2 := Lib.hid (HF1.out.below hbc)
    have HT2 := Lib.hid (HT1.out.below hbc)
    have HB2 := Lib.hid (HB1.out.trans (hbc.mono HB1.out.size))
    clear hMo hFs hbc HM1 HF1 HB1 HT1 m0 m1
    obtain ⟨m0, m1⟩ := HMo.out
    obtain ⟨L, eL⟩ : ∃ l, (encR d ty F).1 = l := ⟨_, rfl⟩
    obtain ⟨N, eN⟩ : ∃ n, (encR d ty F).2 = n := ⟨_, rfl⟩
    have HL := Lib.hid eL
    have HNe := Lib.hid eN
    clear eL eN
    go_wp2_with fail
    refine (enc_w HFs.out HT2.out HBg.out d ty HL.out HNe.out).mono ?_
    rintro e w3 ⟨A3, c3, rfl, hX, b3⟩
    have HM3 := Lib.hid (HM2.out.below b3)
    have HMo3 := Lib.hid (HMo.out.below b3)
    have HF3 := Lib.hid (HF2.out.below b3)
    have HFs3 := Lib.hid (HFs.out.below b3)
    have HT3 := Lib.hid (HT2.out.below b3)
    have HB3 := Lib.hid (HB2.out.trans (b3.mono HB2.out.size))
    have HX3 := Lib.hid hX
    clear m0 m1 b3 hX HM2 HMo HF2 HFs HT2 HB2
    obtain ⟨m0, m1⟩ := HM3.out
    go_wp2_with fail
    refine (refenc_w HF3.out HS.out d ty HL.out HNe.out).mono ?_
    rintro e w4 ⟨A4, c4, rfl, hY, b4⟩
    have HM4 := Lib.hid (HM3.out.below b4)
    have HMo4 := Lib.hid (HMo3.out.below b4)
    have HF4 := Lib.hid (HF3.out.below b4)
    have HFs4 := Lib.hid (HFs3.out.below b4)
    have HT4 := Lib.hid (HT3.out.below b4)
    have HB4 := Lib.hid (HB3.out.trans (b4.mono HB3.out.size))
    have HX4 := Lib.hid (HX3.out.below b4)
    have HY4 := Lib.hid hY
    clear m0 m1 b4 hY HM3 HMo3 HF3 HFs3 HT3 HB3 HX3
    obtain ⟨s, es⟩ : ∃ s : ByteArray, (⟨L.toArray⟩ : ByteArray) = s := ⟨_, rfl⟩
    have HES := Lib.hid es
    obtain ⟨K, eK⟩ : ∃ k, erZ (checkM ty F) = k := ⟨_, rfl⟩
    have HK := Lib.hid eK
    clear es eK
    go_wp2_with fail
    have HBd := Lib.hid (show Below w4.heap.size w4 w4.drew from drew_below _)
    refine wp_region_held_drew (S := (fun W => (MsgIn W Kb ty (.slice p5 F.length c5) ∧ MsgIn W B ty (.slice p F.length c)) ∧ (Txt W w2.heap.size (.slice A3 L.length c3) L ∧ Txt W w3.heap.size (.slice A4 L.length c4) L))) (by kernel_rfl) (⟨⟨HMo4.out.below HBd.out, HM4.out.below HBd.out⟩, ⟨HX4.out.below HBd.out, HY4.out.below HBd.out⟩⟩) (fun hHeld => ?_)
    refine wpAnyH_take (i := 0) (oi := { dst := some 31, op := Op.move (Operand.tmp 5), type := 4, pos := _, after := _, guard := _ }) (v := ?_) rfl (by kernel_rfl) (by kernel_rfl) (by kernel_rfl) (fun _ _ _ h => h) (Or.inl ⟨by rfl, ?hyw51⟩) (by assumption) ?restw51
    case hyw51 => (intro w hSw; (try dsimp only at hSw); go_simp; try with_reducible rfl)
    try simp only [Act.put, List.setIfInBounds_toArray, List.set_cons_zero, List.set_cons_succ]
    refine wpAnyH_take (i := 1) (oi := { dst := some 32, op := Op.move (Operand.tmp 31), type := 4, pos := _, after := _, guard := _ }) (v := ?_) rfl (by kernel_rfl) (by kernel_rfl) (by kernel_rfl) (fun _ _ _ h => h) (Or.inl ⟨by rfl, ?hyw54⟩) (by assumption) ?restw54
    case hyw54 => (intro w hSw; (try dsimp only at hSw); go_simp; try with_reducible rfl)
    try simp only [Act.put, List.setIfInBounds_toArray, List.set_cons_zero, List.set_cons_succ]
    refine wpAnyH_take (i := 2) (oi := { dst := some 33, op := Op.move (Operand.tmp 7), type := 33, pos := _, after := _, guard := _ }) (v := ?_) rfl (by kernel_rfl) (by kernel_rfl) (by kernel_rfl) (fun _ _ _ h => h) (Or.inl ⟨by rfl, ?hyw57⟩) (by assumption) ?restw57
    case hyw57 => (intro w hSw; (try dsimp only at hSw); go_simp; try with_reducible rfl)
    try simp only [Act.put, List.setIfInBounds_toArray, List.set_cons_zero, List.set_cons_succ]
    refine wpAnyH_take (i := 3) (oi := { dst := some 34, op := Op.convert 33 9 (Operand.tmp 33), type := 9, pos := _, after := _, guard := _ }) (v := ?_) rfl (by kernel_rfl) (by kernel_rfl) (by kernel_rfl) (fun _ _ _ h => h) (Or.inl ⟨by rfl, ?hyw510⟩) (by assumption) ?restw510
    case hyw510 => (intro W hSw; obtain ⟨⟨⟨s0, s1⟩, ⟨s2, s3⟩⟩, ⟨s4, s5⟩⟩ := hSw; have h1 := conv_w s4 HES.out; go_simp; try with_reducible rfl)
    try simp only [Act.put, List.setIfInBounds_toArray, List.set_cons_zero, List.set_cons_succ]
    refine wpAnyH_take (i := 4) (oi := { dst := some 35, op := Op.move (Operand.tmp 9), type := 33, pos := _, after := _, guard := _ }) (v := ?_) rfl (by kernel_rfl) (by kernel_rfl) (by kernel_rfl) (fun _ _ _ h => h) (Or.inl ⟨by rfl, ?hyw513⟩) (by assumption) ?restw513
    case hyw513 => (intro w hSw; (try dsimp only at hSw); go_simp; try with_reducible rfl)
    try simp only [Act.put, List.setIfInBounds_toArray, List.set_cons_zero, List.set_cons_succ]
    refine wpAnyH_take (i := 5) (oi := { dst := some 36, op := Op.convert 33 9 (Operand.tmp 35), type := 9, pos := _, after := _, guard := _ }) (v := ?_) rfl (by kernel_rfl) (by kernel_rfl) (by kernel_rfl) (fun _ _ _ h => h) (Or.inl ⟨by rfl, ?hyw516⟩) (by assumption) ?restw516
    case hyw516 => (intro W hSw; obtain ⟨⟨⟨s0, s1⟩, ⟨s2, s3⟩⟩, ⟨s4, s5⟩⟩ := hSw; have h1 := conv_w s5 HES.out; go_simp; try with_reducible rfl)
    try simp only [Act.put, List.setIfInBounds_toArray, List.set_cons_zero, List.set_cons_succ]
    refine wpAnyH_take (i := 6) (oi := { dst := some 37, op := Op.binOp BinOp.eql 9 (Operand.tmp 34) (Operand.tmp 36) 9, type := 4, pos := _, after := _, guard := _ }) (v := ?_) rfl (by kernel_rfl) (by kernel_rfl) (by kernel_rfl) (fun _ _ _ h => h) (Or.inl ⟨by rfl, ?hyw519⟩) (by assumption) ?restw519
    case hyw519 => (intro w hSw; (try dsimp only at hSw); go_simp; try with_reducible rfl)
    try simp only [Act.put, List.setIfInBounds_toArray, List.set_cons_zero, List.set_cons_succ]
    refine wpAnyH_take (i := 7) (oi := { dst := some 38, op := Op.pick (Operand.tmp 32) (Operand.tmp 37) (Operand.const (Value.bool false)), type := 4, pos := _, after := _, guard := _ }) (v := ?_) rfl (by kernel_rfl) (by kernel_rfl) (by kernel_rfl) (fun _ _ _ h => h) (Or.inl ⟨by rfl, ?hyw522⟩) (by assumption) ?restw522
    case hyw522 => (intro w hSw; (try dsimp only at hSw); go_simp; try with_reducible rfl)
    try simp only [Act.put, List.setIfInBounds_toArray, List.set_cons_zero, List.set_cons_succ]
    refine wpAnyH_take (i := 8) (oi := { dst := some 39, op := Op.move (Operand.tmp 38), type := 4, pos := _, after := _, guard := _ }) (v := ?_) rfl (by kernel_rfl) (by kernel_rfl) (by kernel_rfl) (fun _ _ _ h => h) (Or.inl ⟨by rfl, ?hyw525⟩) (by assumption) ?restw525
    case hyw525 => (intro w hSw; (try dsimp only at hSw); go_simp; try with_reducible rfl)
    try simp only [Act.put, List.setIfInBounds_toArray, List.set_cons_zero, List.set_cons_succ]
    refine wpAnyH_take (i := 9) (oi := { dst := some 40, op := Op.move (Operand.tmp 8), type := 34, pos := _, after := _, guard := _ }) (v := ?_) rfl (by kernel_rfl) (by kernel_rfl) (by kernel_rfl) (fun _ _ _ h => h) (Or.inl ⟨by rfl, ?hyw528⟩) (by assumption) ?restw528
    case hyw528 => (intro w hSw; (try dsimp only at hSw); go_simp; try with_reducible rfl)
    try simp only [Act.put, List.setIfInBounds_toArray, List.set_cons_zero, List.set_cons_succ]
    refine wpAnyH_take (i := 10) (oi := { dst := some 41, op := Op.move (Operand.tmp 10), type := 34, pos := _, after := _, guard := _ }) (v := ?_) rfl (by kernel_rfl) (by kernel_rfl) (by kernel_rfl) (fun _ _ _ h => h) (Or.inl ⟨by rfl, ?hyw531⟩) (by assumption) ?restw531
    case hyw531 => (intro w hSw; (try dsimp only at hSw); go_simp; try with_reducible rfl)
    try simp only [Act.put, List.setIfInBounds_toArray, List.set_cons_zero, List.set_cons_succ]
    refine wpAnyH_take (i := 11) (oi := { dst := some 42, op := Op.binOp BinOp.eql 34 (Operand.tmp 40) (Operand.tmp 41) 34, type := 4, pos := _, after := _, guard := _ }) (v := ?_) rfl (by kernel_rfl) (by kernel_rfl) (by kernel_rfl) (fun _ _ _ h => h) (Or.inl ⟨by rfl, ?hyw534⟩) (by assumption) ?restw534
    case hyw534 => (intro w hSw; (try dsimp only at hSw); go_simp; try with_reducible rfl)
    try simp only [Act.put, List.setIfInBounds_toArray, List.set_cons_zero, List.set_cons_succ]
    refine wpAnyH_take (i := 12) (oi := { dst := some 43, op := Op.pick (Operand.tmp 39) (Operand.tmp 42) (Operand.const (Value.bool false)), type := 4, pos := _, after := _, guard := _ }) (v := ?_) rfl (by kernel_rfl) (by kernel_rfl) (by kernel_rfl) (fun _ _ _ h => h) (Or.inl ⟨by rfl, ?hyw537⟩) (by assumption) ?restw537
    case hyw537 => (intro w hSw; (try dsimp only at hSw); go_simp; try with_reducible rfl)
    try simp only [Act.put, List.setIfInBounds_toArray, List.set_cons_zero, List.set_cons_succ]
    refine wpAnyH_take (i := 13) (oi := { dst := some 44, op := Op.move (Operand.tmp 43), type := 4, pos := _, after := _, guard := _ }) (v := ?_) rfl (by kernel_rfl) (by kernel_rfl) (by kernel_rfl) (fun _ _ _ h => h) (Or.inl ⟨by rfl, ?hyw540⟩) (by assumption) ?restw540
    case hyw540 => (intro w hSw; (try dsimp only at hSw); go_simp; try with_reducible rfl)
    try simp only [Act.put, List.setIfInBounds_toArray, List.set_cons_zero, List.set_cons_succ]
    refine wpAnyH_take (i := 14) (oi := { dst := some 45, op := Op.load 24 (Operand.tmp 6), type := 24, pos := _, after := _, guard := _ }) (v := ?_) rfl (by kernel_rfl) (by kernel_rfl) (by kernel_rfl) (fun _ _ _ h => h) (Or.inl ⟨by rfl, ?hyw543⟩) (by assumption) ?restw543
    case hyw543 => (intro W hSw; obtain ⟨⟨⟨s0, s1⟩, ⟨s2, s3⟩⟩, ⟨s4, s5⟩⟩ := hSw; go_simp; try with_reducible rfl)
    try simp only [Act.put, List.setIfInBounds_toArray, List.set_cons_zero, List.set_cons_succ]
    refine wpAnyH_take (i := 16) (oi := { dst := some 47, op := Op.load 24 (Operand.tmp 3), type := 24, pos := _, after := _, guard := _ }) (v := ?_) rfl (by kernel_rfl) (by kernel_rfl) (by kernel_rfl) (fun _ _ _ h => h) (Or.inl ⟨by rfl, ?hyw546⟩) (by assumption) ?restw546
    case hyw546 => (intro W hSw; obtain ⟨⟨⟨s0, s1⟩, ⟨s2, s3⟩⟩, ⟨s4, s5⟩⟩ := hSw; go_simp; try with_reducible rfl)
    try simp only [Act.put, List.setIfInBounds_toArray, List.set_cons_zero, List.set_cons_succ]
    refine wpAnyH_ready (rs := [15]) (by kernel_rfl) (by simp) (AllReadyH.cons (o := { dst := some 46, op := Op.call { callee := Callee.value (Operand.func 22), args := #[Operand.tmp 45], argTypes := #[24] }, type := 34, pos := _, after := _, guard := _ }) rfl (fun K hK => ?_) AllReadyH.nil)
    go_simp
    refine (checkP_any (HFs4.out.below HBd.out) (HT4.out.below HBd.out).tabs ty HBg.out HK.out).mono ?_
    rintro e wa ⟨rfl, b1⟩
    have HBn := Lib.hid (HBd.out.trans (b1.mono HBd.out.size))
    clear b1 HBd
    have HBd := HBn
    clear HBn
    refine hK.out _ _ (⟨⟨HMo4.out.below HBd.out, HM4.out.below HBd.out⟩, ⟨HX4.out.below HBd.out, HY4.out.below HBd.out⟩⟩) (fun hHeld => ?_)
    clear hK K
    try simp only [Act.put, List.setIfInBounds_toArray, List.set_cons_zero, List.set_cons_succ]
    refine wpAnyH_ready (rs := [17]) (by kernel_rfl) (by simp) (AllReadyH.cons (o := { dst := some 48, op := Op.call { callee := Callee.value (Operand.func 23), args := #[Operand.tmp 47], argTypes := #[24] }, type := 34, pos := _, after := _, guard := _ }) rfl (fun K hK => ?_) AllReadyH.nil)
    go_simp
    refine (check_w (HF4.out.below HBd.out) HS.out ty HK.out).mono ?_
    rintro e wb ⟨rfl, b1⟩
    have HBn := Lib.hid (HBd.out.trans (b1.mono HBd.out.size))
    clear b1 HBd
    have HBd := HBn
    clear HBn
    refine hK.out _ _ (⟨⟨HMo4.out.below HBd.out, HM4.out.below HBd.out⟩, ⟨HX4.out.below HBd.out, HY4.out.below HBd.out⟩⟩) (fun hHeld => ?_)
    clear hK K
    try simp only [Act.put, List.setIfInBounds_toArray, List.set_cons_zero, List.set_cons_succ]
    refine wpAnyH_take (i := 18) (oi := { dst := some 49, op := Op.binOp BinOp.eql 34 (Operand.tmp 46) (Operand.tmp 48) 34, type := 4, pos := _, after := _, guard := _ }) (v := ?_) rfl (by kernel_rfl) (by kernel_rfl) (by kernel_rfl) (fun _ _ _ h => h) (Or.inl ⟨by rfl, ?hyw571⟩) (by assumption) ?restw571
    case hyw571 => (intro w hSw; (try dsimp only at hSw); go_simp; try with_reducible rfl)
    try simp only [Act.put, List.setIfInBounds_toArray, List.set_cons_zero, List.set_cons_succ]
    refine wpAnyH_take (i := 19) (oi := { dst := some 50, op := Op.pick (Operand.tmp 44) (Operand.tmp 49) (Operand.const (Value.bool false)), type := 4, pos := _, after := _, guard := _ }) (v := ?_) rfl (by kernel_rfl) (by kernel_rfl) (by kernel_rfl) (fun _ _ _ h => h) (Or.inl ⟨by rfl, ?hyw574⟩) (by assumption) ?restw574
    case hyw574 => (intro w hSw; (try dsimp only at hSw); go_simp; try with_reducible rfl)
    try simp only [Act.put, List.setIfInBounds_toArray, List.set_cons_zero, List.set_cons_succ]
    refine wpAnyH_take (i := 20) (oi := { dst := some 51, op := Op.move (Operand.tmp 50), type := 4, pos := _, after := _, guard := _ }) (v := ?_) rfl (by kernel_rfl) (by kernel_rfl) (by kernel_rfl) (fun _ _ _ h => h) (Or.inl ⟨by rfl, ?hyw577⟩) (by assumption) ?restw577
    case hyw577 => (intro w hSw; (try dsimp only at hSw); go_simp; try with_reducible rfl)
    try simp only [Act.put, List.setIfInBounds_toArray, List.set_cons_zero, List.set_cons_succ]
    refine wpAnyH_take (i := 21) (oi := { dst := some 52, op := Op.load 24 (Operand.tmp 6), type := 24, pos := _, after := _, guard := _ }) (v := ?_) rfl (by kernel_rfl) (by kernel_rfl) (by kernel_rfl) (fun _ _ _ h => h) (Or.inl ⟨by rfl, ?hyw580⟩) (by assumption) ?restw580
    case hyw580 => (intro W hSw; obtain ⟨⟨⟨s0, s1⟩, ⟨s2, s3⟩⟩, ⟨s4, s5⟩⟩ := hSw; go_simp; try with_reducible rfl)
    try simp only [Act.put, List.setIfInBounds_toArray, List.set_cons_zero, List.set_cons_succ]
    refine wpAnyH_take (i := 22) (oi := { dst := some 53, op := Op.load 24 (Operand.tmp 3), type := 24, pos := _, after := _, guard := _ }) (v := ?_) rfl (by kernel_rfl) (by kernel_rfl) (by kernel_rfl) (fun _ _ _ h => h) (Or.inl ⟨by rfl, ?hyw583⟩) (by assumption) ?restw583
    case hyw583 => (intro W hSw; obtain ⟨⟨⟨s0, s1⟩, ⟨s2, s3⟩⟩, ⟨s4, s5⟩⟩ := hSw; go_simp; try with_reducible rfl)
    try simp only [Act.put, List.setIfInBounds_toArray, List.set_cons_zero, List.set_cons_succ]
    refine wpAnyH_ready (rs := [23]) (by kernel_rfl) (by simp) (AllReadyH.cons (o := { dst := some 54, op := Op.call { callee := Callee.value (Operand.func 18), args := #[Operand.tmp 52, Operand.tmp 53], argTypes := #[24, 24] }, type := 4, pos := _, after := _, guard := _ }) rfl (fun K hK => ?_) AllReadyH.nil)
    go_simp
    refine (same_w (HFs4.out.below HBd.out) (HF4.out.below HBd.out) HN.out.1 ty ty (b := true) (by rw [decide_eq_true rfl, decide_eq_true rfl]; rfl)).mono ?_
    rintro e wc ⟨rfl, b1⟩
    have HBn := Lib.hid (HBd.out.trans (b1.mono HBd.out.size))
    clear b1 HBd
    have HBd := HBn
    clear HBn
    refine hK.out _ _ (⟨⟨HMo4.out.below HBd.out, HM4.out.below HBd.out⟩, ⟨HX4.out.below HBd.out, HY4.out.below HBd.out⟩⟩) (fun hHeld => ?_)
    clear hK K
    try simp only [Act.put, List.setIfInBounds_toArray, List.set_cons_zero, List.set_cons_succ]
    refine wpAnyH_take (i := 24) (oi := { dst := some 55, op := Op.pick (Operand.tmp 51) (Operand.tmp 54) (Operand.const (Value.bool false)), type := 4, pos := _, after := _, guard := _ }) (v := ?_) rfl (by kernel_rfl) (by kernel_rfl) (by kernel_rfl) (fun _ _ _ h => h) (Or.inl ⟨by rfl, ?hyw597⟩) (by assumption) ?restw597
    case hyw597 => (intro w hSw; (try dsimp only at hSw); go_simp; try with_reducible rfl)
    try simp only [Act.put, List.setIfInBounds_toArray, List.set_cons_zero, List.set_cons_succ]
    refine wpAnyH_take (i := 25) (oi := { dst := some 4, op := Op.assign (Operand.tmp 55), type := 4, pos := _, after := _, guard := _ }) (v := ?_) rfl (by kernel_rfl) (by kernel_rfl) (by kernel_rfl) (fun _ _ _ h => h) (Or.inl ⟨by rfl, ?hyw5100⟩) (by assumption) ?restw5100
    case hyw5100 => (intro w hSw; (try dsimp only at hSw); go_simp; try with_reducible rfl)
    try simp only [Act.put, List.setIfInBounds_toArray, List.set_cons_zero, List.set_cons_succ]
    refine wpAnyH_done (by kernel_rfl) ?_ _
    clear hHeld
    have HBF := Lib.hid (HB4.out.trans (HBd.out.mono HB4.out.size))
    go_wp2_with fail
    go_ret
    exact ⟨rfl, HBF.out⟩
end Go.Proofs.YtommklkihjmgcaaGreatDoor.msgr
