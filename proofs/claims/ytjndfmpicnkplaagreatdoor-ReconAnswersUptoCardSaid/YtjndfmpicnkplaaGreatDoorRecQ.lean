/- Layer 20: ReconAnswers, walked, over what its references are asked. Conditions: as each theorem says. -/
import Derived.Test.YtjndfmpicnkplaaGreatDoorRecP
namespace Go.Proofs.YtjndfmpicnkplaaGreatDoor.msgw
open Go.RowKit Go.Proofs.YtjndfmpicnkplaaGreatDoor.fieldp Go.Proofs.YtjndfmpicnkplaaGreatDoor.fieldw Go.Proofs.YtjndfmpicnkplaaGreatDoor.msgp Go.Proofs.YtjndfmpicnkplaaGreatDoor.buf
/-- What the law asks of the references. -/
def RefReadOk : Prop := ∀ (W : World) (v : Value) (F : Flds), FsAt W v F → (∀ x ∈ F, x.2.size ≤ 1048576) → F.length ≤ 1048576 → ∀ ty : Int,
  Calls Tryz.prog 10 #[.agg #[.int .i64 ty, v]] W fun e w' => e = .returned (.tuple #[totV 0 (readR ty F).1, .int .i64 (readR ty F).2]) ∧ Below W.heap.size W w'
def RefAnswerOk : Prop := ∀ (W : World) (v : Value) (F : Flds) (pl : Option Addr) (cl : Nat) (L : List Tot), FsAt W v F → (∀ x ∈ F, x.2.size ≤ 1048576) → F.length ≤ 1048576 → TotsAt W (.slice pl L.length cl) L → L.length ≤ cl → L.length ≤ 1048576 → ∀ (ty m dn : Int) (closed : Bool),
  Calls Tryz.prog 12 #[.agg #[.int .i64 ty, v], .int .i64 m, .agg #[.int .i64 dn, .slice pl L.length cl], .bool closed] W fun e w' => ∃ p n c, e = .returned (.agg #[.int .i64 510, .slice p n c]) ∧ FsAt w' (.slice p n c) (answerM ty F m closed L) ∧ Below W.heap.size W w'
def SameOk : Prop := ∀ (W : World) (v1 v2 : Value) (F1 F2 : Flds), FsAt W v1 F1 → FsAt W v2 F2 → F1.length ≤ 1048576 → ∀ t1 t2 : Int,
  Calls Tryz.prog 8 #[.agg #[.int .i64 t1, v1], .agg #[.int .i64 t2, v2]] W fun e w' => e = .returned (.bool (decide (t1 = t2) && decide (F1 = F2))) ∧ Below W.heap.size W w'
theorem read_w {w : World} {v : Value} {F : Flds} (h : FsAt w v F) (hT : Tabs w) (hS : SmallF F) (ty : Int) {a0 a1 a2 a3 a4 er : Int} (hr : readR ty F = ([a0, a1, a2, a3, a4], er)) :
    Calls Tryz.prog 9 #[.agg #[.int .i64 ty, v]] w fun e w' => e = .returned (.tuple #[.agg #[.int .i64 0, .int .i64 a0, .int .i64 a1, .int .i64 a2, .int .i64 a3, .int .i64 a4], .int .i64 er]) ∧ Below w.heap.size w w' :=
  (read_any h hT hS ty).mono fun e w' h => by
    rw [hr] at h
    exact h
theorem answer_w {w : World} {v vl : Value} {F : Flds} {L : List Tot} (h : FsAt w v F) (hT : Tabs w) (hS : SmallF F) (hL : TotsAt w vl L) (ty m dn : Int) (closed : Bool) :
    Calls Tryz.prog 11 #[.agg #[.int .i64 ty, v], .int .i64 m, .agg #[.int .i64 dn, vl], .bool closed] w fun e w' => ∃ p n c, e = .returned (.agg #[.int .i64 510, .slice p n c]) ∧ FsAt w' (.slice p n c) (answerM ty F m closed L) ∧ Below w.heap.size w w' :=
  (answer_any h hT hS hL ty m dn closed).mono fun e w' h => by
    obtain ⟨v', rfl, hB, b⟩ := h
    have e2 := answer_len ty F m closed L
    have hf := hB.fs (by have h1 : one F 7 ≤ 1 := by { unfold one; split <;> omega }
                         have h2 : one F 11 ≤ 1 := by { unfold one; split <;> omega }
                         have h3 : one F 32 ≤ 1 := by { unfold one; split <;> omega }
                         simp only [maxLen]; omega)
    obtain ⟨p, c, rfl⟩ := hf.shape
    exact ⟨p, _, c, rfl, hf, b⟩
theorem answer_len4 (ty : Int) (F : Flds) (m : Int) (closed : Bool) (L : List Tot) : (answerM ty F m closed L).length ≤ 1048576 := by
  have e2 := answer_len ty F m closed L
  have h1 : one F 7 ≤ 1 := by { unfold one; split <;> omega }
  have h2 : one F 11 ≤ 1 := by { unfold one; split <;> omega }
  have h3 : one F 32 ≤ 1 := by { unfold one; split <;> omega }
  omega
theorem same_w (HSA : SameOk) {W : World} {v1 v2 : Value} {F1 F2 : Flds} (h1 : FsAt W v1 F1) (h2 : FsAt W v2 F2) (he : F1 = F2) (hl : F1.length ≤ 1048576) (t : Int) :
    Calls Tryz.prog 8 #[.agg #[.int .i64 t, v1], .agg #[.int .i64 t, v2]] W fun e w' => e = .returned (.bool true) ∧ Below W.heap.size W w' :=
  (HSA W v1 v2 F1 F2 h1 h2 hl t t).mono fun e w' h => by
    rw [decide_eq_true rfl, decide_eq_true he] at h
    exact h
theorem refread_w (HRR : RefReadOk) {W : World} {v : Value} {F : Flds} (h : FsAt W v F) (hS : ∀ x ∈ F, x.2.size ≤ 1048576) (hl : F.length ≤ 1048576) (ty : Int) {a0 a1 a2 a3 a4 er : Int} (hr : readR ty F = ([a0, a1, a2, a3, a4], er)) :
    Calls Tryz.prog 10 #[.agg #[.int .i64 ty, v]] W fun e w' => e = .returned (.tuple #[.agg #[.int .i64 0, .int .i64 a0, .int .i64 a1, .int .i64 a2, .int .i64 a3, .int .i64 a4], .int .i64 er]) ∧ Below W.heap.size W w' :=
  (HRR W v F h hS hl ty).mono fun e w' h => by
    rw [hr] at h
    exact h
set_option maxHeartbeats 4000000 in
set_option maxRecDepth 100000 in
theorem answers_any {w : World} {v vl : Value} {F : Flds} {L : List Tot} (HRR : RefReadOk) (HRA : RefAnswerOk) (HSA : SameOk) (h : FsAt w v F) (hT : Tabs w) (hS : ∀ x ∈ F, x.2.size ≤ 1048576) (hl : F.length ≤ 1048576) (hL : TotsAt w vl L) (hLc : ∀ p n c, vl = .slice p n c → n ≤ c) (hLl : L.length ≤ 1048576) (ty m dn : Int) :
    Calls Tryz.prog 4 #[.agg #[.int .i64 ty, v], .int .i64 m, .agg #[.int .i64 dn, vl]] w fun e w' => e = .returned (.bool true) ∧ Below w.heap.size w w' := by
  obtain ⟨p, c, rfl⟩ := h.shape
  obtain ⟨pl, cl, rfl⟩ := hL.shape
  have hcl : L.length ≤ cl := hLc _ _ _ rfl
  obtain ⟨B, eB⟩ : ∃ b, w.heap.size = b := ⟨_, rfl⟩
  have a1 : Below w.heap.size w (w.alloc (.cells #[.int .i64 ty, .slice p F.length c] 29)) := alloc_below _ _
  obtain ⟨w0, e0⟩ : ∃ W, (w.alloc (.cells #[.int .i64 ty, .slice p F.length c] 29)).alloc (.cells #[.int .i64 dn, .slice pl L.length cl] 37) = W := ⟨_, rfl⟩
  have a2 : Below (w.alloc (.cells #[.int .i64 ty, .slice p F.length c] 29)).heap.size (w.alloc (.cells #[.int .i64 ty, .slice p F.length c] 29)) w0 := by rw [← e0]; exact alloc_below _ _
  have b0 : Below w.heap.size w w0 := a1.trans (a2.mono a1.size)
  have k0 : MsgIn w0 B ty (.slice p F.length c) := by rw [← eB]; exact (msgIn_new w ty _).below a2
  have k1 : MsgIn w0 (B + 1) dn (.slice pl L.length cl) := by
    have := heap_alloc_last (w.alloc (.cells #[.int .i64 ty, .slice p F.length c] 29)) (.cells #[.int .i64 dn, .slice pl L.length cl] 37)
    rw [e0, show (w.alloc (.cells #[.int .i64 ty, .slice p F.length c] 29)).heap.size = B + 1 by rw [← eB]; simp] at this
    exact ⟨(cells_at this 0).trans rfl, (cells_at this 1).trans rfl⟩
  have HC := Lib.hid (shown_any (hT.below b0))
  have HF := Lib.hid (h.below b0)
  have HL := Lib.hid (hL.below b0)
  have HT := Lib.hid (hT.below b0)
  have HB0 := Lib.hid b0
  have HS := Lib.hid hS
  have HN := Lib.hid (And.intro hl (And.intro hLl hcl))
  have K0 := Lib.hid k0
  have K1 := Lib.hid k1
  have E0 := Lib.hid e0
  clear h hL hT hS b0 a1 a2 k0 k1 e0 hl hLl hcl hLc
  go_enter Tryz.func4, Tryz.ntmps4
  go_wp2_with fail
  rw [E0.out]
  refine HC.out.mono ?_
  rintro e w1 ⟨rfl, b1⟩
  have HM1 := Lib.hid (K0.out.below b1)
  have HD1 := Lib.hid (K1.out.below b1)
  have HF1 := Lib.hid (HF.out.below b1)
  have HT1 := Lib.hid (HT.out.below b1)
  have HL1 := Lib.hid (HL.out.below b1)
  have HB1 := Lib.hid (HB0.out.trans (b1.mono HB0.out.size))
  obtain ⟨m0, m1⟩ := HM1.out
  have HBc := Lib.hid (show Below w1.heap.size w1 w1.drew from ⟨rfl, rfl, rfl, Nat.le_refl _, fun _ _ => rfl⟩)
  have HX := Lib.hid (And.intro HRR (And.intro HRA HSA))
  obtain ⟨a0, a1, a2, a3, a4, er, hr⟩ : ∃ a0 a1 a2 a3 a4 er, readR ty F = ([a0, a1, a2, a3, a4], er) := by
    have hlen := readR_len ty F
    obtain ⟨⟨vs, er⟩, eR⟩ : ∃ r, readR ty F = r := ⟨_, rfl⟩
    rw [eR] at hlen ⊢
    match vs, hlen with
    | [a, b, c, d, e], _ => exact ⟨a, b, c, d, e, er, rfl⟩
  have HRd := Lib.hid hr
  have HSm := Lib.hid (show SmallF F from fun x hx => Nat.le_trans (HS.out x hx) (by decide))
  clear HF HL HT HB0 K0 K1 E0 HC b1 hr HRR HRA HSA
  go_wp2_with fail
  refine wp_region_held_drew (S := (fun W => MsgIn W B ty (.slice p F.length c))) (by kernel_rfl) (HM1.out) (fun hHeld => ?_)
  refine wpAnyH_take (i := 0) (oi := { dst := some 17, op := Op.fieldAddr 29 (Operand.tmp 3) 0, type := 0, pos := "law.go:44", after := #[], guard := none }) (v := ?_) rfl (by kernel_rfl) (by kernel_rfl) (by kernel_rfl) (fun _ _ _ h => h) (Or.inl ⟨by rfl, ?hyownx01⟩) (by assumption) ?restownx01
  case hyownx01 => (intro W hSw; obtain ⟨s0, s1⟩ := hSw; go_simp; try with_reducible rfl)
  try simp only [Act.put, List.setIfInBounds_toArray, List.set_cons_zero, List.set_cons_succ]
  refine wpAnyH_take (i := 1) (oi := { dst := some 18, op := Op.load 3 (Operand.tmp 17), type := 3, pos := "law.go:44", after := #[{ on := 0, ground := Ground.data }], guard := none }) (v := ?_) rfl (by kernel_rfl) (by kernel_rfl) (by kernel_rfl) (fun _ _ _ h => h) (Or.inl ⟨by rfl, ?hyownx04⟩) (by assumption) ?restownx04
  case hyownx04 => (intro W hSw; obtain ⟨s0, s1⟩ := hSw; go_simp; try with_reducible rfl)
  try simp only [Act.put, List.setIfInBounds_toArray, List.set_cons_zero, List.set_cons_succ]
  refine wpAnyH_take (i := 3) (oi := { dst := some 20, op := Op.fieldAddr 29 (Operand.tmp 3) 1, type := 0, pos := "law.go:44", after := #[], guard := none }) (v := ?_) rfl (by kernel_rfl) (by kernel_rfl) (by kernel_rfl) (fun _ _ _ h => h) (Or.inl ⟨by rfl, ?hyownx07⟩) (by assumption) ?restownx07
  case hyownx07 => (intro W hSw; obtain ⟨s0, s1⟩ := hSw; go_simp; try with_reducible rfl)
  try simp only [Act.put, List.setIfInBounds_toArray, List.set_cons_zero, List.set_cons_succ]
  refine wpAnyH_take (i := 4) (oi := { dst := some 21, op := Op.load 27 (Operand.tmp 20), type := 27, pos := "law.go:44", after := #[{ on := 3, ground := Ground.data }], guard := none }) (v := ?_) rfl (by kernel_rfl) (by kernel_rfl) (by kernel_rfl) (fun _ _ _ h => h) (Or.inl ⟨by rfl, ?hyownx010⟩) (by assumption) ?restownx010
  case hyownx010 => (intro W hSw; obtain ⟨s0, s1⟩ := hSw; go_simp; try with_reducible rfl)
  try simp only [Act.put, List.setIfInBounds_toArray, List.set_cons_zero, List.set_cons_succ]
  refine wpAnyH_ready (rs := [2, 7]) (by kernel_rfl) (by simp) (AllReadyH.cons (o := { dst := some 19, op := Op.buildSlice 27 0 #[], type := 27, pos := "law.go:44", after := #[], guard := none }) rfl (fun K hK => ?_) (AllReadyH.cons (o := { dst := some 8, op := Op.alloc 29, type := 0, pos := "law.go:44", after := #[], guard := none }) rfl (fun K hK => ?_) AllReadyH.nil))
  · refine step_bs rfl rfl (fun E wn hb => ?_)
    have HBn := Lib.hid (HBc.out.trans (hb.mono HBc.out.size))
    try (have HK2 := Lib.hid (show _ from And.intro (Nat.lt_of_lt_of_le HKr.out.1 hb.size) ((hb.block _ HKr.out.1).trans HKr.out.2)); clear HKr; have HKr := HK2; clear HK2)
    clear hb HBc
    have HBc := HBn
    clear HBn
    refine hK.out _ _ ((HM1.out.below HBc.out)) (fun hHeld => ?_)
    clear hK K
    try simp only [Act.put, List.setIfInBounds_toArray, List.set_cons_zero, List.set_cons_succ]
    refine wpAnyH_ready (rs := [5, 7]) (by kernel_rfl) (by simp) (AllReadyH.cons (o := { dst := some 22, op := Op.call { callee := Callee.builtin Builtin.append, args := #[Operand.tmp 19, Operand.tmp 21], argTypes := #[27, 27] }, type := 27, pos := "law.go:44", after := #[{ on := 2, ground := Ground.data }, { on := 4, ground := Ground.data }], guard := none }) rfl (fun K hK => ?_) (AllReadyH.cons (o := { dst := some 8, op := Op.alloc 29, type := 0, pos := "law.go:44", after := #[], guard := none }) rfl (fun K hK => ?_) AllReadyH.nil))
    · refine step_own rfl (.tmp 19) (.tmp 21) rfl rfl rfl (HF1.out.below HBc.out) (by have := HN.out.1; omega) (fun p5 c5 wn hf hb => ?_)
      have HFo := Lib.hid (fbuf_lower hf HBc.out.size)
      have HBn := Lib.hid (HBc.out.trans (hb.mono HBc.out.size))
      try (have HK2 := Lib.hid (show _ from And.intro (Nat.lt_of_lt_of_le HKr.out.1 hb.size) ((hb.block _ HKr.out.1).trans HKr.out.2)); clear HKr; have HKr := HK2; clear HK2)
      clear hb hf HBc
      have HBc := HBn
      clear HBn
      refine hK.out _ _ ((HM1.out.below HBc.out)) (fun hHeld => ?_)
      clear hK K
      try simp only [Act.put, List.setIfInBounds_toArray, List.set_cons_zero, List.set_cons_succ]
      refine wpAnyH_take (i := 6) (oi := { dst := some 23, op := Op.build 29 #[(0, Operand.tmp 18), (1, Operand.tmp 22)], type := 29, pos := "law.go:44", after := #[{ on := 1, ground := Ground.data }, { on := 5, ground := Ground.data }], guard := none }) (v := ?_) rfl (by kernel_rfl) (by kernel_rfl) (by kernel_rfl) (fun _ _ _ h => h) (Or.inl ⟨by rfl, ?hyownx034⟩) (by assumption) ?restownx034
      case hyownx034 => (intro w hSw; (try dsimp only at hSw); go_simp; try with_reducible rfl)
      try simp only [Act.put, List.setIfInBounds_toArray, List.set_cons_zero, List.set_cons_succ]
      refine wpAnyH_ready (rs := [7]) (by kernel_rfl) (by simp) (AllReadyH.cons (o := { dst := some 8, op := Op.alloc 29, type := 0, pos := "law.go:44", after := #[], guard := none }) rfl (fun K hK => ?_) AllReadyH.nil)
      refine step_al rfl rfl (fun Kb wn hb hK1 hK2 => ?_)
      try (have HF2 := Lib.hid (HFo.out.below hb); clear HFo; have HFo := HF2; clear HF2)
      have HKl := Lib.hid (Nat.le_trans HBc.out.size hK1)
      have HKr := Lib.hid (And.intro (show Kb < wn.heap.size from (Array.getElem?_eq_some_iff.1 hK2).1) hK2)
      have HBn := Lib.hid (HBc.out.trans (hb.mono HBc.out.size))
      clear hb hK1 hK2 HBc
      have HBc := HBn
      clear HBn
      refine hK.out _ _ ((HM1.out.below HBc.out)) (fun hHeld => ?_)
      clear hK K
      try simp only [Act.put, List.setIfInBounds_toArray, List.set_cons_zero, List.set_cons_succ]
      refine wpAnyH_ready (rs := [8]) (by kernel_rfl) (by simp) (AllReadyH.cons (o := { dst := none, op := Op.store 29 (Operand.tmp 8) (Operand.tmp 23), type := 0, pos := "law.go:44", after := #[{ on := 7, ground := Ground.data }, { on := 6, ground := Ground.data }, { on := 5, ground := Ground.chain }, { on := 0, ground := Ground.phase }, { on := 1, ground := Ground.phase }, { on := 2, ground := Ground.phase }, { on := 3, ground := Ground.phase }, { on := 4, ground := Ground.phase }, { on := 5, ground := Ground.phase }, { on := 6, ground := Ground.phase }, { on := 7, ground := Ground.phase }], guard := none }) rfl (fun K hK => ?_) AllReadyH.nil)
      have hst := store_all (ty := 29) HKr.out.2 info32s rfl #[.int .i64 ty, .slice p5 F.length c5] rfl rfl
      refine step_nov rfl (exec_store 29 (.tmp 8) (.tmp 23) rfl ⟨Kb, 0, none⟩ rfl _ rfl hst) ?_
      clear hst
      have HFn := Lib.hid (fbuf_setRow HFo.out HKr.out.2 #[.int .i64 ty, .slice p5 F.length c5])
      have HBn := Lib.hid (below_setRow HBc.out HKl.out #[.int .i64 ty, .slice p5 F.length c5])
      have hKn := setRow_block HKr.out.2 (cs' := #[.int .i64 ty, .slice p5 F.length c5])
      have HMo := Lib.hid (show MsgIn _ Kb ty (.slice p5 F.length c5) from ⟨(cells_at hKn 0).trans rfl, (cells_at hKn 1).trans rfl⟩)
      clear HFo HBc HKr hKn
      have HBc := HBn
      clear HBn
      refine hK.out _ _ ((HM1.out.below HBc.out)) (fun hHeld => ?_)
      clear hK K
      refine wpAnyH_done (by kernel_rfl) ?_ _
      clear hHeld m0 m1
      obtain ⟨w2, e2⟩ : ∃ W, World.setRow wn Kb #[.int .i64 ty, .slice p5 F.length c5] = W := ⟨_, rfl⟩
      have HMo2 := Lib.hid HMo.out
      rw [e2] at HFn HBc HMo ⊢
      clear e2 HMo2 HKl
      have HFs := Lib.hid (HFn.out.fs (by have := HN.out.1; simp only [maxLen]; omega))
      obtain ⟨m0, m1⟩ := HMo.out
      go_wp2_with fail
      refine (read_w HFs.out (HT1.out.below HBc.out) HSm.out ty HRd.out).mono ?_
      rintro e w3 ⟨rfl, b1⟩
      have b2 := b1.trans ((alloc_below w3 (.cells #[.int .i64 0, .int .i64 a0, .int .i64 a1, .int .i64 a2, .int .i64 a3, .int .i64 a4] 23)).mono b1.size)
      have HT3 := Lib.hid (HT1.out.below (HBc.out.trans (b2.mono HBc.out.size)))
      have HM3 := Lib.hid (HM1.out.below (HBc.out.trans (b2.mono HBc.out.size)))
      have HK3 := Lib.hid (HMo.out.below b2)
      have HF3 := Lib.hid (HF1.out.below (HBc.out.trans (b2.mono HBc.out.size)))
      have HFs3 := Lib.hid (HFs.out.below b2)
      have HB3 := Lib.hid (HBc.out.trans (b2.mono HBc.out.size))
      have ht3 := heap_alloc_last w3 (.cells #[.int .i64 0, .int .i64 a0, .int .i64 a1, .int .i64 a2, .int .i64 a3, .int .i64 a4] 23)
      have HTa := Lib.hid (show TotIn (w3.alloc (.cells #[.int .i64 0, .int .i64 a0, .int .i64 a1, .int .i64 a2, .int .i64 a3, .int .i64 a4] 23)) w3.heap.size 0 (0, a0, a1, a2, a3, a4) from ⟨(cells_at ht3 0).trans rfl, (cells_at ht3 1).trans rfl, (cells_at ht3 2).trans rfl, (cells_at ht3 3).trans rfl, (cells_at ht3 4).trans rfl, (cells_at ht3 5).trans rfl⟩)
      clear m0 m1 b1 b2 ht3 HFs HBc HMo HFn
      obtain ⟨m0, m1⟩ := HM3.out
      go_wp2_with fail
      refine (refread_w HX.out.1 HF3.out HS.out HN.out.1 ty HRd.out).mono ?_
      rintro e w4 ⟨rfl, b1⟩
      have b2 := b1.trans ((alloc_below w4 (.cells #[.int .i64 0, .int .i64 a0, .int .i64 a1, .int .i64 a2, .int .i64 a3, .int .i64 a4] 23)).mono b1.size)
      have HTb := Lib.hid (HTa.out.below b2)
      have ht3 := heap_alloc_last w4 (.cells #[.int .i64 0, .int .i64 a0, .int .i64 a1, .int .i64 a2, .int .i64 a3, .int .i64 a4] 23)
      have HTc := Lib.hid (show TotIn (w4.alloc (.cells #[.int .i64 0, .int .i64 a0, .int .i64 a1, .int .i64 a2, .int .i64 a3, .int .i64 a4] 23)) w4.heap.size 0 (0, a0, a1, a2, a3, a4) from ⟨(cells_at ht3 0).trans rfl, (cells_at ht3 1).trans rfl, (cells_at ht3 2).trans rfl, (cells_at ht3 3).trans rfl, (cells_at ht3 4).trans rfl, (cells_at ht3 5).trans rfl⟩)
      have HB4 := Lib.hid (HB3.out.trans (b2.mono HB3.out.size))
      have HK4 := Lib.hid (HK3.out.below b2)
      have HFs4 := Lib.hid (HFs3.out.below b2)
      clear m0 m1 b1 b2 ht3 HT3 HM3 HK3 HF3 HFs3 HB3 HTa
      obtain ⟨w5, e5⟩ : ∃ W, w4.alloc (.cells #[.int .i64 0, .int .i64 a0, .int .i64 a1, .int .i64 a2, .int .i64 a3, .int .i64 a4] 23) = W := ⟨_, rfl⟩
      rw [e5] at HTb HTc HB4 HK4 HFs4
      have E5 := Lib.hid e5
      obtain ⟨X3, eX3⟩ : ∃ X, w3.heap.size = X := ⟨_, rfl⟩
      obtain ⟨X4, eX4⟩ : ∃ X, w4.heap.size = X := ⟨_, rfl⟩
      rw [eX3] at HTb
      rw [eX4] at HTc
      clear e5
      go_wp2_with fail
      rw [E5.out]
      have HBc := Lib.hid (show Below w5.heap.size w5 w5.drew from ⟨rfl, rfl, rfl, Nat.le_refl _, fun _ _ => rfl⟩)
      refine wp_region_held_drew (S := (fun W => (MsgIn W Kb ty (.slice p5 F.length c5) ∧ MsgIn W B ty (.slice p F.length c)) ∧ MsgIn W (B + 1) dn (.slice pl L.length cl))) (by kernel_rfl) (⟨⟨HK4.out.below HBc.out, HM1.out.below (HB4.out.trans (HBc.out.mono HB4.out.size))⟩, HD1.out.below (HB4.out.trans (HBc.out.mono HB4.out.size))⟩) (fun hHeld => ?_)
      refine wpAnyH_take (i := 0) (oi := { dst := some 34, op := Op.load 29 (Operand.tmp 8), type := 29, pos := "law.go:47", after := #[], guard := none }) (v := ?_) rfl (by kernel_rfl) (by kernel_rfl) (by kernel_rfl) (fun _ _ _ h => h) (Or.inl ⟨by rfl, ?hyonex11⟩) (by assumption) ?restonex11
      case hyonex11 => (intro W hSw; obtain ⟨⟨⟨s0, s1⟩, ⟨s2, s3⟩⟩, ⟨s4, s5⟩⟩ := hSw; go_simp; try with_reducible rfl)
      try simp only [Act.put, List.setIfInBounds_toArray, List.set_cons_zero, List.set_cons_succ]
      refine wpAnyH_take (i := 1) (oi := { dst := some 35, op := Op.move (Operand.tmp 1), type := 3, pos := "law.go:47", after := #[], guard := none }) (v := ?_) rfl (by kernel_rfl) (by kernel_rfl) (by kernel_rfl) (fun _ _ _ h => h) (Or.inl ⟨by rfl, ?hyonex14⟩) (by assumption) ?restonex14
      case hyonex14 => (intro w hSw; (try dsimp only at hSw); go_simp; try with_reducible rfl)
      try simp only [Act.put, List.setIfInBounds_toArray, List.set_cons_zero, List.set_cons_succ]
      refine wpAnyH_take (i := 2) (oi := { dst := some 36, op := Op.load 37 (Operand.tmp 5), type := 37, pos := "law.go:47", after := #[], guard := none }) (v := ?_) rfl (by kernel_rfl) (by kernel_rfl) (by kernel_rfl) (fun _ _ _ h => h) (Or.inl ⟨by rfl, ?hyonex17⟩) (by assumption) ?restonex17
      case hyonex17 => (intro W hSw; obtain ⟨⟨⟨s0, s1⟩, ⟨s2, s3⟩⟩, ⟨s4, s5⟩⟩ := hSw; go_simp; try with_reducible rfl)
      try simp only [Act.put, List.setIfInBounds_toArray, List.set_cons_zero, List.set_cons_succ]
      refine wpAnyH_take (i := 4) (oi := { dst := some 38, op := Op.load 29 (Operand.tmp 3), type := 29, pos := "law.go:47", after := #[], guard := none }) (v := ?_) rfl (by kernel_rfl) (by kernel_rfl) (by kernel_rfl) (fun _ _ _ h => h) (Or.inl ⟨by rfl, ?hyonex110⟩) (by assumption) ?restonex110
      case hyonex110 => (intro W hSw; obtain ⟨⟨⟨s0, s1⟩, ⟨s2, s3⟩⟩, ⟨s4, s5⟩⟩ := hSw; go_simp; try with_reducible rfl)
      try simp only [Act.put, List.setIfInBounds_toArray, List.set_cons_zero, List.set_cons_succ]
      refine wpAnyH_take (i := 5) (oi := { dst := some 39, op := Op.move (Operand.tmp 1), type := 3, pos := "law.go:47", after := #[], guard := none }) (v := ?_) rfl (by kernel_rfl) (by kernel_rfl) (by kernel_rfl) (fun _ _ _ h => h) (Or.inl ⟨by rfl, ?hyonex113⟩) (by assumption) ?restonex113
      case hyonex113 => (intro w hSw; (try dsimp only at hSw); go_simp; try with_reducible rfl)
      try simp only [Act.put, List.setIfInBounds_toArray, List.set_cons_zero, List.set_cons_succ]
      refine wpAnyH_take (i := 6) (oi := { dst := some 40, op := Op.load 37 (Operand.tmp 5), type := 37, pos := "law.go:47", after := #[], guard := none }) (v := ?_) rfl (by kernel_rfl) (by kernel_rfl) (by kernel_rfl) (fun _ _ _ h => h) (Or.inl ⟨by rfl, ?hyonex116⟩) (by assumption) ?restonex116
      case hyonex116 => (intro W hSw; obtain ⟨⟨⟨s0, s1⟩, ⟨s2, s3⟩⟩, ⟨s4, s5⟩⟩ := hSw; go_simp; try with_reducible rfl)
      try simp only [Act.put, List.setIfInBounds_toArray, List.set_cons_zero, List.set_cons_succ]
      refine wpAnyH_ready (rs := [3]) (by kernel_rfl) (by simp) (AllReadyH.cons (o := { dst := some 37, op := Op.call { callee := Callee.value (Operand.func 11), args := #[Operand.tmp 34, Operand.tmp 35, Operand.tmp 36, Operand.const (Value.bool true)], argTypes := #[29, 3, 37, 4] }, type := 29, pos := "law.go:47", after := #[{ on := 0, ground := Ground.data }, { on := 1, ground := Ground.data }, { on := 2, ground := Ground.data }], guard := none }) rfl (fun K hK => ?_) AllReadyH.nil)
      go_simp
      refine (answer_w (HFs4.out.below HBc.out) (HT1.out.below (HB4.out.trans (HBc.out.mono HB4.out.size))) HSm.out (HL1.out.below (HB4.out.trans (HBc.out.mono HB4.out.size))) ty m dn true).mono ?_
      rintro e wa ⟨pa, na, ca, rfl, hA, b1⟩
      have HBa := Lib.hid (HBc.out.trans (b1.mono HBc.out.size))
      have HA := Lib.hid hA
      clear b1 hA HBc
      refine hK.out _ _ (⟨⟨HK4.out.below HBa.out, HM1.out.below (HB4.out.trans (HBa.out.mono HB4.out.size))⟩, HD1.out.below (HB4.out.trans (HBa.out.mono HB4.out.size))⟩) (fun hHeld => ?_)
      clear hK K
      try simp only [Act.put, List.setIfInBounds_toArray, List.set_cons_zero, List.set_cons_succ]
      refine wpAnyH_ready (rs := [7]) (by kernel_rfl) (by simp) (AllReadyH.cons (o := { dst := some 41, op := Op.call { callee := Callee.value (Operand.func 12), args := #[Operand.tmp 38, Operand.tmp 39, Operand.tmp 40, Operand.const (Value.bool true)], argTypes := #[29, 3, 37, 4] }, type := 29, pos := "law.go:47", after := #[{ on := 4, ground := Ground.data }, { on := 5, ground := Ground.data }, { on := 6, ground := Ground.data }, { on := 3, ground := Ground.chain }], guard := none }) rfl (fun K hK => ?_) AllReadyH.nil)
      go_simp
      refine (HX.out.2.1 _ _ F pl cl L (HF1.out.below (HB4.out.trans (HBa.out.mono HB4.out.size))) HS.out HN.out.1 (HL1.out.below (HB4.out.trans (HBa.out.mono HB4.out.size))) HN.out.2.2 HN.out.2.1 ty m dn true).mono ?_
      rintro e wb ⟨pb, nb, cb, rfl, hA2, b1⟩
      have HBb := Lib.hid (HBa.out.trans (b1.mono HBa.out.size))
      have HA2 := Lib.hid hA2
      have HA3 := Lib.hid (HA.out.below b1)
      clear b1 hA2 HBa HA
      refine hK.out _ _ (⟨⟨HK4.out.below HBb.out, HM1.out.below (HB4.out.trans (HBb.out.mono HB4.out.size))⟩, HD1.out.below (HB4.out.trans (HBb.out.mono HB4.out.size))⟩) (fun hHeld => ?_)
      clear hK K
      try simp only [Act.put, List.setIfInBounds_toArray, List.set_cons_zero, List.set_cons_succ]
      refine wpAnyH_ready (rs := [8]) (by kernel_rfl) (by simp) (AllReadyH.cons (o := { dst := some 42, op := Op.call { callee := Callee.value (Operand.func 8), args := #[Operand.tmp 37, Operand.tmp 41], argTypes := #[29, 29] }, type := 4, pos := "law.go:47", after := #[{ on := 3, ground := Ground.data }, { on := 7, ground := Ground.data }, { on := 7, ground := Ground.chain }], guard := none }) rfl (fun K hK => ?_) AllReadyH.nil)
      go_simp
      refine (same_w HX.out.2.2 HA3.out HA2.out rfl (answer_len4 _ _ _ _ _) 510).mono ?_
      rintro e wc ⟨rfl, b1⟩
      have HBd := Lib.hid (HBb.out.trans (b1.mono HBb.out.size))
      clear b1 HBb HA2 HA3
      refine hK.out _ _ (⟨⟨HK4.out.below HBd.out, HM1.out.below (HB4.out.trans (HBd.out.mono HB4.out.size))⟩, HD1.out.below (HB4.out.trans (HBd.out.mono HB4.out.size))⟩) (fun hHeld => ?_)
      clear hK K
      try simp only [Act.put, List.setIfInBounds_toArray, List.set_cons_zero, List.set_cons_succ]
      refine wpAnyH_take (i := 9) (oi := { dst := some 13, op := Op.assign (Operand.tmp 42), type := 4, pos := "law.go:47", after := #[{ on := 8, ground := Ground.data }, { on := 8, ground := Ground.chain }, { on := 0, ground := Ground.phase }, { on := 1, ground := Ground.phase }, { on := 2, ground := Ground.phase }, { on := 3, ground := Ground.phase }, { on := 4, ground := Ground.phase }, { on := 5, ground := Ground.phase }, { on := 6, ground := Ground.phase }, { on := 7, ground := Ground.phase }, { on := 8, ground := Ground.phase }], guard := none }) (v := ?_) rfl (by kernel_rfl) (by kernel_rfl) (by kernel_rfl) (fun _ _ _ h => h) (Or.inl ⟨by rfl, ?hyonex149⟩) (by assumption) ?restonex149
      case hyonex149 => (intro w hSw; (try dsimp only at hSw); go_simp; try with_reducible rfl)
      try simp only [Act.put, List.setIfInBounds_toArray, List.set_cons_zero, List.set_cons_succ]
      refine wpAnyH_done (by kernel_rfl) ?_ _
      clear hHeld
      have HBn := Lib.hid (HB4.out.trans (HBd.out.mono HB4.out.size))
      have HKn := Lib.hid (HK4.out.below HBd.out)
      have HFn := Lib.hid (HFs4.out.below HBd.out)
      have HTn := Lib.hid (HTb.out.below HBd.out)
      have HUn := Lib.hid (HTc.out.below HBd.out)
      clear HB4 HK4 HFs4 HTb HTc HBd
      have HB4 := HBn
      have HK4 := HKn
      have HFs4 := HFn
      have HTb := HTn
      have HTc := HUn
      clear HBn HKn HFn HTn HUn
      go_wp2_with fail
      have HBc := Lib.hid (show Below wc.heap.size wc wc.drew from ⟨rfl, rfl, rfl, Nat.le_refl _, fun _ _ => rfl⟩)
      refine wp_region_held_drew (S := (fun W => (MsgIn W Kb ty (.slice p5 F.length c5) ∧ MsgIn W B ty (.slice p F.length c)) ∧ MsgIn W (B + 1) dn (.slice pl L.length cl))) (by kernel_rfl) (⟨⟨HK4.out.below HBc.out, HM1.out.below (HB4.out.trans (HBc.out.mono HB4.out.size))⟩, HD1.out.below (HB4.out.trans (HBc.out.mono HB4.out.size))⟩) (fun hHeld => ?_)
      refine wpAnyH_take (i := 0) (oi := { dst := some 43, op := Op.load 29 (Operand.tmp 8), type := 29, pos := "law.go:48", after := #[], guard := none }) (v := ?_) rfl (by kernel_rfl) (by kernel_rfl) (by kernel_rfl) (fun _ _ _ h => h) (Or.inl ⟨by rfl, ?hytwox21⟩) (by assumption) ?resttwox21
      case hytwox21 => (intro W hSw; obtain ⟨⟨⟨s0, s1⟩, ⟨s2, s3⟩⟩, ⟨s4, s5⟩⟩ := hSw; go_simp; try with_reducible rfl)
      try simp only [Act.put, List.setIfInBounds_toArray, List.set_cons_zero, List.set_cons_succ]
      refine wpAnyH_take (i := 1) (oi := { dst := some 44, op := Op.move (Operand.tmp 1), type := 3, pos := "law.go:48", after := #[], guard := none }) (v := ?_) rfl (by kernel_rfl) (by kernel_rfl) (by kernel_rfl) (fun _ _ _ h => h) (Or.inl ⟨by rfl, ?hytwox24⟩) (by assumption) ?resttwox24
      case hytwox24 => (intro w hSw; (try dsimp only at hSw); go_simp; try with_reducible rfl)
      try simp only [Act.put, List.setIfInBounds_toArray, List.set_cons_zero, List.set_cons_succ]
      refine wpAnyH_take (i := 2) (oi := { dst := some 45, op := Op.load 37 (Operand.tmp 5), type := 37, pos := "law.go:48", after := #[], guard := none }) (v := ?_) rfl (by kernel_rfl) (by kernel_rfl) (by kernel_rfl) (fun _ _ _ h => h) (Or.inl ⟨by rfl, ?hytwox27⟩) (by assumption) ?resttwox27
      case hytwox27 => (intro W hSw; obtain ⟨⟨⟨s0, s1⟩, ⟨s2, s3⟩⟩, ⟨s4, s5⟩⟩ := hSw; go_simp; try with_reducible rfl)
      try simp only [Act.put, List.setIfInBounds_toArray, List.set_cons_zero, List.set_cons_succ]
      refine wpAnyH_take (i := 4) (oi := { dst := some 47, op := Op.load 29 (Operand.tmp 3), type := 29, pos := "law.go:48", after := #[], guard := none }) (v := ?_) rfl (by kernel_rfl) (by kernel_rfl) (by kernel_rfl) (fun _ _ _ h => h) (Or.inl ⟨by rfl, ?hytwox210⟩) (by assumption) ?resttwox210
      case hytwox210 => (intro W hSw; obtain ⟨⟨⟨s0, s1⟩, ⟨s2, s3⟩⟩, ⟨s4, s5⟩⟩ := hSw; go_simp; try with_reducible rfl)
      try simp only [Act.put, List.setIfInBounds_toArray, List.set_cons_zero, List.set_cons_succ]
      refine wpAnyH_take (i := 5) (oi := { dst := some 48, op := Op.move (Operand.tmp 1), type := 3, pos := "law.go:48", after := #[], guard := none }) (v := ?_) rfl (by kernel_rfl) (by kernel_rfl) (by kernel_rfl) (fun _ _ _ h => h) (Or.inl ⟨by rfl, ?hytwox213⟩) (by assumption) ?resttwox213
      case hytwox213 => (intro w hSw; (try dsimp only at hSw); go_simp; try with_reducible rfl)
      try simp only [Act.put, List.setIfInBounds_toArray, List.set_cons_zero, List.set_cons_succ]
      refine wpAnyH_take (i := 6) (oi := { dst := some 49, op := Op.load 37 (Operand.tmp 5), type := 37, pos := "law.go:48", after := #[], guard := none }) (v := ?_) rfl (by kernel_rfl) (by kernel_rfl) (by kernel_rfl) (fun _ _ _ h => h) (Or.inl ⟨by rfl, ?hytwox216⟩) (by assumption) ?resttwox216
      case hytwox216 => (intro W hSw; obtain ⟨⟨⟨s0, s1⟩, ⟨s2, s3⟩⟩, ⟨s4, s5⟩⟩ := hSw; go_simp; try with_reducible rfl)
      try simp only [Act.put, List.setIfInBounds_toArray, List.set_cons_zero, List.set_cons_succ]
      refine wpAnyH_ready (rs := [3]) (by kernel_rfl) (by simp) (AllReadyH.cons (o := { dst := some 46, op := Op.call { callee := Callee.value (Operand.func 11), args := #[Operand.tmp 43, Operand.tmp 44, Operand.tmp 45, Operand.const (Value.bool false)], argTypes := #[29, 3, 37, 4] }, type := 29, pos := "law.go:48", after := #[{ on := 0, ground := Ground.data }, { on := 1, ground := Ground.data }, { on := 2, ground := Ground.data }], guard := none }) rfl (fun K hK => ?_) AllReadyH.nil)
      go_simp
      refine (answer_w (HFs4.out.below HBc.out) (HT1.out.below (HB4.out.trans (HBc.out.mono HB4.out.size))) HSm.out (HL1.out.below (HB4.out.trans (HBc.out.mono HB4.out.size))) ty m dn false).mono ?_
      rintro e wa ⟨pa, na, ca, rfl, hA, b1⟩
      have HBa := Lib.hid (HBc.out.trans (b1.mono HBc.out.size))
      have HA := Lib.hid hA
      clear b1 hA HBc
      refine hK.out _ _ (⟨⟨HK4.out.below HBa.out, HM1.out.below (HB4.out.trans (HBa.out.mono HB4.out.size))⟩, HD1.out.below (HB4.out.trans (HBa.out.mono HB4.out.size))⟩) (fun hHeld => ?_)
      clear hK K
      try simp only [Act.put, List.setIfInBounds_toArray, List.set_cons_zero, List.set_cons_succ]
      refine wpAnyH_ready (rs := [7]) (by kernel_rfl) (by simp) (AllReadyH.cons (o := { dst := some 50, op := Op.call { callee := Callee.value (Operand.func 12), args := #[Operand.tmp 47, Operand.tmp 48, Operand.tmp 49, Operand.const (Value.bool false)], argTypes := #[29, 3, 37, 4] }, type := 29, pos := "law.go:48", after := #[{ on := 4, ground := Ground.data }, { on := 5, ground := Ground.data }, { on := 6, ground := Ground.data }, { on := 3, ground := Ground.chain }], guard := none }) rfl (fun K hK => ?_) AllReadyH.nil)
      go_simp
      refine (HX.out.2.1 _ _ F pl cl L (HF1.out.below (HB4.out.trans (HBa.out.mono HB4.out.size))) HS.out HN.out.1 (HL1.out.below (HB4.out.trans (HBa.out.mono HB4.out.size))) HN.out.2.2 HN.out.2.1 ty m dn false).mono ?_
      rintro e wb ⟨pb, nb, cb, rfl, hA2, b1⟩
      have HBb := Lib.hid (HBa.out.trans (b1.mono HBa.out.size))
      have HA2 := Lib.hid hA2
      have HA3 := Lib.hid (HA.out.below b1)
      clear b1 hA2 HBa HA
      refine hK.out _ _ (⟨⟨HK4.out.below HBb.out, HM1.out.below (HB4.out.trans (HBb.out.mono HB4.out.size))⟩, HD1.out.below (HB4.out.trans (HBb.out.mono HB4.out.size))⟩) (fun hHeld => ?_)
      clear hK K
      try simp only [Act.put, List.setIfInBounds_toArray, List.set_cons_zero, List.set_cons_succ]
      refine wpAnyH_ready (rs := [8]) (by kernel_rfl) (by simp) (AllReadyH.cons (o := { dst := some 51, op := Op.call { callee := Callee.value (Operand.func 8), args := #[Operand.tmp 46, Operand.tmp 50], argTypes := #[29, 29] }, type := 4, pos := "law.go:48", after := #[{ on := 3, ground := Ground.data }, { on := 7, ground := Ground.data }, { on := 7, ground := Ground.chain }], guard := none }) rfl (fun K hK => ?_) AllReadyH.nil)
      go_simp
      refine (same_w HX.out.2.2 HA3.out HA2.out rfl (answer_len4 _ _ _ _ _) 510).mono ?_
      rintro e wc ⟨rfl, b1⟩
      have HBd := Lib.hid (HBb.out.trans (b1.mono HBb.out.size))
      clear b1 HBb HA2 HA3
      refine hK.out _ _ (⟨⟨HK4.out.below HBd.out, HM1.out.below (HB4.out.trans (HBd.out.mono HB4.out.size))⟩, HD1.out.below (HB4.out.trans (HBd.out.mono HB4.out.size))⟩) (fun hHeld => ?_)
      clear hK K
      try simp only [Act.put, List.setIfInBounds_toArray, List.set_cons_zero, List.set_cons_succ]
      refine wpAnyH_take (i := 9) (oi := { dst := some 14, op := Op.assign (Operand.tmp 51), type := 4, pos := "law.go:48", after := #[{ on := 8, ground := Ground.data }, { on := 8, ground := Ground.chain }, { on := 0, ground := Ground.phase }, { on := 1, ground := Ground.phase }, { on := 2, ground := Ground.phase }, { on := 3, ground := Ground.phase }, { on := 4, ground := Ground.phase }, { on := 5, ground := Ground.phase }, { on := 6, ground := Ground.phase }, { on := 7, ground := Ground.phase }, { on := 8, ground := Ground.phase }], guard := none }) (v := ?_) rfl (by kernel_rfl) (by kernel_rfl) (by kernel_rfl) (fun _ _ _ h => h) (Or.inl ⟨by rfl, ?hytwox249⟩) (by assumption) ?resttwox249
      case hytwox249 => (intro w hSw; (try dsimp only at hSw); go_simp; try with_reducible rfl)
      try simp only [Act.put, List.setIfInBounds_toArray, List.set_cons_zero, List.set_cons_succ]
      refine wpAnyH_done (by kernel_rfl) ?_ _
      clear hHeld
      have HBn := Lib.hid (HB4.out.trans (HBd.out.mono HB4.out.size))
      have HKn := Lib.hid (HK4.out.below HBd.out)
      have HFn := Lib.hid (HFs4.out.below HBd.out)
      have HTn := Lib.hid (HTb.out.below HBd.out)
      have HUn := Lib.hid (HTc.out.below HBd.out)
      clear HB4 HK4 HFs4 HTb HTc HBd
      have HB4 := HBn
      have HK4 := HKn
      have HFs4 := HFn
      have HTb := HTn
      have HTc := HUn
      clear HBn HKn HFn HTn HUn
      obtain ⟨m0, m1⟩ := HK4.out
      obtain ⟨d0, d1⟩ := HM1.out.below HB4.out
      go_wp2_with fail
      refine (same_w HX.out.2.2 HFs4.out (HF1.out.below HB4.out) rfl HN.out.1 ty).mono ?_
      rintro e wd ⟨rfl, b1⟩
      have HBe := Lib.hid (HB1.out.trans ((HB4.out.trans (b1.mono HB4.out.size)).mono HB1.out.size))
      clear m0 m1 d0 d1
      obtain ⟨x0, x1, x2, x3, x4, x5⟩ := HTb.out.below b1
      obtain ⟨y0, y1, y2, y3, y4, y5⟩ := HTc.out.below b1
      simp only [Nat.zero_add] at x0 x1 x2 x3 x4 x5 y0 y1 y2 y3 y4 y5
      clear b1 HB4 HK4 HFs4 HTb HTc
      go_wp2_with fail
      go_ret
      exact ⟨rfl, HBe.out⟩
    · refine step_al rfl rfl (fun Kb wn hb hK1 hK2 => ?_)
      try (have HF2 := Lib.hid (HFo.out.below hb); clear HFo; have HFo := HF2; clear HF2)
      have HKl := Lib.hid (Nat.le_trans HBc.out.size hK1)
      have HKr := Lib.hid (And.intro (show Kb < wn.heap.size from (Array.getElem?_eq_some_iff.1 hK2).1) hK2)
      have HBn := Lib.hid (HBc.out.trans (hb.mono HBc.out.size))
      clear hb hK1 hK2 HBc
      have HBc := HBn
      clear HBn
      refine hK.out _ _ ((HM1.out.below HBc.out)) (fun hHeld => ?_)
      clear hK K
      try simp only [Act.put, List.setIfInBounds_toArray, List.set_cons_zero, List.set_cons_succ]
      refine wpAnyH_ready (rs := [5]) (by kernel_rfl) (by simp) (AllReadyH.cons (o := { dst := some 22, op := Op.call { callee := Callee.builtin Builtin.append, args := #[Operand.tmp 19, Operand.tmp 21], argTypes := #[27, 27] }, type := 27, pos := "law.go:44", after := #[{ on := 2, ground := Ground.data }, { on := 4, ground := Ground.data }], guard := none }) rfl (fun K hK => ?_) AllReadyH.nil)
      refine step_own rfl (.tmp 19) (.tmp 21) rfl rfl rfl (HF1.out.below HBc.out) (by have := HN.out.1; omega) (fun p5 c5 wn hf hb => ?_)
      have HFo := Lib.hid (fbuf_lower hf HBc.out.size)
      have HBn := Lib.hid (HBc.out.trans (hb.mono HBc.out.size))
      try (have HK2 := Lib.hid (show _ from And.intro (Nat.lt_of_lt_of_le HKr.out.1 hb.size) ((hb.block _ HKr.out.1).trans HKr.out.2)); clear HKr; have HKr := HK2; clear HK2)
      clear hb hf HBc
      have HBc := HBn
      clear HBn
      refine hK.out _ _ ((HM1.out.below HBc.out)) (fun hHeld => ?_)
      clear hK K
      try simp only [Act.put, List.setIfInBounds_toArray, List.set_cons_zero, List.set_cons_succ]
      refine wpAnyH_take (i := 6) (oi := { dst := some 23, op := Op.build 29 #[(0, Operand.tmp 18), (1, Operand.tmp 22)], type := 29, pos := "law.go:44", after := #[{ on := 1, ground := Ground.data }, { on := 5, ground := Ground.data }], guard := none }) (v := ?_) rfl (by kernel_rfl) (by kernel_rfl) (by kernel_rfl) (fun _ _ _ h => h) (Or.inl ⟨by rfl, ?hyownx0129⟩) (by assumption) ?restownx0129
      case hyownx0129 => (intro w hSw; (try dsimp only at hSw); go_simp; try with_reducible rfl)
      try simp only [Act.put, List.setIfInBounds_toArray, List.set_cons_zero, List.set_cons_succ]
      refine wpAnyH_ready (rs := [8]) (by kernel_rfl) (by simp) (AllReadyH.cons (o := { dst := none, op := Op.store 29 (Operand.tmp 8) (Operand.tmp 23), type := 0, pos := "law.go:44", after := #[{ on := 7, ground := Ground.data }, { on := 6, ground := Ground.data }, { on := 5, ground := Ground.chain }, { on := 0, ground := Ground.phase }, { on := 1, ground := Ground.phase }, { on := 2, ground := Ground.phase }, { on := 3, ground := Ground.phase }, { on := 4, ground := Ground.phase }, { on := 5, ground := Ground.phase }, { on := 6, ground := Ground.phase }, { on := 7, ground := Ground.phase }], guard := none }) rfl (fun K hK => ?_) AllReadyH.nil)
      have hst := store_all (ty := 29) HKr.out.2 info32s rfl #[.int .i64 ty, .slice p5 F.length c5] rfl rfl
      refine step_nov rfl (exec_store 29 (.tmp 8) (.tmp 23) rfl ⟨Kb, 0, none⟩ rfl _ rfl hst) ?_
      clear hst
      have HFn := Lib.hid (fbuf_setRow HFo.out HKr.out.2 #[.int .i64 ty, .slice p5 F.length c5])
      have HBn := Lib.hid (below_setRow HBc.out HKl.out #[.int .i64 ty, .slice p5 F.length c5])
      have hKn := setRow_block HKr.out.2 (cs' := #[.int .i64 ty, .slice p5 F.length c5])
      have HMo := Lib.hid (show MsgIn _ Kb ty (.slice p5 F.length c5) from ⟨(cells_at hKn 0).trans rfl, (cells_at hKn 1).trans rfl⟩)
      clear HFo HBc HKr hKn
      have HBc := HBn
      clear HBn
      refine hK.out _ _ ((HM1.out.below HBc.out)) (fun hHeld => ?_)
      clear hK K
      refine wpAnyH_done (by kernel_rfl) ?_ _
      clear hHeld m0 m1
      obtain ⟨w2, e2⟩ : ∃ W, World.setRow wn Kb #[.int .i64 ty, .slice p5 F.length c5] = W := ⟨_, rfl⟩
      have HMo2 := Lib.hid HMo.out
      rw [e2] at HFn HBc HMo ⊢
      clear e2 HMo2 HKl
      have HFs := Lib.hid (HFn.out.fs (by have := HN.out.1; simp only [maxLen]; omega))
      obtain ⟨m0, m1⟩ := HMo.out
      go_wp2_with fail
      refine (read_w HFs.out (HT1.out.below HBc.out) HSm.out ty HRd.out).mono ?_
      rintro e w3 ⟨rfl, b1⟩
      have b2 := b1.trans ((alloc_below w3 (.cells #[.int .i64 0, .int .i64 a0, .int .i64 a1, .int .i64 a2, .int .i64 a3, .int .i64 a4] 23)).mono b1.size)
      have HT3 := Lib.hid (HT1.out.below (HBc.out.trans (b2.mono HBc.out.size)))
      have HM3 := Lib.hid (HM1.out.below (HBc.out.trans (b2.mono HBc.out.size)))
      have HK3 := Lib.hid (HMo.out.below b2)
      have HF3 := Lib.hid (HF1.out.below (HBc.out.trans (b2.mono HBc.out.size)))
      have HFs3 := Lib.hid (HFs.out.below b2)
      have HB3 := Lib.hid (HBc.out.trans (b2.mono HBc.out.size))
      have ht3 := heap_alloc_last w3 (.cells #[.int .i64 0, .int .i64 a0, .int .i64 a1, .int .i64 a2, .int .i64 a3, .int .i64 a4] 23)
      have HTa := Lib.hid (show TotIn (w3.alloc (.cells #[.int .i64 0, .int .i64 a0, .int .i64 a1, .int .i64 a2, .int .i64 a3, .int .i64 a4] 23)) w3.heap.size 0 (0, a0, a1, a2, a3, a4) from ⟨(cells_at ht3 0).trans rfl, (cells_at ht3 1).trans rfl, (cells_at ht3 2).trans rfl, (cells_at ht3 3).trans rfl, (cells_at ht3 4).trans rfl, (cells_at ht3 5).trans rfl⟩)
      clear m0 m1 b1 b2 ht3 HFs HBc HMo HFn
      obtain ⟨m0, m1⟩ := HM3.out
      go_wp2_with fail
      refine (refread_w HX.out.1 HF3.out HS.out HN.out.1 ty HRd.out).mono ?_
      rintro e w4 ⟨rfl, b1⟩
      have b2 := b1.trans ((alloc_below w4 (.cells #[.int .i64 0, .int .i64 a0, .int .i64 a1, .int .i64 a2, .int .i64 a3, .int .i64 a4] 23)).mono b1.size)
      have HTb := Lib.hid (HTa.out.below b2)
      have ht3 := heap_alloc_last w4 (.cells #[.int .i64 0, .int .i64 a0, .int .i64 a1, .int .i64 a2, .int .i64 a3, .int .i64 a4] 23)
      have HTc := Lib.hid (show TotIn (w4.alloc (.cells #[.int .i64 0, .int .i64 a0, .int .i64 a1, .int .i64 a2, .int .i64 a3, .int .i64 a4] 23)) w4.heap.size 0 (0, a0, a1, a2, a3, a4) from ⟨(cells_at ht3 0).trans rfl, (cells_at ht3 1).trans rfl, (cells_at ht3 2).trans rfl, (cells_at ht3 3).trans rfl, (cells_at ht3 4).trans rfl, (cells_at ht3 5).trans rfl⟩)
      have HB4 := Lib.hid (HB3.out.trans (b2.mono HB3.out.size))
      have HK4 := Lib.hid (HK3.out.below b2)
      have HFs4 := Lib.hid (HFs3.out.below b2)
      clear m0 m1 b1 b2 ht3 HT3 HM3 HK3 HF3 HFs3 HB3 HTa
      obtain ⟨w5, e5⟩ : ∃ W, w4.alloc (.cells #[.int .i64 0, .int .i64 a0, .int .i64 a1, .int .i64 a2, .int .i64 a3, .int .i64 a4] 23) = W := ⟨_, rfl⟩
      rw [e5] at HTb HTc HB4 HK4 HFs4
      have E5 := Lib.hid e5
      obtain ⟨X3, eX3⟩ : ∃ X, w3.heap.size = X := ⟨_, rfl⟩
      obtain ⟨X4, eX4⟩ : ∃ X, w4.heap.size = X := ⟨_, rfl⟩
      rw [eX3] at HTb
      rw [eX4] at HTc
      clear e5
      go_wp2_with fail
      rw [E5.out]
      have HBc := Lib.hid (show Below w5.heap.size w5 w5.drew from ⟨rfl, rfl, rfl, Nat.le_refl _, fun _ _ => rfl⟩)
      refine wp_region_held_drew (S := (fun W => (MsgIn W Kb ty (.slice p5 F.length c5) ∧ MsgIn W B ty (.slice p F.length c)) ∧ MsgIn W (B + 1) dn (.slice pl L.length cl))) (by kernel_rfl) (⟨⟨HK4.out.below HBc.out, HM1.out.below (HB4.out.trans (HBc.out.mono HB4.out.size))⟩, HD1.out.below (HB4.out.trans (HBc.out.mono HB4.out.size))⟩) (fun hHeld => ?_)
      refine wpAnyH_take (i := 0) (oi := { dst := some 34, op := Op.load 29 (Operand.tmp 8), type := 29, pos := "law.go:47", after := #[], guard := none }) (v := ?_) rfl (by kernel_rfl) (by kernel_rfl) (by kernel_rfl) (fun _ _ _ h => h) (Or.inl ⟨by rfl, ?hyonex31⟩) (by assumption) ?restonex31
      case hyonex31 => (intro W hSw; obtain ⟨⟨⟨s0, s1⟩, ⟨s2, s3⟩⟩, ⟨s4, s5⟩⟩ := hSw; go_simp; try with_reducible rfl)
      try simp only [Act.put, List.setIfInBounds_toArray, List.set_cons_zero, List.set_cons_succ]
      refine wpAnyH_take (i := 1) (oi := { dst := some 35, op := Op.move (Operand.tmp 1), type := 3, pos := "law.go:47", after := #[], guard := none }) (v := ?_) rfl (by kernel_rfl) (by kernel_rfl) (by kernel_rfl) (fun _ _ _ h => h) (Or.inl ⟨by rfl, ?hyonex34⟩) (by assumption) ?restonex34
      case hyonex34 => (intro w hSw; (try dsimp only at hSw); go_simp; try with_reducible rfl)
      try simp only [Act.put, List.setIfInBounds_toArray, List.set_cons_zero, List.set_cons_succ]
      refine wpAnyH_take (i := 2) (oi := { dst := some 36, op := Op.load 37 (Operand.tmp 5), type := 37, pos := "law.go:47", after := #[], guard := none }) (v := ?_) rfl (by kernel_rfl) (by kernel_rfl) (by kernel_rfl) (fun _ _ _ h => h) (Or.inl ⟨by rfl, ?hyonex37⟩) (by assumption) ?restonex37
      case hyonex37 => (intro W hSw; obtain ⟨⟨⟨s0, s1⟩, ⟨s2, s3⟩⟩, ⟨s4, s5⟩⟩ := hSw; go_simp; try with_reducible rfl)
      try simp only [Act.put, List.setIfInBounds_toArray, List.set_cons_zero, List.set_cons_succ]
      refine wpAnyH_take (i := 4) (oi := { dst := some 38, op := Op.load 29 (Operand.tmp 3), type := 29, pos := "law.go:47", after := #[], guard := none }) (v := ?_) rfl (by kernel_rfl) (by kernel_rfl) (by kernel_rfl) (fun _ _ _ h => h) (Or.inl ⟨by rfl, ?hyonex310⟩) (by assumption) ?restonex310
      case hyonex310 => (intro W hSw; obtain ⟨⟨⟨s0, s1⟩, ⟨s2, s3⟩⟩, ⟨s4, s5⟩⟩ := hSw; go_simp; try with_reducible rfl)
      try simp only [Act.put, List.setIfInBounds_toArray, List.set_cons_zero, List.set_cons_succ]
      refine wpAnyH_take (i := 5) (oi := { dst := some 39, op := Op.move (Operand.tmp 1), type := 3, pos := "law.go:47", after := #[], guard := none }) (v := ?_) rfl (by kernel_rfl) (by kernel_rfl) (by kernel_rfl) (fun _ _ _ h => h) (Or.inl ⟨by rfl, ?hyonex313⟩) (by assumption) ?restonex313
      case hyonex313 => (intro w hSw; (try dsimp only at hSw); go_simp; try with_reducible rfl)
      try simp only [Act.put, List.setIfInBounds_toArray, List.set_cons_zero, List.set_cons_succ]
      refine wpAnyH_take (i := 6) (oi := { dst := some 40, op := Op.load 37 (Operand.tmp 5), type := 37, pos := "law.go:47", after := #[], guard := none }) (v := ?_) rfl (by kernel_rfl) (by kernel_rfl) (by kernel_rfl) (fun _ _ _ h => h) (Or.inl ⟨by rfl, ?hyonex316⟩) (by assumption) ?restonex316
      case hyonex316 => (intro W hSw; obtain ⟨⟨⟨s0, s1⟩, ⟨s2, s3⟩⟩, ⟨s4, s5⟩⟩ := hSw; go_simp; try with_reducible rfl)
      try simp only [Act.put, List.setIfInBounds_toArray, List.set_cons_zero, List.set_cons_succ]
      refine wpAnyH_ready (rs := [3]) (by kernel_rfl) (by simp) (AllReadyH.cons (o := { dst := some 37, op := Op.call { callee := Callee.value (Operand.func 11), args := #[Operand.tmp 34, Operand.tmp 35, Operand.tmp 36, Operand.const (Value.bool true)], argTypes := #[29, 3, 37, 4] }, type := 29, pos := "law.go:47", after := #[{ on := 0, ground := Ground.data }, { on := 1, ground := Ground.data }, { on := 2, ground := Ground.data }], guard := none }) rfl (fun K hK => ?_) AllReadyH.nil)
      go_simp
      refine (answer_w (HFs4.out.below HBc.out) (HT1.out.below (HB4.out.trans (HBc.out.mono HB4.out.size))) HSm.out (HL1.out.below (HB4.out.trans (HBc.out.mono HB4.out.size))) ty m dn true).mono ?_
      rintro e wa ⟨pa, na, ca, rfl, hA, b1⟩
      have HBa := Lib.hid (HBc.out.trans (b1.mono HBc.out.size))
      have HA := Lib.hid hA
      clear b1 hA HBc
      refine hK.out _ _ (⟨⟨HK4.out.below HBa.out, HM1.out.below (HB4.out.trans (HBa.out.mono HB4.out.size))⟩, HD1.out.below (HB4.out.trans (HBa.out.mono HB4.out.size))⟩) (fun hHeld => ?_)
      clear hK K
      try simp only [Act.put, List.setIfInBounds_toArray, List.set_cons_zero, List.set_cons_succ]
      refine wpAnyH_ready (rs := [7]) (by kernel_rfl) (by simp) (AllReadyH.cons (o := { dst := some 41, op := Op.call { callee := Callee.value (Operand.func 12), args := #[Operand.tmp 38, Operand.tmp 39, Operand.tmp 40, Operand.const (Value.bool true)], argTypes := #[29, 3, 37, 4] }, type := 29, pos := "law.go:47", after := #[{ on := 4, ground := Ground.data }, { on := 5, ground := Ground.data }, { on := 6, ground := Ground.data }, { on := 3, ground := Ground.chain }], guard := none }) rfl (fun K hK => ?_) AllReadyH.nil)
      go_simp
      refine (HX.out.2.1 _ _ F pl cl L (HF1.out.below (HB4.out.trans (HBa.out.mono HB4.out.size))) HS.out HN.out.1 (HL1.out.below (HB4.out.trans (HBa.out.mono HB4.out.size))) HN.out.2.2 HN.out.2.1 ty m dn true).mono ?_
      rintro e wb ⟨pb, nb, cb, rfl, hA2, b1⟩
      have HBb := Lib.hid (HBa.out.trans (b1.mono HBa.out.size))
      have HA2 := Lib.hid hA2
      have HA3 := Lib.hid (HA.out.below b1)
      clear b1 hA2 HBa HA
      refine hK.out _ _ (⟨⟨HK4.out.below HBb.out, HM1.out.below (HB4.out.trans (HBb.out.mono HB4.out.size))⟩, HD1.out.below (HB4.out.trans (HBb.out.mono HB4.out.size))⟩) (fun hHeld => ?_)
      clear hK K
      try simp only [Act.put, List.setIfInBounds_toArray, List.set_cons_zero, List.set_cons_succ]
      refine wpAnyH_ready (rs := [8]) (by kernel_rfl) (by simp) (AllReadyH.cons (o := { dst := some 42, op := Op.call { callee := Callee.value (Operand.func 8), args := #[Operand.tmp 37, Operand.tmp 41], argTypes := #[29, 29] }, type := 4, pos := "law.go:47", after := #[{ on := 3, ground := Ground.data }, { on := 7, ground := Ground.data }, { on := 7, ground := Ground.chain }], guard := none }) rfl (fun K hK => ?_) AllReadyH.nil)
      go_simp
      refine (same_w HX.out.2.2 HA3.out HA2.out rfl (answer_len4 _ _ _ _ _) 510).mono ?_
      rintro e wc ⟨rfl, b1⟩
      have HBd := Lib.hid (HBb.out.trans (b1.mono HBb.out.size))
      clear b1 HBb HA2 HA3
      refine hK.out _ _ (⟨⟨HK4.out.below HBd.out, HM1.out.below (HB4.out.trans (HBd.out.mono HB4.out.size))⟩, HD1.out.below (HB4.out.trans (HBd.out.mono HB4.out.size))⟩) (fun hHeld => ?_)
      clear hK K
      try simp only [Act.put, List.setIfInBounds_toArray, List.set_cons_zero, List.set_cons_succ]
      refine wpAnyH_take (i := 9) (oi := { dst := some 13, op := Op.assign (Operand.tmp 42), type := 4, pos := "law.go:47", after := #[{ on := 8, ground := Ground.data }, { on := 8, ground := Ground.chain }, { on := 0, ground := Ground.phase }, { on := 1, ground := Ground.phase }, { on := 2, ground := Ground.phase }, { on := 3, ground := Ground.phase }, { on := 4, ground := Ground.phase }, { on := 5, ground := Ground.phase }, { on := 6, ground := Ground.phase }, { on := 7, ground := Ground.phase }, { on := 8, ground := Ground.phase }], guard := none }) (v := ?_) rfl (by kernel_rfl) (by kernel_rfl) (by kernel_rfl) (fun _ _ _ h => h) (Or.inl ⟨by rfl, ?hyonex349⟩) (by assumption) ?restonex349
      case hyonex349 => (intro w hSw; (try dsimp only at hSw); go_simp; try with_reducible rfl)
      try simp only [Act.put, List.setIfInBounds_toArray, List.set_cons_zero, List.set_cons_succ]
      refine wpAnyH_done (by kernel_rfl) ?_ _
      clear hHeld
      have HBn := Lib.hid (HB4.out.trans (HBd.out.mono HB4.out.size))
      have HKn := Lib.hid (HK4.out.below HBd.out)
      have HFn := Lib.hid (HFs4.out.below HBd.out)
      have HTn := Lib.hid (HTb.out.below HBd.out)
      have HUn := Lib.hid (HTc.out.below HBd.out)
      clear HB4 HK4 HFs4 HTb HTc HBd
      have HB4 := HBn
      have HK4 := HKn
      have HFs4 := HFn
      have HTb := HTn
      have HTc := HUn
      clear HBn HKn HFn HTn HUn
      go_wp2_with fail
      have HBc := Lib.hid (show Below wc.heap.size wc wc.drew from ⟨rfl, rfl, rfl, Nat.le_refl _, fun _ _ => rfl⟩)
      refine wp_region_held_drew (S := (fun W => (MsgIn W Kb ty (.slice p5 F.length c5) ∧ MsgIn W B ty (.slice p F.length c)) ∧ MsgIn W (B + 1) dn (.slice pl L.length cl))) (by kernel_rfl) (⟨⟨HK4.out.below HBc.out, HM1.out.below (HB4.out.trans (HBc.out.mono HB4.out.size))⟩, HD1.out.below (HB4.out.trans (HBc.out.mono HB4.out.size))⟩) (fun hHeld => ?_)
      refine wpAnyH_take (i := 0) (oi := { dst := some 43, op := Op.load 29 (Operand.tmp 8), type := 29, pos := "law.go:48", after := #[], guard := none }) (v := ?_) rfl (by kernel_rfl) (by kernel_rfl) (by kernel_rfl) (fun _ _ _ h => h) (Or.inl ⟨by rfl, ?hytwox41⟩) (by assumption) ?resttwox41
      case hytwox41 => (intro W hSw; obtain ⟨⟨⟨s0, s1⟩, ⟨s2, s3⟩⟩, ⟨s4, s5⟩⟩ := hSw; go_simp; try with_reducible rfl)
      try simp only [Act.put, List.setIfInBounds_toArray, List.set_cons_zero, List.set_cons_succ]
      refine wpAnyH_take (i := 1) (oi := { dst := some 44, op := Op.move (Operand.tmp 1), type := 3, pos := "law.go:48", after := #[], guard := none }) (v := ?_) rfl (by kernel_rfl) (by kernel_rfl) (by kernel_rfl) (fun _ _ _ h => h) (Or.inl ⟨by rfl, ?hytwox44⟩) (by assumption) ?resttwox44
      case hytwox44 => (intro w hSw; (try dsimp only at hSw); go_simp; try with_reducible rfl)
      try simp only [Act.put, List.setIfInBounds_toArray, List.set_cons_zero, List.set_cons_succ]
      refine wpAnyH_take (i := 2) (oi := { dst := some 45, op := Op.load 37 (Operand.tmp 5), type := 37, pos := "law.go:48", after := #[], guard := none }) (v := ?_) rfl (by kernel_rfl) (by kernel_rfl) (by kernel_rfl) (fun _ _ _ h => h) (Or.inl ⟨by rfl, ?hytwox47⟩) (by assumption) ?resttwox47
      case hytwox47 => (intro W hSw; obtain ⟨⟨⟨s0, s1⟩, ⟨s2, s3⟩⟩, ⟨s4, s5⟩⟩ := hSw; go_simp; try with_reducible rfl)
      try simp only [Act.put, List.setIfInBounds_toArray, List.set_cons_zero, List.set_cons_succ]
      refine wpAnyH_take (i := 4) (oi := { dst := some 47, op := Op.load 29 (Operand.tmp 3), type := 29, pos := "law.go:48", after := #[], guard := none }) (v := ?_) rfl (by kernel_rfl) (by kernel_rfl) (by kernel_rfl) (fun _ _ _ h => h) (Or.inl ⟨by rfl, ?hytwox410⟩) (by assumption) ?resttwox410
      case hytwox410 => (intro W hSw; obtain ⟨⟨⟨s0, s1⟩, ⟨s2, s3⟩⟩, ⟨s4, s5⟩⟩ := hSw; go_simp; try with_reducible rfl)
      try simp only [Act.put, List.setIfInBounds_toArray, List.set_cons_zero, List.set_cons_succ]
      refine wpAnyH_take (i := 5) (oi := { dst := some 48, op := Op.move (Operand.tmp 1), type := 3, pos := "law.go:48", after := #[], guard := none }) (v := ?_) rfl (by kernel_rfl) (by kernel_rfl) (by kernel_rfl) (fun _ _ _ h => h) (Or.inl ⟨by rfl, ?hytwox413⟩) (by assumption) ?resttwox413
      case hytwox413 => (intro w hSw; (try dsimp only at hSw); go_simp; try with_reducible rfl)
      try simp only [Act.put, List.setIfInBounds_toArray, List.set_cons_zero, List.set_cons_succ]
      refine wpAnyH_take (i := 6) (oi := { dst := some 49, op := Op.load 37 (Operand.tmp 5), type := 37, pos := "law.go:48", after := #[], guard := none }) (v := ?_) rfl (by kernel_rfl) (by kernel_rfl) (by kernel_rfl) (fun _ _ _ h => h) (Or.inl ⟨by rfl, ?hytwox416⟩) (by assumption) ?resttwox416
      case hytwox416 => (intro W hSw; obtain ⟨⟨⟨s0, s1⟩, ⟨s2, s3⟩⟩, ⟨s4, s5⟩⟩ := hSw; go_simp; try with_reducible rfl)
      try simp only [Act.put, List.setIfInBounds_toArray, List.set_cons_zero, List.set_cons_succ]
      refine wpAnyH_ready (rs := [3]) (by kernel_rfl) (by simp) (AllReadyH.cons (o := { dst := some 46, op := Op.call { callee := Callee.value (Operand.func 11), args := #[Operand.tmp 43, Operand.tmp 44, Operand.tmp 45, Operand.const (Value.bool false)], argTypes := #[29, 3, 37, 4] }, type := 29, pos := "law.go:48", after := #[{ on := 0, ground := Ground.data }, { on := 1, ground := Ground.data }, { on := 2, ground := Ground.data }], guard := none }) rfl (fun K hK => ?_) AllReadyH.nil)
      go_simp
      refine (answer_w (HFs4.out.below HBc.out) (HT1.out.below (HB4.out.trans (HBc.out.mono HB4.out.size))) HSm.out (HL1.out.below (HB4.out.trans (HBc.out.mono HB4.out.size))) ty m dn false).mono ?_
      rintro e wa ⟨pa, na, ca, rfl, hA, b1⟩
      have HBa := Lib.hid (HBc.out.trans (b1.mono HBc.out.size))
      have HA := Lib.hid hA
      clear b1 hA HBc
      refine hK.out _ _ (⟨⟨HK4.out.below HBa.out, HM1.out.below (HB4.out.trans (HBa.out.mono HB4.out.size))⟩, HD1.out.below (HB4.out.trans (HBa.out.mono HB4.out.size))⟩) (fun hHeld => ?_)
      clear hK K
      try simp only [Act.put, List.setIfInBounds_toArray, List.set_cons_zero, List.set_cons_succ]
      refine wpAnyH_ready (rs := [7]) (by kernel_rfl) (by simp) (AllReadyH.cons (o := { dst := some 50, op := Op.call { callee := Callee.value (Operand.func 12), args := #[Operand.tmp 47, Operand.tmp 48, Operand.tmp 49, Operand.const (Value.bool false)], argTypes := #[29, 3, 37, 4] }, type := 29, pos := "law.go:48", after := #[{ on := 4, ground := Ground.data }, { on := 5, ground := Ground.data }, { on := 6, ground := Ground.data }, { on := 3, ground := Ground.chain }], guard := none }) rfl (fun K hK => ?_) AllReadyH.nil)
      go_simp
      refine (HX.out.2.1 _ _ F pl cl L (HF1.out.below (HB4.out.trans (HBa.out.mono HB4.out.size))) HS.out HN.out.1 (HL1.out.below (HB4.out.trans (HBa.out.mono HB4.out.size))) HN.out.2.2 HN.out.2.1 ty m dn false).mono ?_
      rintro e wb ⟨pb, nb, cb, rfl, hA2, b1⟩
      have HBb := Lib.hid (HBa.out.trans (b1.mono HBa.out.size))
      have HA2 := Lib.hid hA2
      have HA3 := Lib.hid (HA.out.below b1)
      clear b1 hA2 HBa HA
      refine hK.out _ _ (⟨⟨HK4.out.below HBb.out, HM1.out.below (HB4.out.trans (HBb.out.mono HB4.out.size))⟩, HD1.out.below (HB4.out.trans (HBb.out.mono HB4.out.size))⟩) (fun hHeld => ?_)
      clear hK K
      try simp only [Act.put, List.setIfInBounds_toArray, List.set_cons_zero, List.set_cons_succ]
      refine wpAnyH_ready (rs := [8]) (by kernel_rfl) (by simp) (AllReadyH.cons (o := { dst := some 51, op := Op.call { callee := Callee.value (Operand.func 8), args := #[Operand.tmp 46, Operand.tmp 50], argTypes := #[29, 29] }, type := 4, pos := "law.go:48", after := #[{ on := 3, ground := Ground.data }, { on := 7, ground := Ground.data }, { on := 7, ground := Ground.chain }], guard := none }) rfl (fun K hK => ?_) AllReadyH.nil)
      go_simp
      refine (same_w HX.out.2.2 HA3.out HA2.out rfl (answer_len4 _ _ _ _ _) 510).mono ?_
      rintro e wc ⟨rfl, b1⟩
      have HBd := Lib.hid (HBb.out.trans (b1.mono HBb.out.size))
      clear b1 HBb HA2 HA3
      refine hK.out _ _ (⟨⟨HK4.out.below HBd.out, HM1.out.below (HB4.out.trans (HBd.out.mono HB4.out.size))⟩, HD1.out.below (HB4.out.trans (HBd.out.mono HB4.out.size))⟩) (fun hHeld => ?_)
      clear hK K
      try simp only [Act.put, List.setIfInBounds_toArray, List.set_cons_zero, List.set_cons_succ]
      refine wpAnyH_take (i := 9) (oi := { dst := some 14, op := Op.assign (Operand.tmp 51), type := 4, pos := "law.go:48", after := #[{ on := 8, ground := Ground.data }, { on := 8, ground := Ground.chain }, { on := 0, ground := Ground.phase }, { on := 1, ground := Ground.phase }, { on := 2, ground := Ground.phase }, { on := 3, ground := Ground.phase }, { on := 4, ground := Ground.phase }, { on := 5, ground := Ground.phase }, { on := 6, ground := Ground.phase }, { on := 7, ground := Ground.phase }, { on := 8, ground := Ground.phase }], guard := none }) (v := ?_) rfl (by kernel_rfl) (by kernel_rfl) (by kernel_rfl) (fun _ _ _ h => h) (Or.inl ⟨by rfl, ?hytwox449⟩) (by assumption) ?resttwox449
      case hytwox449 => (intro w hSw; (try dsimp only at hSw); go_simp; try with_reducible rfl)
      try simp only [Act.put, List.setIfInBounds_toArray, List.set_cons_zero, List.set_cons_succ]
      refine wpAnyH_done (by kernel_rfl) ?_ _
      clear hHeld
      have HBn := Lib.hid (HB4.out.trans (HBd.out.mono HB4.out.size))
      have HKn := Lib.hid (HK4.out.below HBd.out)
      have HFn := Lib.hid (HFs4.out.below HBd.out)
      have HTn := Lib.hid (HTb.out.below HBd.out)
      have HUn := Lib.hid (HTc.out.below HBd.out)
      clear HB4 HK4 HFs4 HTb HTc HBd
      have HB4 := HBn
      have HK4 := HKn
      have HFs4 := HFn
      have HTb := HTn
      have HTc := HUn
      clear HBn HKn HFn HTn HUn
      obtain ⟨m0, m1⟩ := HK4.out
      obtain ⟨d0, d1⟩ := HM1.out.below HB4.out
      go_wp2_with fail
      refine (same_w HX.out.2.2 HFs4.out (HF1.out.below HB4.out) rfl HN.out.1 ty).mono ?_
      rintro e wd ⟨rfl, b1⟩
      have HBe := Lib.hid (HB1.out.trans ((HB4.out.trans (b1.mono HB4.out.size)).mono HB1.out.size))
      clear m0 m1 d0 d1
      obtain ⟨x0, x1, x2, x3, x4, x5⟩ := HTb.out.below b1
      obtain ⟨y0, y1, y2, y3, y4, y5⟩ := HTc.out.below b1
      simp only [Nat.zero_add] at x0 x1 x2 x3 x4 x5 y0 y1 y2 y3 y4 y5
      clear b1 HB4 HK4 HFs4 HTb HTc
      go_wp2_with fail
      go_ret
      exact ⟨rfl, HBe.out⟩
  · refine step_al rfl rfl (fun Kb wn hb hK1 hK2 => ?_)
    try (have HF2 := Lib.hid (HFo.out.below hb); clear HFo; have HFo := HF2; clear HF2)
    have HKl := Lib.hid (Nat.le_trans HBc.out.size hK1)
    have HKr := Lib.hid (And.intro (show Kb < wn.heap.size from (Array.getElem?_eq_some_iff.1 hK2).1) hK2)
    have HBn := Lib.hid (HBc.out.trans (hb.mono HBc.out.size))
    clear hb hK1 hK2 HBc
    have HBc := HBn
    clear HBn
    refine hK.out _ _ ((HM1.out.below HBc.out)) (fun hHeld => ?_)
    clear hK K
    try simp only [Act.put, List.setIfInBounds_toArray, List.set_cons_zero, List.set_cons_succ]
    refine wpAnyH_ready (rs := [2]) (by kernel_rfl) (by simp) (AllReadyH.cons (o := { dst := some 19, op := Op.buildSlice 27 0 #[], type := 27, pos := "law.go:44", after := #[], guard := none }) rfl (fun K hK => ?_) AllReadyH.nil)
    refine step_bs rfl rfl (fun E wn hb => ?_)
    have HBn := Lib.hid (HBc.out.trans (hb.mono HBc.out.size))
    try (have HK2 := Lib.hid (show _ from And.intro (Nat.lt_of_lt_of_le HKr.out.1 hb.size) ((hb.block _ HKr.out.1).trans HKr.out.2)); clear HKr; have HKr := HK2; clear HK2)
    clear hb HBc
    have HBc := HBn
    clear HBn
    refine hK.out _ _ ((HM1.out.below HBc.out)) (fun hHeld => ?_)
    clear hK K
    try simp only [Act.put, List.setIfInBounds_toArray, List.set_cons_zero, List.set_cons_succ]
    refine wpAnyH_ready (rs := [5]) (by kernel_rfl) (by simp) (AllReadyH.cons (o := { dst := some 22, op := Op.call { callee := Callee.builtin Builtin.append, args := #[Operand.tmp 19, Operand.tmp 21], argTypes := #[27, 27] }, type := 27, pos := "law.go:44", after := #[{ on := 2, ground := Ground.data }, { on := 4, ground := Ground.data }], guard := none }) rfl (fun K hK => ?_) AllReadyH.nil)
    refine step_own rfl (.tmp 19) (.tmp 21) rfl rfl rfl (HF1.out.below HBc.out) (by have := HN.out.1; omega) (fun p5 c5 wn hf hb => ?_)
    have HFo := Lib.hid (fbuf_lower hf HBc.out.size)
    have HBn := Lib.hid (HBc.out.trans (hb.mono HBc.out.size))
    try (have HK2 := Lib.hid (show _ from And.intro (Nat.lt_of_lt_of_le HKr.out.1 hb.size) ((hb.block _ HKr.out.1).trans HKr.out.2)); clear HKr; have HKr := HK2; clear HK2)
    clear hb hf HBc
    have HBc := HBn
    clear HBn
    refine hK.out _ _ ((HM1.out.below HBc.out)) (fun hHeld => ?_)
    clear hK K
    try simp only [Act.put, List.setIfInBounds_toArray, List.set_cons_zero, List.set_cons_succ]
    refine wpAnyH_take (i := 6) (oi := { dst := some 23, op := Op.build 29 #[(0, Operand.tmp 18), (1, Operand.tmp 22)], type := 29, pos := "law.go:44", after := #[{ on := 1, ground := Ground.data }, { on := 5, ground := Ground.data }], guard := none }) (v := ?_) rfl (by kernel_rfl) (by kernel_rfl) (by kernel_rfl) (fun _ _ _ h => h) (Or.inl ⟨by rfl, ?hyownx0222⟩) (by assumption) ?restownx0222
    case hyownx0222 => (intro w hSw; (try dsimp only at hSw); go_simp; try with_reducible rfl)
    try simp only [Act.put, List.setIfInBounds_toArray, List.set_cons_zero, List.set_cons_succ]
    refine wpAnyH_ready (rs := [8]) (by kernel_rfl) (by simp) (AllReadyH.cons (o := { dst := none, op := Op.store 29 (Operand.tmp 8) (Operand.tmp 23), type := 0, pos := "law.go:44", after := #[{ on := 7, ground := Ground.data }, { on := 6, ground := Ground.data }, { on := 5, ground := Ground.chain }, { on := 0, ground := Ground.phase }, { on := 1, ground := Ground.phase }, { on := 2, ground := Ground.phase }, { on := 3, ground := Ground.phase }, { on := 4, ground := Ground.phase }, { on := 5, ground := Ground.phase }, { on := 6, ground := Ground.phase }, { on := 7, ground := Ground.phase }], guard := none }) rfl (fun K hK => ?_) AllReadyH.nil)
    have hst := store_all (ty := 29) HKr.out.2 info32s rfl #[.int .i64 ty, .slice p5 F.length c5] rfl rfl
    refine step_nov rfl (exec_store 29 (.tmp 8) (.tmp 23) rfl ⟨Kb, 0, none⟩ rfl _ rfl hst) ?_
    clear hst
    have HFn := Lib.hid (fbuf_setRow HFo.out HKr.out.2 #[.int .i64 ty, .slice p5 F.length c5])
    have HBn := Lib.hid (below_setRow HBc.out HKl.out #[.int .i64 ty, .slice p5 F.length c5])
    have hKn := setRow_block HKr.out.2 (cs' := #[.int .i64 ty, .slice p5 F.length c5])
    have HMo := Lib.hid (show MsgIn _ Kb ty (.slice p5 F.length c5) from ⟨(cells_at hKn 0).trans rfl, (cells_at hKn 1).trans rfl⟩)
    clear HFo HBc HKr hKn
    have HBc := HBn
    clear HBn
    refine hK.out _ _ ((HM1.out.below HBc.out)) (fun hHeld => ?_)
    clear hK K
    refine wpAnyH_done (by kernel_rfl) ?_ _
    clear hHeld m0 m1
    obtain ⟨w2, e2⟩ : ∃ W, World.setRow wn Kb #[.int .i64 ty, .slice p5 F.length c5] = W := ⟨_, rfl⟩
    have HMo2 := Lib.hid HMo.out
    rw [e2] at HFn HBc HMo ⊢
    clear e2 HMo2 HKl
    have HFs := Lib.hid (HFn.out.fs (by have := HN.out.1; simp only [maxLen]; omega))
    obtain ⟨m0, m1⟩ := HMo.out
    go_wp2_with fail
    refine (read_w HFs.out (HT1.out.below HBc.out) HSm.out ty HRd.out).mono ?_
    rintro e w3 ⟨rfl, b1⟩
    have b2 := b1.trans ((alloc_below w3 (.cells #[.int .i64 0, .int .i64 a0, .int .i64 a1, .int .i64 a2, .int .i64 a3, .int .i64 a4] 23)).mono b1.size)
    have HT3 := Lib.hid (HT1.out.below (HBc.out.trans (b2.mono HBc.out.size)))
    have HM3 := Lib.hid (HM1.out.below (HBc.out.trans (b2.mono HBc.out.size)))
    have HK3 := Lib.hid (HMo.out.below b2)
    have HF3 := Lib.hid (HF1.out.below (HBc.out.trans (b2.mono HBc.out.size)))
    have HFs3 := Lib.hid (HFs.out.below b2)
    have HB3 := Lib.hid (HBc.out.trans (b2.mono HBc.out.size))
    have ht3 := heap_alloc_last w3 (.cells #[.int .i64 0, .int .i64 a0, .int .i64 a1, .int .i64 a2, .int .i64 a3, .int .i64 a4] 23)
    have HTa := Lib.hid (show TotIn (w3.alloc (.cells #[.int .i64 0, .int .i64 a0, .int .i64 a1, .int .i64 a2, .int .i64 a3, .int .i64 a4] 23)) w3.heap.size 0 (0, a0, a1, a2, a3, a4) from ⟨(cells_at ht3 0).trans rfl, (cells_at ht3 1).trans rfl, (cells_at ht3 2).trans rfl, (cells_at ht3 3).trans rfl, (cells_at ht3 4).trans rfl, (cells_at ht3 5).trans rfl⟩)
    clear m0 m1 b1 b2 ht3 HFs HBc HMo HFn
    obtain ⟨m0, m1⟩ := HM3.out
    go_wp2_with fail
    refine (refread_w HX.out.1 HF3.out HS.out HN.out.1 ty HRd.out).mono ?_
    rintro e w4 ⟨rfl, b1⟩
    have b2 := b1.trans ((alloc_below w4 (.cells #[.int .i64 0, .int .i64 a0, .int .i64 a1, .int .i64 a2, .int .i64 a3, .int .i64 a4] 23)).mono b1.size)
    have HTb := Lib.hid (HTa.out.below b2)
    have ht3 := heap_alloc_last w4 (.cells #[.int .i64 0, .int .i64 a0, .int .i64 a1, .int .i64 a2, .int .i64 a3, .int .i64 a4] 23)
    have HTc := Lib.hid (show TotIn (w4.alloc (.cells #[.int .i64 0, .int .i64 a0, .int .i64 a1, .int .i64 a2, .int .i64 a3, .int .i64 a4] 23)) w4.heap.size 0 (0, a0, a1, a2, a3, a4) from ⟨(cells_at ht3 0).trans rfl, (cells_at ht3 1).trans rfl, (cells_at ht3 2).trans rfl, (cells_at ht3 3).trans rfl, (cells_at ht3 4).trans rfl, (cells_at ht3 5).trans rfl⟩)
    have HB4 := Lib.hid (HB3.out.trans (b2.mono HB3.out.size))
    have HK4 := Lib.hid (HK3.out.below b2)
    have HFs4 := Lib.hid (HFs3.out.below b2)
    clear m0 m1 b1 b2 ht3 HT3 HM3 HK3 HF3 HFs3 HB3 HTa
    obtain ⟨w5, e5⟩ : ∃ W, w4.alloc (.cells #[.int .i64 0, .int .i64 a0, .int .i64 a1, .int .i64 a2, .int .i64 a3, .int .i64 a4] 23) = W := ⟨_, rfl⟩
    rw [e5] at HTb HTc HB4 HK4 HFs4
    have E5 := Lib.hid e5
    obtain ⟨X3, eX3⟩ : ∃ X, w3.heap.size = X := ⟨_, rfl⟩
    obtain ⟨X4, eX4⟩ : ∃ X, w4.heap.size = X := ⟨_, rfl⟩
    rw [eX3] at HTb
    rw [eX4] at HTc
    clear e5
    go_wp2_with fail
    rw [E5.out]
    have HBc := Lib.hid (show Below w5.heap.size w5 w5.drew from ⟨rfl, rfl, rfl, Nat.le_refl _, fun _ _ => rfl⟩)
    refine wp_region_held_drew (S := (fun W => (MsgIn W Kb ty (.slice p5 F.length c5) ∧ MsgIn W B ty (.slice p F.length c)) ∧ MsgIn W (B + 1) dn (.slice pl L.length cl))) (by kernel_rfl) (⟨⟨HK4.out.below HBc.out, HM1.out.below (HB4.out.trans (HBc.out.mono HB4.out.size))⟩, HD1.out.below (HB4.out.trans (HBc.out.mono HB4.out.size))⟩) (fun hHeld => ?_)
    refine wpAnyH_take (i := 0) (oi := { dst := some 34, op := Op.load 29 (Operand.tmp 8), type := 29, pos := "law.go:47", after := #[], guard := none }) (v := ?_) rfl (by kernel_rfl) (by kernel_rfl) (by kernel_rfl) (fun _ _ _ h => h) (Or.inl ⟨by rfl, ?hyonex51⟩) (by assumption) ?restonex51
    case hyonex51 => (intro W hSw; obtain ⟨⟨⟨s0, s1⟩, ⟨s2, s3⟩⟩, ⟨s4, s5⟩⟩ := hSw; go_simp; try with_reducible rfl)
    try simp only [Act.put, List.setIfInBounds_toArray, List.set_cons_zero, List.set_cons_succ]
    refine wpAnyH_take (i := 1) (oi := { dst := some 35, op := Op.move (Operand.tmp 1), type := 3, pos := "law.go:47", after := #[], guard := none }) (v := ?_) rfl (by kernel_rfl) (by kernel_rfl) (by kernel_rfl) (fun _ _ _ h => h) (Or.inl ⟨by rfl, ?hyonex54⟩) (by assumption) ?restonex54
    case hyonex54 => (intro w hSw; (try dsimp only at hSw); go_simp; try with_reducible rfl)
    try simp only [Act.put, List.setIfInBounds_toArray, List.set_cons_zero, List.set_cons_succ]
    refine wpAnyH_take (i := 2) (oi := { dst := some 36, op := Op.load 37 (Operand.tmp 5), type := 37, pos := "law.go:47", after := #[], guard := none }) (v := ?_) rfl (by kernel_rfl) (by kernel_rfl) (by kernel_rfl) (fun _ _ _ h => h) (Or.inl ⟨by rfl, ?hyonex57⟩) (by assumption) ?restonex57
    case hyonex57 => (intro W hSw; obtain ⟨⟨⟨s0, s1⟩, ⟨s2, s3⟩⟩, ⟨s4, s5⟩⟩ := hSw; go_simp; try with_reducible rfl)
    try simp only [Act.put, List.setIfInBounds_toArray, List.set_cons_zero, List.set_cons_succ]
    refine wpAnyH_take (i := 4) (oi := { dst := some 38, op := Op.load 29 (Operand.tmp 3), type := 29, pos := "law.go:47", after := #[], guard := none }) (v := ?_) rfl (by kernel_rfl) (by kernel_rfl) (by kernel_rfl) (fun _ _ _ h => h) (Or.inl ⟨by rfl, ?hyonex510⟩) (by assumption) ?restonex510
    case hyonex510 => (intro W hSw; obtain ⟨⟨⟨s0, s1⟩, ⟨s2, s3⟩⟩, ⟨s4, s5⟩⟩ := hSw; go_simp; try with_reducible rfl)
    try simp only [Act.put, List.setIfInBounds_toArray, List.set_cons_zero, List.set_cons_succ]
    refine wpAnyH_take (i := 5) (oi := { dst := some 39, op := Op.move (Operand.tmp 1), type := 3, pos := "law.go:47", after := #[], guard := none }) (v := ?_) rfl (by kernel_rfl) (by kernel_rfl) (by kernel_rfl) (fun _ _ _ h => h) (Or.inl ⟨by rfl, ?hyonex513⟩) (by assumption) ?restonex513
    case hyonex513 => (intro w hSw; (try dsimp only at hSw); go_simp; try with_reducible rfl)
    try simp only [Act.put, List.setIfInBounds_toArray, List.set_cons_zero, List.set_cons_succ]
    refine wpAnyH_take (i := 6) (oi := { dst := some 40, op := Op.load 37 (Operand.tmp 5), type := 37, pos := "law.go:47", after := #[], guard := none }) (v := ?_) rfl (by kernel_rfl) (by kernel_rfl) (by kernel_rfl) (fun _ _ _ h => h) (Or.inl ⟨by rfl, ?hyonex516⟩) (by assumption) ?restonex516
    case hyonex516 => (intro W hSw; obtain ⟨⟨⟨s0, s1⟩, ⟨s2, s3⟩⟩, ⟨s4, s5⟩⟩ := hSw; go_simp; try with_reducible rfl)
    try simp only [Act.put, List.setIfInBounds_toArray, List.set_cons_zero, List.set_cons_succ]
    refine wpAnyH_ready (rs := [3]) (by kernel_rfl) (by simp) (AllReadyH.cons (o := { dst := some 37, op := Op.call { callee := Callee.value (Operand.func 11), args := #[Operand.tmp 34, Operand.tmp 35, Operand.tmp 36, Operand.const (Value.bool true)], argTypes := #[29, 3, 37, 4] }, type := 29, pos := "law.go:47", after := #[{ on := 0, ground := Ground.data }, { on := 1, ground := Ground.data }, { on := 2, ground := Ground.data }], guard := none }) rfl (fun K hK => ?_) AllReadyH.nil)
    go_simp
    refine (answer_w (HFs4.out.below HBc.out) (HT1.out.below (HB4.out.trans (HBc.out.mono HB4.out.size))) HSm.out (HL1.out.below (HB4.out.trans (HBc.out.mono HB4.out.size))) ty m dn true).mono ?_
    rintro e wa ⟨pa, na, ca, rfl, hA, b1⟩
    have HBa := Lib.hid (HBc.out.trans (b1.mono HBc.out.size))
    have HA := Lib.hid hA
    clear b1 hA HBc
    refine hK.out _ _ (⟨⟨HK4.out.below HBa.out, HM1.out.below (HB4.out.trans (HBa.out.mono HB4.out.size))⟩, HD1.out.below (HB4.out.trans (HBa.out.mono HB4.out.size))⟩) (fun hHeld => ?_)
    clear hK K
    try simp only [Act.put, List.setIfInBounds_toArray, List.set_cons_zero, List.set_cons_succ]
    refine wpAnyH_ready (rs := [7]) (by kernel_rfl) (by simp) (AllReadyH.cons (o := { dst := some 41, op := Op.call { callee := Callee.value (Operand.func 12), args := #[Operand.tmp 38, Operand.tmp 39, Operand.tmp 40, Operand.const (Value.bool true)], argTypes := #[29, 3, 37, 4] }, type := 29, pos := "law.go:47", after := #[{ on := 4, ground := Ground.data }, { on := 5, ground := Ground.data }, { on := 6, ground := Ground.data }, { on := 3, ground := Ground.chain }], guard := none }) rfl (fun K hK => ?_) AllReadyH.nil)
    go_simp
    refine (HX.out.2.1 _ _ F pl cl L (HF1.out.below (HB4.out.trans (HBa.out.mono HB4.out.size))) HS.out HN.out.1 (HL1.out.below (HB4.out.trans (HBa.out.mono HB4.out.size))) HN.out.2.2 HN.out.2.1 ty m dn true).mono ?_
    rintro e wb ⟨pb, nb, cb, rfl, hA2, b1⟩
    have HBb := Lib.hid (HBa.out.trans (b1.mono HBa.out.size))
    have HA2 := Lib.hid hA2
    have HA3 := Lib.hid (HA.out.below b1)
    clear b1 hA2 HBa HA
    refine hK.out _ _ (⟨⟨HK4.out.below HBb.out, HM1.out.below (HB4.out.trans (HBb.out.mono HB4.out.size))⟩, HD1.out.below (HB4.out.trans (HBb.out.mono HB4.out.size))⟩) (fun hHeld => ?_)
    clear hK K
    try simp only [Act.put, List.setIfInBounds_toArray, List.set_cons_zero, List.set_cons_succ]
    refine wpAnyH_ready (rs := [8]) (by kernel_rfl) (by simp) (AllReadyH.cons (o := { dst := some 42, op := Op.call { callee := Callee.value (Operand.func 8), args := #[Operand.tmp 37, Operand.tmp 41], argTypes := #[29, 29] }, type := 4, pos := "law.go:47", after := #[{ on := 3, ground := Ground.data }, { on := 7, ground := Ground.data }, { on := 7, ground := Ground.chain }], guard := none }) rfl (fun K hK => ?_) AllReadyH.nil)
    go_simp
    refine (same_w HX.out.2.2 HA3.out HA2.out rfl (answer_len4 _ _ _ _ _) 510).mono ?_
    rintro e wc ⟨rfl, b1⟩
    have HBd := Lib.hid (HBb.out.trans (b1.mono HBb.out.size))
    clear b1 HBb HA2 HA3
    refine hK.out _ _ (⟨⟨HK4.out.below HBd.out, HM1.out.below (HB4.out.trans (HBd.out.mono HB4.out.size))⟩, HD1.out.below (HB4.out.trans (HBd.out.mono HB4.out.size))⟩) (fun hHeld => ?_)
    clear hK K
    try simp only [Act.put, List.setIfInBounds_toArray, List.set_cons_zero, List.set_cons_succ]
    refine wpAnyH_take (i := 9) (oi := { dst := some 13, op := Op.assign (Operand.tmp 42), type := 4, pos := "law.go:47", after := #[{ on := 8, ground := Ground.data }, { on := 8, ground := Ground.chain }, { on := 0, ground := Ground.phase }, { on := 1, ground := Ground.phase }, { on := 2, ground := Ground.phase }, { on := 3, ground := Ground.phase }, { on := 4, ground := Ground.phase }, { on := 5, ground := Ground.phase }, { on := 6, ground := Ground.phase }, { on := 7, ground := Ground.phase }, { on := 8, ground := Ground.phase }], guard := none }) (v := ?_) rfl (by kernel_rfl) (by kernel_rfl) (by kernel_rfl) (fun _ _ _ h => h) (Or.inl ⟨by rfl, ?hyonex549⟩) (by assumption) ?restonex549
    case hyonex549 => (intro w hSw; (try dsimp only at hSw); go_simp; try with_reducible rfl)
    try simp only [Act.put, List.setIfInBounds_toArray, List.set_cons_zero, List.set_cons_succ]
    refine wpAnyH_done (by kernel_rfl) ?_ _
    clear hHeld
    have HBn := Lib.hid (HB4.out.trans (HBd.out.mono HB4.out.size))
    have HKn := Lib.hid (HK4.out.below HBd.out)
    have HFn := Lib.hid (HFs4.out.below HBd.out)
    have HTn := Lib.hid (HTb.out.below HBd.out)
    have HUn := Lib.hid (HTc.out.below HBd.out)
    clear HB4 HK4 HFs4 HTb HTc HBd
    have HB4 := HBn
    have HK4 := HKn
    have HFs4 := HFn
    have HTb := HTn
    have HTc := HUn
    clear HBn HKn HFn HTn HUn
    go_wp2_with fail
    have HBc := Lib.hid (show Below wc.heap.size wc wc.drew from ⟨rfl, rfl, rfl, Nat.le_refl _, fun _ _ => rfl⟩)
    refine wp_region_held_drew (S := (fun W => (MsgIn W Kb ty (.slice p5 F.length c5) ∧ MsgIn W B ty (.slice p F.length c)) ∧ MsgIn W (B + 1) dn (.slice pl L.length cl))) (by kernel_rfl) (⟨⟨HK4.out.below HBc.out, HM1.out.below (HB4.out.trans (HBc.out.mono HB4.out.size))⟩, HD1.out.below (HB4.out.trans (HBc.out.mono HB4.out.size))⟩) (fun hHeld => ?_)
    refine wpAnyH_take (i := 0) (oi := { dst := some 43, op := Op.load 29 (Operand.tmp 8), type := 29, pos := "law.go:48", after := #[], guard := none }) (v := ?_) rfl (by kernel_rfl) (by kernel_rfl) (by kernel_rfl) (fun _ _ _ h => h) (Or.inl ⟨by rfl, ?hytwox61⟩) (by assumption) ?resttwox61
    case hytwox61 => (intro W hSw; obtain ⟨⟨⟨s0, s1⟩, ⟨s2, s3⟩⟩, ⟨s4, s5⟩⟩ := hSw; go_simp; try with_reducible rfl)
    try simp only [Act.put, List.setIfInBounds_toArray, List.set_cons_zero, List.set_cons_succ]
    refine wpAnyH_take (i := 1) (oi := { dst := some 44, op := Op.move (Operand.tmp 1), type := 3, pos := "law.go:48", after := #[], guard := none }) (v := ?_) rfl (by kernel_rfl) (by kernel_rfl) (by kernel_rfl) (fun _ _ _ h => h) (Or.inl ⟨by rfl, ?hytwox64⟩) (by assumption) ?resttwox64
    case hytwox64 => (intro w hSw; (try dsimp only at hSw); go_simp; try with_reducible rfl)
    try simp only [Act.put, List.setIfInBounds_toArray, List.set_cons_zero, List.set_cons_succ]
    refine wpAnyH_take (i := 2) (oi := { dst := some 45, op := Op.load 37 (Operand.tmp 5), type := 37, pos := "law.go:48", after := #[], guard := none }) (v := ?_) rfl (by kernel_rfl) (by kernel_rfl) (by kernel_rfl) (fun _ _ _ h => h) (Or.inl ⟨by rfl, ?hytwox67⟩) (by assumption) ?resttwox67
    case hytwox67 => (intro W hSw; obtain ⟨⟨⟨s0, s1⟩, ⟨s2, s3⟩⟩, ⟨s4, s5⟩⟩ := hSw; go_simp; try with_reducible rfl)
    try simp only [Act.put, List.setIfInBounds_toArray, List.set_cons_zero, List.set_cons_succ]
    refine wpAnyH_take (i := 4) (oi := { dst := some 47, op := Op.load 29 (Operand.tmp 3), type := 29, pos := "law.go:48", after := #[], guard := none }) (v := ?_) rfl (by kernel_rfl) (by kernel_rfl) (by kernel_rfl) (fun _ _ _ h => h) (Or.inl ⟨by rfl, ?hytwox610⟩) (by assumption) ?resttwox610
    case hytwox610 => (intro W hSw; obtain ⟨⟨⟨s0, s1⟩, ⟨s2, s3⟩⟩, ⟨s4, s5⟩⟩ := hSw; go_simp; try with_reducible rfl)
    try simp only [Act.put, List.setIfInBounds_toArray, List.set_cons_zero, List.set_cons_succ]
    refine wpAnyH_take (i := 5) (oi := { dst := some 48, op := Op.move (Operand.tmp 1), type := 3, pos := "law.go:48", after := #[], guard := none }) (v := ?_) rfl (by kernel_rfl) (by kernel_rfl) (by kernel_rfl) (fun _ _ _ h => h) (Or.inl ⟨by rfl, ?hytwox613⟩) (by assumption) ?resttwox613
    case hytwox613 => (intro w hSw; (try dsimp only at hSw); go_simp; try with_reducible rfl)
    try simp only [Act.put, List.setIfInBounds_toArray, List.set_cons_zero, List.set_cons_succ]
    refine wpAnyH_take (i := 6) (oi := { dst := some 49, op := Op.load 37 (Operand.tmp 5), type := 37, pos := "law.go:48", after := #[], guard := none }) (v := ?_) rfl (by kernel_rfl) (by kernel_rfl) (by kernel_rfl) (fun _ _ _ h => h) (Or.inl ⟨by rfl, ?hytwox616⟩) (by assumption) ?resttwox616
    case hytwox616 => (intro W hSw; obtain ⟨⟨⟨s0, s1⟩, ⟨s2, s3⟩⟩, ⟨s4, s5⟩⟩ := hSw; go_simp; try with_reducible rfl)
    try simp only [Act.put, List.setIfInBounds_toArray, List.set_cons_zero, List.set_cons_succ]
    refine wpAnyH_ready (rs := [3]) (by kernel_rfl) (by simp) (AllReadyH.cons (o := { dst := some 46, op := Op.call { callee := Callee.value (Operand.func 11), args := #[Operand.tmp 43, Operand.tmp 44, Operand.tmp 45, Operand.const (Value.bool false)], argTypes := #[29, 3, 37, 4] }, type := 29, pos := "law.go:48", after := #[{ on := 0, ground := Ground.data }, { on := 1, ground := Ground.data }, { on := 2, ground := Ground.data }], guard := none }) rfl (fun K hK => ?_) AllReadyH.nil)
    go_simp
    refine (answer_w (HFs4.out.below HBc.out) (HT1.out.below (HB4.out.trans (HBc.out.mono HB4.out.size))) HSm.out (HL1.out.below (HB4.out.trans (HBc.out.mono HB4.out.size))) ty m dn false).mono ?_
    rintro e wa ⟨pa, na, ca, rfl, hA, b1⟩
    have HBa := Lib.hid (HBc.out.trans (b1.mono HBc.out.size))
    have HA := Lib.hid hA
    clear b1 hA HBc
    refine hK.out _ _ (⟨⟨HK4.out.below HBa.out, HM1.out.below (HB4.out.trans (HBa.out.mono HB4.out.size))⟩, HD1.out.below (HB4.out.trans (HBa.out.mono HB4.out.size))⟩) (fun hHeld => ?_)
    clear hK K
    try simp only [Act.put, List.setIfInBounds_toArray, List.set_cons_zero, List.set_cons_succ]
    refine wpAnyH_ready (rs := [7]) (by kernel_rfl) (by simp) (AllReadyH.cons (o := { dst := some 50, op := Op.call { callee := Callee.value (Operand.func 12), args := #[Operand.tmp 47, Operand.tmp 48, Operand.tmp 49, Operand.const (Value.bool false)], argTypes := #[29, 3, 37, 4] }, type := 29, pos := "law.go:48", after := #[{ on := 4, ground := Ground.data }, { on := 5, ground := Ground.data }, { on := 6, ground := Ground.data }, { on := 3, ground := Ground.chain }], guard := none }) rfl (fun K hK => ?_) AllReadyH.nil)
    go_simp
    refine (HX.out.2.1 _ _ F pl cl L (HF1.out.below (HB4.out.trans (HBa.out.mono HB4.out.size))) HS.out HN.out.1 (HL1.out.below (HB4.out.trans (HBa.out.mono HB4.out.size))) HN.out.2.2 HN.out.2.1 ty m dn false).mono ?_
    rintro e wb ⟨pb, nb, cb, rfl, hA2, b1⟩
    have HBb := Lib.hid (HBa.out.trans (b1.mono HBa.out.size))
    have HA2 := Lib.hid hA2
    have HA3 := Lib.hid (HA.out.below b1)
    clear b1 hA2 HBa HA
    refine hK.out _ _ (⟨⟨HK4.out.below HBb.out, HM1.out.below (HB4.out.trans (HBb.out.mono HB4.out.size))⟩, HD1.out.below (HB4.out.trans (HBb.out.mono HB4.out.size))⟩) (fun hHeld => ?_)
    clear hK K
    try simp only [Act.put, List.setIfInBounds_toArray, List.set_cons_zero, List.set_cons_succ]
    refine wpAnyH_ready (rs := [8]) (by kernel_rfl) (by simp) (AllReadyH.cons (o := { dst := some 51, op := Op.call { callee := Callee.value (Operand.func 8), args := #[Operand.tmp 46, Operand.tmp 50], argTypes := #[29, 29] }, type := 4, pos := "law.go:48", after := #[{ on := 3, ground := Ground.data }, { on := 7, ground := Ground.data }, { on := 7, ground := Ground.chain }], guard := none }) rfl (fun K hK => ?_) AllReadyH.nil)
    go_simp
    refine (same_w HX.out.2.2 HA3.out HA2.out rfl (answer_len4 _ _ _ _ _) 510).mono ?_
    rintro e wc ⟨rfl, b1⟩
    have HBd := Lib.hid (HBb.out.trans (b1.mono HBb.out.size))
    clear b1 HBb HA2 HA3
    refine hK.out _ _ (⟨⟨HK4.out.below HBd.out, HM1.out.below (HB4.out.trans (HBd.out.mono HB4.out.size))⟩, HD1.out.below (HB4.out.trans (HBd.out.mono HB4.out.size))⟩) (fun hHeld => ?_)
    clear hK K
    try simp only [Act.put, List.setIfInBounds_toArray, List.set_cons_zero, List.set_cons_succ]
    refine wpAnyH_take (i := 9) (oi := { dst := some 14, op := Op.assign (Operand.tmp 51), type := 4, pos := "law.go:48", after := #[{ on := 8, ground := Ground.data }, { on := 8, ground := Ground.chain }, { on := 0, ground := Ground.phase }, { on := 1, ground := Ground.phase }, { on := 2, ground := Ground.phase }, { on := 3, ground := Ground.phase }, { on := 4, ground := Ground.phase }, { on := 5, ground := Ground.phase }, { on := 6, ground := Ground.phase }, { on := 7, ground := Ground.phase }, { on := 8, ground := Ground.phase }], guard := none }) (v := ?_) rfl (by kernel_rfl) (by kernel_rfl) (by kernel_rfl) (fun _ _ _ h => h) (Or.inl ⟨by rfl, ?hytwox649⟩) (by assumption) ?resttwox649
    case hytwox649 => (intro w hSw; (try dsimp only at hSw); go_simp; try with_reducible rfl)
    try simp only [Act.put, List.setIfInBounds_toArray, List.set_cons_zero, List.set_cons_succ]
    refine wpAnyH_done (by kernel_rfl) ?_ _
    clear hHeld
    have HBn := Lib.hid (HB4.out.trans (HBd.out.mono HB4.out.size))
    have HKn := Lib.hid (HK4.out.below HBd.out)
    have HFn := Lib.hid (HFs4.out.below HBd.out)
    have HTn := Lib.hid (HTb.out.below HBd.out)
    have HUn := Lib.hid (HTc.out.below HBd.out)
    clear HB4 HK4 HFs4 HTb HTc HBd
    have HB4 := HBn
    have HK4 := HKn
    have HFs4 := HFn
    have HTb := HTn
    have HTc := HUn
    clear HBn HKn HFn HTn HUn
    obtain ⟨m0, m1⟩ := HK4.out
    obtain ⟨d0, d1⟩ := HM1.out.below HB4.out
    go_wp2_with fail
    refine (same_w HX.out.2.2 HFs4.out (HF1.out.below HB4.out) rfl HN.out.1 ty).mono ?_
    rintro e wd ⟨rfl, b1⟩
    have HBe := Lib.hid (HB1.out.trans ((HB4.out.trans (b1.mono HB4.out.size)).mono HB1.out.size))
    clear m0 m1 d0 d1
    obtain ⟨x0, x1, x2, x3, x4, x5⟩ := HTb.out.below b1
    obtain ⟨y0, y1, y2, y3, y4, y5⟩ := HTc.out.below b1
    simp only [Nat.zero_add] at x0 x1 x2 x3 x4 x5 y0 y1 y2 y3 y4 y5
    clear b1 HB4 HK4 HFs4 HTb HTc
    go_wp2_with fail
    go_ret
    exact ⟨rfl, HBe.out⟩
end Go.Proofs.YtjndfmpicnkplaaGreatDoor.msgw
