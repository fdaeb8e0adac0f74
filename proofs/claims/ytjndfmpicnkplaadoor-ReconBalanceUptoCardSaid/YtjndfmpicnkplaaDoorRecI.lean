/- Layer 20: ReconEcho, walked. Conditions: as each theorem says. -/
import Derived.Test.YtjndfmpicnkplaaDoorRecH
namespace Go.Proofs.YtjndfmpicnkplaaDoor.msgw
open Go.RowKit
open Go.Proofs.YtjndfmpicnkplaaDoor.msgp
open Go.Proofs.YtjndfmpicnkplaaDoor.buf
open Go.Proofs.YtjndfmpicnkplaaDoor.fieldp
open Go.Proofs.YtjndfmpicnkplaaDoor.fieldw
def nosL : List Int := [7, 11, 32]
/-- How many of the first fields there are. -/
def cnt (F : Flds) (k : Nat) : Int := 1 + (if 0 < k then (one F 7 : Int) else 0) + (if 1 < k then (one F 11 : Int) else 0) + (if 2 < k then (one F 32 : Int) else 0)
theorem cnt_next (F : Flds) (k : Nat) (hk : k < 3) (no : Int) (hn : nosL[k]? = some no) : cnt F (k + 1) = cnt F k + one F no := by
  obtain rfl | rfl | rfl : k = 0 ∨ k = 1 ∨ k = 2 := by omega
  · obtain rfl : 7 = no := Option.some.inj hn
    simp [cnt]
  · obtain rfl : 11 = no := Option.some.inj hn
    simp [cnt]
  · obtain rfl : 32 = no := Option.some.inj hn
    simp [cnt]
theorem cnt_ok (F : Flds) (k : Nat) : 0 ≤ cnt F k ∧ cnt F k ≤ 4 := by
  have h (n : Int) : (one F n : Int) = 0 ∨ (one F n : Int) = 1 := by unfold one; split <;> simp
  unfold cnt
  rcases h 7 with e | e <;> rcases h 11 with e1 | e1 <;> rcases h 32 with e2 | e2 <;> rw [e, e1, e2] <;> split <;> split <;> split <;> omega
set_option maxHeartbeats 4000000 in
set_option maxRecDepth 100000 in
theorem echo_any {w : World} {v vl : Value} {F : Flds} {L : List Tot} (h : FsAt w v F) (hT : Tabs w) (hS : SmallF F) (hL : TotsAt w vl L) (ty m dn : Int) :
    Calls Tryd.prog 4 #[.agg #[.int .i64 ty, v], .int .i64 m, .agg #[.int .i64 dn, vl]] w fun e w' => e = .returned (.bool true) ∧ Below w.heap.size w w' := by
  obtain ⟨p, c, rfl⟩ := h.shape
  obtain ⟨pl, cl, rfl⟩ := hL.shape
  obtain ⟨B, eB⟩ : ∃ b, w.heap.size = b := ⟨_, rfl⟩
  have a1 : Below w.heap.size w (w.alloc (.cells #[.int .i64 ty, .slice p F.length c] 32)) := alloc_below _ _
  obtain ⟨w0, e0⟩ : ∃ W, (w.alloc (.cells #[.int .i64 ty, .slice p F.length c] 32)).alloc (.cells #[.int .i64 dn, .slice pl L.length cl] 28) = W := ⟨_, rfl⟩
  have a2 : Below (w.alloc (.cells #[.int .i64 ty, .slice p F.length c] 32)).heap.size (w.alloc (.cells #[.int .i64 ty, .slice p F.length c] 32)) w0 := by rw [← e0]; exact alloc_below _ _
  have b0 : Below w.heap.size w w0 := a1.trans (a2.mono a1.size)
  have k0 : MsgIn w0 B ty (.slice p F.length c) := by rw [← eB]; exact (msgIn_new w ty _).below a2
  have k1 : MsgIn w0 (B + 1) dn (.slice pl L.length cl) := by
    have := heap_alloc_last (w.alloc (.cells #[.int .i64 ty, .slice p F.length c] 32)) (.cells #[.int .i64 dn, .slice pl L.length cl] 28)
    rw [e0, show (w.alloc (.cells #[.int .i64 ty, .slice p F.length c] 32)).heap.size = B + 1 by rw [← eB]; simp] at this
    exact ⟨(cells_at this 0).trans rfl, (cells_at this 1).trans rfl⟩
  have HC := Lib.hid (shown_any (hT.below b0))
  have HF := Lib.hid (h.below b0)
  have HL := Lib.hid (hL.below b0)
  have HT := Lib.hid (hT.below b0)
  have HB0 := Lib.hid b0
  have HS := Lib.hid hS
  have K0 := Lib.hid k0
  have K1 := Lib.hid k1
  have E0 := Lib.hid e0
  clear h hL hT hS b0 a1 a2 k0 k1 e0
  go_enter Tryd.func4, Tryd.ntmps4
  go_wp2_with fail
  rw [E0.out]
  refine HC.out.mono ?_
  rintro e w1 ⟨rfl, b1⟩
  obtain ⟨m0, m1⟩ := K0.out.below b1
  obtain ⟨m2, m3⟩ := K1.out.below b1
  have HA := Lib.hid (answer_any (HF.out.below b1) (HT.out.below b1) HS.out (HL.out.below b1) ty m dn true)
  have HF1 := Lib.hid (HF.out.below b1)
  have K2 := Lib.hid (K0.out.below b1)
  have HB1 := Lib.hid (HB0.out.trans (b1.mono HB0.out.size))
  clear HF HL HT HB0 K0 K1 E0 HC b1
  go_wp2_with fail
  refine HA.out.mono ?_
  rintro e w2 ⟨v', rfl, hB, b1⟩
  have f1 := answer_get ty F m true L
  have f2 := answer_code ty F m true L
  have f3 := answer_len ty F m true L
  have f4 := ans_cases ty F m true L
  obtain ⟨G, eG⟩ : ∃ G, answerM ty F m true L = G := ⟨_, rfl⟩
  obtain ⟨S, eS⟩ : ∃ S, ansOf ty F m true L = S := ⟨_, rfl⟩
  rw [eG] at f1 f2 f3 hB
  rw [eS] at f2 f4
  have hG := hB.fs (by have h1 : one F 7 ≤ 1 := by { unfold one; split <;> omega }
                       have h2 : one F 11 ≤ 1 := by { unfold one; split <;> omega }
                       have h3 : one F 32 ≤ 1 := by { unfold one; split <;> omega }
                       simp only [maxLen]; omega)
  obtain ⟨q, d, rfl⟩ := hG.shape
  have HN := Lib.hid (show (G.length : Int) = cnt F 3 by rw [f3]; simp [cnt])
  have HG1 := Lib.hid (fun (k : Nat) (no : Int) (hk : nosL[k]? = some no) => show getM G no = getM F no from f1 no (by
    have hk3 : k < 3 := (List.getElem?_eq_some_iff.1 hk).1
    obtain rfl | rfl | rfl : k = 0 ∨ k = 1 ∨ k = 2 := by omega
    · exact .inl (Option.some.inj hk).symm
    · exact .inr (.inl (Option.some.inj hk).symm)
    · exact .inr (.inr (Option.some.inj hk).symm)))
  have H39 := Lib.hid f2
  have HS4 := Lib.hid f4
  have c1 : Below w2.heap.size w2 (w2.alloc (.cells #[.int .i64 510, .slice q G.length d] 32)) := alloc_below _ _
  obtain ⟨w3, e3⟩ : ∃ W, (w2.alloc (.cells #[.int .i64 510, .slice q G.length d] 32)).alloc (.cells #[.int .i64 7, .int .i64 11, .int .i64 32] 3) = W := ⟨_, rfl⟩
  have c2 : Below (w2.alloc (.cells #[.int .i64 510, .slice q G.length d] 32)).heap.size (w2.alloc (.cells #[.int .i64 510, .slice q G.length d] 32)) w3 := by rw [← e3]; exact alloc_below _ _
  have c3 : Below w1.heap.size w1 w3 := b1.trans ((c1.trans (c2.mono c1.size)).mono b1.size)
  obtain ⟨X, eX⟩ : ∃ X, w2.heap.size = X := ⟨_, rfl⟩
  have k4 : MsgIn w3 X 510 (.slice q G.length d) := by rw [← eX]; exact (msgIn_new w2 510 _).below c2
  have k5 : ∀ k no, nosL[k]? = some no → w3.cell? ⟨X + 1, k, none⟩ = some (.int .i64 no) := by
    intro k no hk
    have := heap_alloc_last (w2.alloc (.cells #[.int .i64 510, .slice q G.length d] 32)) (.cells #[.int .i64 7, .int .i64 11, .int .i64 32] 3)
    rw [e3, show (w2.alloc (.cells #[.int .i64 510, .slice q G.length d] 32)).heap.size = X + 1 by rw [← eX]; simp] at this
    have hk3 : k < 3 := (List.getElem?_eq_some_iff.1 hk).1
    obtain rfl | rfl | rfl : k = 0 ∨ k = 1 ∨ k = 2 := by omega
    · exact (cells_at this 0).trans (congrArg (fun z => some (Value.int .i64 z)) (Option.some.inj hk))
    · exact (cells_at this 1).trans (congrArg (fun z => some (Value.int .i64 z)) (Option.some.inj hk))
    · exact (cells_at this 2).trans (congrArg (fun z => some (Value.int .i64 z)) (Option.some.inj hk))
  have KX := Lib.hid k4
  have KN := Lib.hid k5
  have KM := Lib.hid (K2.out.below c3)
  have HFw := Lib.hid (HF1.out.below c3)
  have HGw := Lib.hid (hG.below (c1.trans (c2.mono c1.size)))
  have HBw := Lib.hid (HB1.out.trans (c3.mono HB1.out.size))
  have E3 := Lib.hid e3
  clear eG eS f1 f2 f3 f4 hB hG c1 c2 c3 k4 k5 e3 b1 HA HF1 K2 HB1 m0 m1 m2 m3 HS
  go_wp2_with fail
  rw [E3.out]
  go_loopw [11, 9] (fun i n wr => ∃ k : Nat, k ≤ 3 ∧ i = .int .i64 k ∧ n = .int .i64 (cnt F k) ∧ Below w3.heap.size w3 wr) (fun i _ _ => 3 - (intOf i).toNat)
  case atStart => exact ⟨0, by omega, rfl, by simp [cnt], Below.refl _ _⟩
  case round =>
    obtain ⟨k, hk, rfl, rfl, hbw⟩ := hrel
    by_cases hlt : k < 3
    · obtain ⟨no, hno⟩ : ∃ no, nosL[k]? = some no := ⟨_, List.getElem?_eq_getElem hlt⟩
      have hlt' : (k : Int) < 3 := by omega
      obtain ⟨m0, m1⟩ := KM.out.below hbw
      have m2 := hbw.keptCell (KN.out k no hno)
      have dr : Below wr.heap.size wr wr.drew := ⟨rfl, rfl, rfl, Nat.le_refl _, fun _ _ => rfl⟩
      obtain ⟨s, b, eR⟩ : ∃ s b, (getM F no).getD ⟨#[]⟩ = s ∧ (getM F no).isSome = b := ⟨_, _, rfl, rfl⟩
      have HC1 := Lib.hid (show Calls Tryd.prog 9 #[.agg #[.int .i64 ty, .slice p F.length c], .int .i64 no] wr.drew fun e w' => e = .returned (.tuple #[.string s, .bool b]) ∧ Below wr.drew.heap.size wr.drew w' from (rget_any ((HFw.out.below hbw).below dr) ty no).mono fun e w' h => by rw [eR.1, eR.2] at h; exact h)
      have HC2 := Lib.hid (fun (W : World) (hW : Below w3.heap.size w3 W) => show Calls Tryd.prog 9 #[.agg #[.int .i64 510, .slice q G.length d], .int .i64 no] W fun e w' => e = .returned (.tuple #[.string s, .bool b]) ∧ Below W.heap.size W w' from (rget_any (HGw.out.below hW) 510 no).mono fun e w' h => by rw [HG1.out k no hno, eR.1, eR.2] at h; exact h)
      have HR := Lib.hid eR
      have HNO := Lib.hid hno
      have HB := Lib.hid hbw
      clear eR hno hbw
      go_wp2_with fail
      refine wp_region_held_drew (S := (fun W => (W.cell? ⟨B, 0, none⟩ = some (.int .i64 ty) ∧ W.cell? ⟨B, 1, none⟩ = some (.slice p F.length c)) ∧ W.cell? ⟨X + 1, k, none⟩ = some (.int .i64 no))) (by kernel_rfl) (⟨⟨m0, m1⟩, m2⟩) (fun hHeld => ?_)
      refine wpAnyH_take (i := 0) (oi := { dst := some 29, op := Op.load 32 (Operand.tmp 3), type := 32, pos := "more.go:16", after := #[], guard := none }) (v := ?_) rfl (by kernel_rfl) (by kernel_rfl) (by kernel_rfl) (fun _ _ _ h => h) (Or.inl ⟨by rfl, ?hyone1⟩) (by assumption) ?restone1
      case hyone1 => (intro W hSw; obtain ⟨⟨s0, s1⟩, s2⟩ := hSw; go_simp; try with_reducible rfl)
      try simp only [Act.put, List.setIfInBounds_toArray, List.set_cons_zero, List.set_cons_succ]
      refine wpAnyH_take (i := 1) (oi := { dst := some 30, op := Op.move (Operand.tmp 10), type := 42, pos := "more.go:16", after := #[], guard := none }) (v := ?_) rfl (by kernel_rfl) (by kernel_rfl) (by kernel_rfl) (fun _ _ _ h => h) (Or.inl ⟨by rfl, ?hyone4⟩) (by assumption) ?restone4
      case hyone4 => (intro W hSw; obtain ⟨⟨s0, s1⟩, s2⟩ := hSw; go_simp; try with_reducible rfl)
      try simp only [Act.put, List.setIfInBounds_toArray, List.set_cons_zero, List.set_cons_succ]
      refine wpAnyH_take (i := 2) (oi := { dst := some 31, op := Op.move (Operand.tmp 11), type := 3, pos := "more.go:16", after := #[], guard := none }) (v := ?_) rfl (by kernel_rfl) (by kernel_rfl) (by kernel_rfl) (fun _ _ _ h => h) (Or.inl ⟨by rfl, ?hyone7⟩) (by assumption) ?restone7
      case hyone7 => (intro W hSw; obtain ⟨⟨s0, s1⟩, s2⟩ := hSw; go_simp; try with_reducible rfl)
      try simp only [Act.put, List.setIfInBounds_toArray, List.set_cons_zero, List.set_cons_succ]
      refine wpAnyH_take (i := 3) (oi := { dst := some 32, op := Op.indexAddr 42 (Operand.tmp 30) (Operand.tmp 31), type := 0, pos := "more.go:16", after := #[{ on := 1, ground := Ground.data }, { on := 2, ground := Ground.data }], guard := none }) (v := ?_) rfl (by kernel_rfl) (by kernel_rfl) (by kernel_rfl) (fun _ _ _ h => h) (Or.inl ⟨by rfl, ?hyone10⟩) (by assumption) ?restone10
      case hyone10 => (intro W hSw; obtain ⟨⟨s0, s1⟩, s2⟩ := hSw; go_simp; try with_reducible rfl)
      try simp only [Act.put, List.setIfInBounds_toArray, List.set_cons_zero, List.set_cons_succ]
      refine wpAnyH_take (i := 4) (oi := { dst := some 33, op := Op.load 3 (Operand.tmp 32), type := 3, pos := "more.go:16", after := #[{ on := 3, ground := Ground.data }], guard := none }) (v := ?_) rfl (by kernel_rfl) (by kernel_rfl) (by kernel_rfl) (fun _ _ _ h => h) (Or.inl ⟨by rfl, ?hyone13⟩) (by assumption) ?restone13
      case hyone13 => (intro W hSw; obtain ⟨⟨s0, s1⟩, s2⟩ := hSw; go_simp; try with_reducible rfl)
      try simp only [Act.put, List.setIfInBounds_toArray, List.set_cons_zero, List.set_cons_succ]
      refine wpAnyH_ready (rs := [5]) (by kernel_rfl) (by simp) (AllReadyH.cons (o := { dst := some 34, op := Op.call { callee := Callee.value (Operand.func 9), args := #[Operand.tmp 29, Operand.tmp 33], argTypes := #[32, 3] }, type := 39, pos := "more.go:16", after := #[{ on := 0, ground := Ground.data }, { on := 4, ground := Ground.data }], guard := none }) rfl (fun K hK => ?_) AllReadyH.nil)
      go_simp
      refine HC1.out.mono ?_
      rintro e w4 ⟨rfl, e1⟩
      have e2 : Below wr.heap.size wr w4 := dr.trans e1
      refine hK.out _ _ (⟨⟨e2.keptCell m0, e2.keptCell m1⟩, e2.keptCell m2⟩) (fun hHeld => ?_)
      clear hK K
      try simp only [Act.put, List.setIfInBounds_toArray, List.set_cons_zero, List.set_cons_succ]
      refine wpAnyH_take (i := 6) (oi := { dst := some 28, op := Op.move (Operand.tmp 34), type := 39, pos := "more.go:16", after := #[{ on := 5, ground := Ground.data }], guard := none }) (v := ?_) rfl (by kernel_rfl) (by kernel_rfl) (by kernel_rfl) (fun _ _ _ h => h) (Or.inl ⟨by rfl, ?hyone24⟩) (by assumption) ?restone24
      case hyone24 => (intro w hSw; (try dsimp only at hSw); go_simp; try with_reducible rfl)
      try simp only [Act.put, List.setIfInBounds_toArray, List.set_cons_zero, List.set_cons_succ]
      refine wpAnyH_take (i := 7) (oi := { dst := some 35, op := Op.extract (Operand.tmp 28) 0, type := 9, pos := "more.go:16", after := #[{ on := 6, ground := Ground.data }], guard := none }) (v := ?_) rfl (by kernel_rfl) (by kernel_rfl) (by kernel_rfl) (fun _ _ _ h => h) (Or.inl ⟨by rfl, ?hyone27⟩) (by assumption) ?restone27
      case hyone27 => (intro w hSw; (try dsimp only at hSw); go_simp; try with_reducible rfl)
      try simp only [Act.put, List.setIfInBounds_toArray, List.set_cons_zero, List.set_cons_succ]
      refine wpAnyH_take (i := 8) (oi := { dst := some 36, op := Op.extract (Operand.tmp 28) 1, type := 4, pos := "more.go:16", after := #[{ on := 6, ground := Ground.data }, { on := 9, ground := Ground.gcOnly Departure.lateStores }], guard := none }) (v := ?_) rfl (by kernel_rfl) (by kernel_rfl) (by kernel_rfl) (fun _ _ _ h => h) (Or.inl ⟨by rfl, ?hyone30⟩) (by assumption) ?restone30
      case hyone30 => (intro w hSw; (try dsimp only at hSw); go_simp; try with_reducible rfl)
      try simp only [Act.put, List.setIfInBounds_toArray, List.set_cons_zero, List.set_cons_succ]
      refine wpAnyH_take (i := 9) (oi := { dst := some 12, op := Op.assign (Operand.tmp 35), type := 9, pos := "more.go:16", after := #[{ on := 7, ground := Ground.data }, { on := 5, ground := Ground.chain }, { on := 0, ground := Ground.phase }, { on := 1, ground := Ground.phase }, { on := 2, ground := Ground.phase }, { on := 3, ground := Ground.phase }, { on := 4, ground := Ground.phase }, { on := 5, ground := Ground.phase }, { on := 6, ground := Ground.phase }, { on := 7, ground := Ground.phase }, { on := 8, ground := Ground.textOnly Departure.lateStores }], guard := none }) (v := ?_) rfl (by kernel_rfl) (by kernel_rfl) (by kernel_rfl) (fun _ _ _ h => h) (Or.inl ⟨by rfl, ?hyone33⟩) (by assumption) ?restone33
      case hyone33 => (intro w hSw; (try dsimp only at hSw); go_simp; try with_reducible rfl)
      try simp only [Act.put, List.setIfInBounds_toArray, List.set_cons_zero, List.set_cons_succ]
      refine wpAnyH_take (i := 10) (oi := { dst := some 13, op := Op.assign (Operand.tmp 36), type := 4, pos := "more.go:16", after := #[{ on := 8, ground := Ground.data }, { on := 9, ground := Ground.chain }, { on := 0, ground := Ground.phase }, { on := 1, ground := Ground.phase }, { on := 2, ground := Ground.phase }, { on := 3, ground := Ground.phase }, { on := 4, ground := Ground.phase }, { on := 5, ground := Ground.phase }, { on := 6, ground := Ground.phase }, { on := 7, ground := Ground.phase }, { on := 8, ground := Ground.phase }, { on := 9, ground := Ground.phase }], guard := none }) (v := ?_) rfl (by kernel_rfl) (by kernel_rfl) (by kernel_rfl) (fun _ _ _ h => h) (Or.inl ⟨by rfl, ?hyone36⟩) (by assumption) ?restone36
      case hyone36 => (intro w hSw; (try dsimp only at hSw); go_simp; try with_reducible rfl)
      try simp only [Act.put, List.setIfInBounds_toArray, List.set_cons_zero, List.set_cons_succ]
      refine wpAnyH_done (by kernel_rfl) ?_ _
      clear hHeld
      have e3 : Below w3.heap.size w3 w4 := HB.out.trans (e2.mono HB.out.size)
      clear m0 m1 m2 dr e1 e2 HC1 HB
      obtain ⟨m0, m1⟩ := KX.out.below e3
      have m2 := e3.keptCell (KN.out k no HNO.out)
      have dr : Below w4.heap.size w4 w4.drew := ⟨rfl, rfl, rfl, Nat.le_refl _, fun _ _ => rfl⟩
      have HC3 := Lib.hid (HC2.out w4.drew (e3.trans (dr.mono e3.size)))
      have HB := Lib.hid e3
      clear HC2 e3
      go_wp2_with fail
      refine wp_region_held_drew (S := (fun W => (W.cell? ⟨X, 0, none⟩ = some (.int .i64 510) ∧ W.cell? ⟨X, 1, none⟩ = some (.slice q G.length d)) ∧ W.cell? ⟨X + 1, k, none⟩ = some (.int .i64 no))) (by kernel_rfl) (⟨⟨m0, m1⟩, m2⟩) (fun hHeld => ?_)
      refine wpAnyH_take (i := 0) (oi := { dst := some 38, op := Op.load 32 (Operand.tmp 8), type := 32, pos := "more.go:17", after := #[], guard := none }) (v := ?_) rfl (by kernel_rfl) (by kernel_rfl) (by kernel_rfl) (fun _ _ _ h => h) (Or.inl ⟨by rfl, ?hytwo1⟩) (by assumption) ?resttwo1
      case hytwo1 => (intro W hSw; obtain ⟨⟨s0, s1⟩, s2⟩ := hSw; go_simp; try with_reducible rfl)
      try simp only [Act.put, List.setIfInBounds_toArray, List.set_cons_zero, List.set_cons_succ]
      refine wpAnyH_take (i := 1) (oi := { dst := some 39, op := Op.move (Operand.tmp 10), type := 42, pos := "more.go:17", after := #[], guard := none }) (v := ?_) rfl (by kernel_rfl) (by kernel_rfl) (by kernel_rfl) (fun _ _ _ h => h) (Or.inl ⟨by rfl, ?hytwo4⟩) (by assumption) ?resttwo4
      case hytwo4 => (intro W hSw; obtain ⟨⟨s0, s1⟩, s2⟩ := hSw; go_simp; try with_reducible rfl)
      try simp only [Act.put, List.setIfInBounds_toArray, List.set_cons_zero, List.set_cons_succ]
      refine wpAnyH_take (i := 2) (oi := { dst := some 40, op := Op.move (Operand.tmp 11), type := 3, pos := "more.go:17", after := #[], guard := none }) (v := ?_) rfl (by kernel_rfl) (by kernel_rfl) (by kernel_rfl) (fun _ _ _ h => h) (Or.inl ⟨by rfl, ?hytwo7⟩) (by assumption) ?resttwo7
      case hytwo7 => (intro W hSw; obtain ⟨⟨s0, s1⟩, s2⟩ := hSw; go_simp; try with_reducible rfl)
      try simp only [Act.put, List.setIfInBounds_toArray, List.set_cons_zero, List.set_cons_succ]
      refine wpAnyH_take (i := 3) (oi := { dst := some 41, op := Op.indexAddr 42 (Operand.tmp 39) (Operand.tmp 40), type := 0, pos := "more.go:17", after := #[{ on := 1, ground := Ground.data }, { on := 2, ground := Ground.data }], guard := none }) (v := ?_) rfl (by kernel_rfl) (by kernel_rfl) (by kernel_rfl) (fun _ _ _ h => h) (Or.inl ⟨by rfl, ?hytwo10⟩) (by assumption) ?resttwo10
      case hytwo10 => (intro W hSw; obtain ⟨⟨s0, s1⟩, s2⟩ := hSw; go_simp; try with_reducible rfl)
      try simp only [Act.put, List.setIfInBounds_toArray, List.set_cons_zero, List.set_cons_succ]
      refine wpAnyH_take (i := 4) (oi := { dst := some 42, op := Op.load 3 (Operand.tmp 41), type := 3, pos := "more.go:17", after := #[{ on := 3, ground := Ground.data }], guard := none }) (v := ?_) rfl (by kernel_rfl) (by kernel_rfl) (by kernel_rfl) (fun _ _ _ h => h) (Or.inl ⟨by rfl, ?hytwo13⟩) (by assumption) ?resttwo13
      case hytwo13 => (intro W hSw; obtain ⟨⟨s0, s1⟩, s2⟩ := hSw; go_simp; try with_reducible rfl)
      try simp only [Act.put, List.setIfInBounds_toArray, List.set_cons_zero, List.set_cons_succ]
      refine wpAnyH_ready (rs := [5]) (by kernel_rfl) (by simp) (AllReadyH.cons (o := { dst := some 43, op := Op.call { callee := Callee.value (Operand.func 9), args := #[Operand.tmp 38, Operand.tmp 42], argTypes := #[32, 3] }, type := 39, pos := "more.go:17", after := #[{ on := 0, ground := Ground.data }, { on := 4, ground := Ground.data }], guard := none }) rfl (fun K hK => ?_) AllReadyH.nil)
      go_simp
      refine HC3.out.mono ?_
      rintro e w5 ⟨rfl, e1⟩
      have e2 : Below w4.heap.size w4 w5 := dr.trans e1
      refine hK.out _ _ (⟨⟨e2.keptCell m0, e2.keptCell m1⟩, e2.keptCell m2⟩) (fun hHeld => ?_)
      clear hK K
      try simp only [Act.put, List.setIfInBounds_toArray, List.set_cons_zero, List.set_cons_succ]
      refine wpAnyH_take (i := 6) (oi := { dst := some 37, op := Op.move (Operand.tmp 43), type := 39, pos := "more.go:17", after := #[{ on := 5, ground := Ground.data }], guard := none }) (v := ?_) rfl (by kernel_rfl) (by kernel_rfl) (by kernel_rfl) (fun _ _ _ h => h) (Or.inl ⟨by rfl, ?hytwo24⟩) (by assumption) ?resttwo24
      case hytwo24 => (intro w hSw; (try dsimp only at hSw); go_simp; try with_reducible rfl)
      try simp only [Act.put, List.setIfInBounds_toArray, List.set_cons_zero, List.set_cons_succ]
      refine wpAnyH_take (i := 7) (oi := { dst := some 44, op := Op.extract (Operand.tmp 37) 0, type := 9, pos := "more.go:17", after := #[{ on := 6, ground := Ground.data }], guard := none }) (v := ?_) rfl (by kernel_rfl) (by kernel_rfl) (by kernel_rfl) (fun _ _ _ h => h) (Or.inl ⟨by rfl, ?hytwo27⟩) (by assumption) ?resttwo27
      case hytwo27 => (intro w hSw; (try dsimp only at hSw); go_simp; try with_reducible rfl)
      try simp only [Act.put, List.setIfInBounds_toArray, List.set_cons_zero, List.set_cons_succ]
      refine wpAnyH_take (i := 8) (oi := { dst := some 45, op := Op.extract (Operand.tmp 37) 1, type := 4, pos := "more.go:17", after := #[{ on := 6, ground := Ground.data }, { on := 9, ground := Ground.gcOnly Departure.lateStores }], guard := none }) (v := ?_) rfl (by kernel_rfl) (by kernel_rfl) (by kernel_rfl) (fun _ _ _ h => h) (Or.inl ⟨by rfl, ?hytwo30⟩) (by assumption) ?resttwo30
      case hytwo30 => (intro w hSw; (try dsimp only at hSw); go_simp; try with_reducible rfl)
      try simp only [Act.put, List.setIfInBounds_toArray, List.set_cons_zero, List.set_cons_succ]
      refine wpAnyH_take (i := 9) (oi := { dst := some 14, op := Op.assign (Operand.tmp 44), type := 9, pos := "more.go:17", after := #[{ on := 7, ground := Ground.data }, { on := 5, ground := Ground.chain }, { on := 0, ground := Ground.phase }, { on := 1, ground := Ground.phase }, { on := 2, ground := Ground.phase }, { on := 3, ground := Ground.phase }, { on := 4, ground := Ground.phase }, { on := 5, ground := Ground.phase }, { on := 6, ground := Ground.phase }, { on := 7, ground := Ground.phase }, { on := 8, ground := Ground.textOnly Departure.lateStores }], guard := none }) (v := ?_) rfl (by kernel_rfl) (by kernel_rfl) (by kernel_rfl) (fun _ _ _ h => h) (Or.inl ⟨by rfl, ?hytwo33⟩) (by assumption) ?resttwo33
      case hytwo33 => (intro w hSw; (try dsimp only at hSw); go_simp; try with_reducible rfl)
      try simp only [Act.put, List.setIfInBounds_toArray, List.set_cons_zero, List.set_cons_succ]
      refine wpAnyH_take (i := 10) (oi := { dst := some 15, op := Op.assign (Operand.tmp 45), type := 4, pos := "more.go:17", after := #[{ on := 8, ground := Ground.data }, { on := 9, ground := Ground.chain }, { on := 0, ground := Ground.phase }, { on := 1, ground := Ground.phase }, { on := 2, ground := Ground.phase }, { on := 3, ground := Ground.phase }, { on := 4, ground := Ground.phase }, { on := 5, ground := Ground.phase }, { on := 6, ground := Ground.phase }, { on := 7, ground := Ground.phase }, { on := 8, ground := Ground.phase }, { on := 9, ground := Ground.phase }], guard := none }) (v := ?_) rfl (by kernel_rfl) (by kernel_rfl) (by kernel_rfl) (fun _ _ _ h => h) (Or.inl ⟨by rfl, ?hytwo36⟩) (by assumption) ?resttwo36
      case hytwo36 => (intro w hSw; (try dsimp only at hSw); go_simp; try with_reducible rfl)
      try simp only [Act.put, List.setIfInBounds_toArray, List.set_cons_zero, List.set_cons_succ]
      refine wpAnyH_done (by kernel_rfl) ?_ _
      clear hHeld
      have e3 : Below w3.heap.size w3 w5 := HB.out.trans (e2.mono HB.out.size)
      clear m0 m1 m2 dr e1 e2 HC3 HB
      have HB := Lib.hid e3
      clear e3
      have HK := Lib.hid (cnt_next F k hlt no HNO.out)
      have HKO := Lib.hid (cnt_ok F k)
      cases b
      · have HK2 := Lib.hid (show cnt F (k + 1) = cnt F k by rw [HK.out, one, HR.out.2]; simp)
        go_wp2_with fail
        go_roundw
        case rel => exact ⟨k + 1, by omega, by go_num, by rw [HK2.out], HB.out⟩
        case measure => simp [intOf]; omega
      · have HK2 := Lib.hid (show cnt F (k + 1) = cnt F k + 1 by rw [HK.out, one, HR.out.2]; simp)
        have hn := HKO.out
        go_wp2_with fail
        go_roundw
        case rel => exact ⟨k + 1, by omega, by go_num, by rw [HK2.out], HB.out⟩
        case measure => simp [intOf]; omega
    · obtain rfl : k = 3 := by omega
      have HC1 := Lib.hid (show Calls Tryd.prog 9 #[.agg #[.int .i64 510, .slice q G.length d], .int .i64 39] wr fun e w' => e = .returned (.tuple #[.string S, .bool true]) ∧ Below wr.heap.size wr w' from rget_is (HGw.out.below hbw) 510 39 S H39.out)
      obtain ⟨m0, m1⟩ := KX.out.below hbw
      have HB := Lib.hid hbw
      clear hbw
      go_wp2_with fail
      refine HC1.out.mono ?_
      rintro e w4 ⟨rfl, e1⟩
      clear m0 m1
      obtain ⟨m0, m1⟩ := KX.out.below (HB.out.trans (e1.mono HB.out.size))
      have HB2 := Lib.hid (HBw.out.trans ((HB.out.trans (e1.mono HB.out.size)).mono HBw.out.size))
      clear HB e1
      have hn := HN.out
      rcases HS4.out with rfl | rfl | rfl
      · go_wp2_with fail
        go_ret
        exact ⟨rfl, HB2.out⟩
      · go_wp2_with fail
        go_ret
        exact ⟨rfl, HB2.out⟩
      · go_wp2_with fail
        go_ret
        exact ⟨rfl, HB2.out⟩
end Go.Proofs.YtjndfmpicnkplaaDoor.msgw
