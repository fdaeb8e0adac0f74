/- Layer 20: the document's example, walked. Conditions: as each theorem says. -/
import Derived.Test.YtjndfmpicnkplaaDoorRecG
namespace Go.Proofs.YtjndfmpicnkplaaDoor.msgw
open Go.RowKit
open Go.Proofs.YtjndfmpicnkplaaDoor.msgp
open Go.Proofs.YtjndfmpicnkplaaDoor.buf
open Go.Proofs.YtjndfmpicnkplaaDoor.fieldp
open Go.Proofs.YtjndfmpicnkplaaDoor.fieldw
theorem okI_small {n : Int} (h : -100 ≤ n ∧ n ≤ 100) : okI n := by unfold okI; omega
theorem ask_ex {w : World} (hT : Tabs w) : Calls Tryd.prog 6 #[.string exCode, .string exWhen, .string exStan, .agg #[.int .i64 1, .int .i64 1, .int .i64 0, .int .i64 5, .int .i64 0, .int .i64 5]] w fun e w' =>
    ∃ g cap, e = .returned (.tuple #[.agg #[.int .i64 500, .slice (some ⟨g, 0, none⟩) 8 cap], .int .i64 0]) ∧ FsAt w' (.slice (some ⟨g, 0, none⟩) 8 cap) exM ∧ Below w.heap.size w w' :=
  (ask_any hT exCode exWhen exStan 1 exT (okI_small (by decide)) (okI_small (by decide)) (okI_small (by decide)) (okI_small (by decide)) (okI_small (by decide)) (fun F h => by
    rw [ex_ask] at h
    obtain rfl := Option.some.inj h
    exact checkAt_ok ex_err ex_small (by decide))).mono fun e w' h => by
    rw [ex_askR] at h
    rcases h with ⟨h, _⟩ | ⟨F, v, h, rfl, hB, b⟩
    · exact absurd h (by simp)
    · obtain rfl := Option.some.inj h
      have hf := hB.fs (show exM.length ≤ maxLen by decide)
      obtain ⟨p, c, rfl⟩ := hf.shape
      obtain ⟨g, o, rfl, _⟩ := hf.get 0 (by decide)
      obtain ⟨cap, rfl, ho⟩ : ∃ cap, c = cap ∧ o = 0 := by
        obtain ⟨⟨_, ⟨h2, _⟩ | ⟨g', cap, cur, h3, _⟩⟩, _⟩ := hB
        · exact absurd h2 (by decide)
        · simp only [Value.slice.injEq, Option.some.injEq, Addr.mk.injEq] at h3
          exact ⟨_, rfl, h3.1.2.1⟩
      subst ho
      exact ⟨g, c, rfl, hf, b⟩
theorem answer_ex {w : World} {v vl : Value} (h : FsAt w v exM) (hT : Tabs w) (hL : TotsAt w vl exL) (m : Int) (s : ByteArray) (hs : ansOf 500 exM m true exL = s) :
    Calls Tryd.prog 8 #[.agg #[.int .i64 500, v], .int .i64 m, .agg #[.int .i64 1, vl], .bool true] w fun e w' => ∃ g cap F, e = .returned (.agg #[.int .i64 510, .slice (some ⟨g, 0, none⟩) 4 cap]) ∧ FsAt w' (.slice (some ⟨g, 0, none⟩) 4 cap) F ∧ SmallF F ∧ getM F 39 = some s ∧ Below w.heap.size w w' :=
  (answer_any h hT ex_small hL 500 m 1 true).mono fun e w' h => by
    obtain ⟨v', rfl, hB, b⟩ := h
    have e1 := answer_code 500 exM m true exL
    have e2 := answer_len 500 exM m true exL
    have e4 := answer_small 500 ex_small m true exL
    rw [hs] at e1
    obtain ⟨F, eF⟩ : ∃ F, answerM 500 exM m true exL = F := ⟨_, rfl⟩
    rw [eF] at e1 e2 e4 hB
    have e3 : F.length = 4 := e2.trans (by decide)
    have hf := hB.fs (by rw [e3]; decide)
    obtain ⟨p, c, rfl⟩ := hf.shape
    obtain ⟨g, o, rfl, _⟩ := hf.get 0 (by rw [e3]; decide)
    have ho : o = 0 := by
      obtain ⟨⟨_, ⟨h2, _⟩ | ⟨g', cap, cur, h3, _⟩⟩, _⟩ := hB
      · exact absurd h2 (by rw [e3]; decide)
      · simp only [Value.slice.injEq, Option.some.injEq, Addr.mk.injEq] at h3
        exact h3.1.2.1
    subst ho
    rw [e3] at hf ⊢
    exact ⟨g, c, F, rfl, hf, e4, e1, b⟩
/-- A message's own row. -/
def MsgIn (w : World) (b : Nat) (ty : Int) (v : Value) : Prop := w.cell? ⟨b, 0, none⟩ = some (.int .i64 ty) ∧ w.cell? ⟨b, 1, none⟩ = some v
theorem MsgIn.below {w w' : World} {b : Nat} {ty : Int} {v : Value} (h : MsgIn w b ty v) (hb : Below w.heap.size w w') : MsgIn w' b ty v := ⟨hb.keptCell h.1, hb.keptCell h.2⟩
theorem msgIn_new (w : World) (ty : Int) (v : Value) : MsgIn (w.alloc (.cells #[.int .i64 ty, v] 32)) w.heap.size ty v :=
  ⟨(cells_at (heap_alloc_last w _) 0).trans rfl, (cells_at (heap_alloc_last w _) 1).trans rfl⟩
theorem tots_ex (w : World) (k : Nat) (hk : w.heap.size = k) : TotsAt (w.alloc (.cells #[.int .i64 0, .int .i64 0, .int .i64 0, .int .i64 0, .int .i64 0, .int .i64 0, .int .i64 1, .int .i64 1, .int .i64 0, .int .i64 5, .int .i64 0, .int .i64 5] 23)) (.slice (some ⟨k, 0, none⟩) 2 2) exL := by
  subst hk
  refine ⟨by decide, _, _, rfl, fun i hi => ⟨w.heap.size, 0, rfl, ?_⟩⟩
  have k0 := heap_alloc_last w (.cells #[.int .i64 0, .int .i64 0, .int .i64 0, .int .i64 0, .int .i64 0, .int .i64 0, .int .i64 1, .int .i64 1, .int .i64 0, .int .i64 5, .int .i64 0, .int .i64 5] 23)
  have hi' : i < 2 := hi
  obtain rfl | rfl : i = 0 ∨ i = 1 := by omega
  · exact ⟨(cells_at k0 _).trans rfl, (cells_at k0 _).trans rfl, (cells_at k0 _).trans rfl, (cells_at k0 _).trans rfl, (cells_at k0 _).trans rfl, (cells_at k0 _).trans rfl⟩
  · exact ⟨(cells_at k0 _).trans rfl, (cells_at k0 _).trans rfl, (cells_at k0 _).trans rfl, (cells_at k0 _).trans rfl, (cells_at k0 _).trans rfl, (cells_at k0 _).trans rfl⟩
theorem alloc_below (w : World) (o : Obj) : Below w.heap.size w (w.alloc o) := (Below.refl _ _).alloc (Nat.le_refl _) _
theorem rget_is {w : World} {v : Value} {F : Flds} (h : FsAt w v F) (ty no : Int) (s : ByteArray) (hs : getM F no = some s) : Calls Tryd.prog 9 #[.agg #[.int .i64 ty, v], .int .i64 no] w fun e w' => e = .returned (.tuple #[.string s, .bool true]) ∧ Below w.heap.size w w' :=
  (rget_any h ty no).mono fun e w' h => by rw [hs] at h; exact h
theorem read_no {w : World} {v : Value} {F : Flds} (h : FsAt w v F) (hT : Tabs w) (hS : SmallF F) : Calls Tryd.prog 7 #[.agg #[.int .i64 510, v]] w fun e w' => e = .returned (.tuple #[.agg #[.int .i64 0, .int .i64 0, .int .i64 0, .int .i64 0, .int .i64 0, .int .i64 0], .int .i64 51]) ∧ Below w.heap.size w w' :=
  (read_any h hT hS 510).mono fun e w' h => by
    rw [show readR 510 F = ([0, 0, 0, 0, 0], 51) from if_pos (by decide)] at h
    exact h
set_option maxHeartbeats 4000000 in
set_option maxRecDepth 100000 in
theorem shown_any {w : World} (hT : Tabs w) : Calls Tryd.prog 5 #[] w fun e w' => e = .returned (.bool true) ∧ Below w.heap.size w w' := by
  have b0 : Below w.heap.size w (w.alloc (.cells #[.int .i64 1, .int .i64 1, .int .i64 0, .int .i64 5, .int .i64 0, .int .i64 5] 23)) := alloc_below _ _
  have HC := Lib.hid (ask_ex (hT.below b0))
  have HT := Lib.hid (hT.below b0)
  have HB0 := Lib.hid b0
  have k0 := heap_alloc_last w (.cells #[.int .i64 1, .int .i64 1, .int .i64 0, .int .i64 5, .int .i64 0, .int .i64 5] 23)
  have HX := Lib.hid (show TotIn (w.alloc (.cells #[.int .i64 1, .int .i64 1, .int .i64 0, .int .i64 5, .int .i64 0, .int .i64 5] 23)) w.heap.size 0 (1, 1, 0, 5, 0, 5) from
    ⟨(cells_at k0 0).trans rfl, (cells_at k0 1).trans rfl, (cells_at k0 2).trans rfl, (cells_at k0 3).trans rfl, (cells_at k0 4).trans rfl, (cells_at k0 5).trans rfl⟩)
  clear b0 hT k0
  go_enter Tryd.func5, Tryd.ntmps5
  go_wp2_with fail
  refine HC.out.mono ?_
  rintro e w1 ⟨g, cap, rfl, hF, b1⟩
  have b2 : Below w1.heap.size w1 (w1.alloc (.cells #[.int .i64 500, .slice (some ⟨g, 0, none⟩) 8 cap] 32)) := alloc_below _ _
  have q : (w1.alloc (.cells #[.int .i64 500, .slice (some ⟨g, 0, none⟩) 8 cap] 32)).cell? ⟨g, 15, none⟩ = some (.string ⟨#[67, 48, 48, 48, 48, 48, 48, 48, 48, 48, 48, 48, 48, 48, 48, 48, 53]⟩) := by
    obtain ⟨b, o, h1, _, h3⟩ := (hF.below b2).get 7 (by decide)
    simp only [Option.some.injEq, Addr.mk.injEq, and_true] at h1
    obtain ⟨rfl, rfl⟩ := h1
    exact h3
  have HX1 := Lib.hid ((HX.out.below b1).below b2)
  obtain ⟨x0, x1, x2, x3, x4, x5⟩ := (HX.out.below b1).below b2
  simp only [Nat.zero_add] at x0 x1 x2 x3 x4 x5
  have b3 : Below (w1.alloc (.cells #[.int .i64 500, .slice (some ⟨g, 0, none⟩) 8 cap] 32)).heap.size (w1.alloc (.cells #[.int .i64 500, .slice (some ⟨g, 0, none⟩) 8 cap] 32)) ((w1.alloc (.cells #[.int .i64 500, .slice (some ⟨g, 0, none⟩) 8 cap] 32)).alloc (.cells #[.int .i64 0, .int .i64 0, .int .i64 0, .int .i64 0, .int .i64 0, .int .i64 0, .int .i64 1, .int .i64 1, .int .i64 0, .int .i64 5, .int .i64 0, .int .i64 5] 23)) := alloc_below _ _
  have HM1 := Lib.hid ((msgIn_new w1 500 (.slice (some ⟨g, 0, none⟩) 8 cap)).below b3)
  have HF := Lib.hid ((hF.below b2).below b3)
  have HX2 := Lib.hid (((HX.out.below b1).below b2).below b3)
  have b4 := HB0.out.trans ((b1.trans (b2.mono b1.size)).mono HB0.out.size)
  have HB1 := Lib.hid (b4.trans (b3.mono b4.size))
  have HT1 := Lib.hid (((HT.out.below b1).below b2).below b3)
  have HL := Lib.hid (tots_ex (w1.alloc (.cells #[.int .i64 500, .slice (some ⟨g, 0, none⟩) 8 cap] 32)) (w1.heap.size + 1) (by simp))
  clear HC hF b1 b2 b3 b4 HT HB0 HX
  go_wp2_with fail
  refine (answer_ex HF.out HT1.out HL.out 1 _ ex_one).mono ?_
  rintro e w2 ⟨g4, c4, F4, rfl, hA, hAS, hA39, c1⟩
  clear q x0 x1 x2 x3 x4 x5 HX1
  have c2 : Below w2.heap.size w2 (w2.alloc (.cells #[.int .i64 510, .slice (some ⟨g4, 0, none⟩) 4 c4] 32)) := alloc_below _ _
  obtain ⟨m0, m1⟩ := (HM1.out.below c1).below c2
  obtain ⟨x0, x1, x2, x3, x4, x5⟩ := (HX2.out.below c1).below c2
  simp only [Nat.zero_add] at x0 x1 x2 x3 x4 x5
  have c3 : Below (w2.alloc (.cells #[.int .i64 510, .slice (some ⟨g4, 0, none⟩) 4 c4] 32)).heap.size (w2.alloc (.cells #[.int .i64 510, .slice (some ⟨g4, 0, none⟩) 4 c4] 32)) ((w2.alloc (.cells #[.int .i64 510, .slice (some ⟨g4, 0, none⟩) 4 c4] 32)).alloc (.cells #[.int .i64 0, .int .i64 0, .int .i64 0, .int .i64 0, .int .i64 0, .int .i64 0, .int .i64 1, .int .i64 1, .int .i64 0, .int .i64 5, .int .i64 0, .int .i64 5] 23)) := alloc_below _ _
  have HM4 := Lib.hid ((msgIn_new w2 510 (.slice (some ⟨g4, 0, none⟩) 4 c4)).below c3)
  have HA := Lib.hid ((hA.below c2).below c3)
  have HFB := Lib.hid (((HF.out.below c1).below c2).below c3)
  have HTB := Lib.hid (((HT1.out.below c1).below c2).below c3)
  have c4' := HB1.out.trans ((c1.trans (c2.mono c1.size)).mono HB1.out.size)
  have HB2 := Lib.hid (c4'.trans (c3.mono c4'.size))
  have HLB := Lib.hid (tots_ex (w2.alloc (.cells #[.int .i64 510, .slice (some ⟨g4, 0, none⟩) 4 c4] 32)) (w2.heap.size + 1) (by simp))
  clear hA c1 c2 c3 c4' HF HT1 HB1 HL HX2 HM1
  go_wp2_with fail
  refine (answer_ex HFB.out HTB.out HLB.out 0 _ ex_two).mono ?_
  rintro e w3 ⟨g5, c5, F5, rfl, hA5, hAS5, hA539, d1⟩
  clear x0 x1 x2 x3 x4 x5 m0 m1
  have d2 : Below w3.heap.size w3 (w3.alloc (.cells #[.int .i64 510, .slice (some ⟨g5, 0, none⟩) 4 c5] 32)) := alloc_below _ _
  have HM4B := Lib.hid ((HM4.out.below d1).below d2)
  obtain ⟨m0, m1⟩ := HM4B.out
  have HM5 := Lib.hid (msgIn_new w3 510 (.slice (some ⟨g5, 0, none⟩) 4 c5))
  have HA4 := Lib.hid ((HA.out.below d1).below d2)
  have HA5 := Lib.hid (hA5.below d2)
  have HT3 := Lib.hid ((HTB.out.below d1).below d2)
  have HB3 := Lib.hid (HB2.out.trans ((d1.trans (d2.mono d1.size)).mono HB2.out.size))
  clear hA5 d1 d2 HA HTB HB2 HFB HLB HM4
  go_wp2_with fail
  refine (rget_is HA4.out 510 39 _ hA39).mono ?_
  rintro e w4 ⟨rfl, e1⟩
  have HM4C := Lib.hid (HM4B.out.below e1)
  obtain ⟨n0, n1⟩ := HM5.out.below e1
  have HA4C := Lib.hid (HA4.out.below e1)
  have HA5C := Lib.hid (HA5.out.below e1)
  have HT4 := Lib.hid (HT3.out.below e1)
  have HB4 := Lib.hid (HB3.out.trans (e1.mono HB3.out.size))
  clear m0 m1 e1 HM4B HM5 HA4 HA5 HT3 HB3
  go_wp2_with fail
  refine (rget_is HA5C.out 510 39 _ hA539).mono ?_
  rintro e w5 ⟨rfl, e1⟩
  have HM4D := Lib.hid (HM4C.out.below e1)
  obtain ⟨m0, m1⟩ := HM4D.out
  have HA4D := Lib.hid (HA4C.out.below e1)
  have HT5 := Lib.hid (HT4.out.below e1)
  have HB5 := Lib.hid (HB4.out.trans (e1.mono HB4.out.size))
  clear n0 n1 e1 HM4C HA4C HA5C HT4 HB4
  go_wp2_with fail
  refine (read_no HA4D.out HT5.out hAS).mono ?_
  rintro e w6 ⟨rfl, e1⟩
  have e2 : Below w6.heap.size w6 (w6.alloc (.cells #[.int .i64 0, .int .i64 0, .int .i64 0, .int .i64 0, .int .i64 0, .int .i64 0] 23)) := alloc_below _ _
  have e3 : Below w5.heap.size w5 (w6.alloc (.cells #[.int .i64 0, .int .i64 0, .int .i64 0, .int .i64 0, .int .i64 0, .int .i64 0] 23)) := e1.trans (e2.mono e1.size)
  obtain ⟨n0, n1⟩ := HM4D.out.below e3
  have HB6 := Lib.hid (HB5.out.trans (e3.mono HB5.out.size))
  clear m0 m1 e1 e2 e3 HM4D HA4D HT5 HB5
  go_wp2_with fail
  go_ret
  exact ⟨rfl, HB6.out⟩
end Go.Proofs.YtjndfmpicnkplaaDoor.msgw
