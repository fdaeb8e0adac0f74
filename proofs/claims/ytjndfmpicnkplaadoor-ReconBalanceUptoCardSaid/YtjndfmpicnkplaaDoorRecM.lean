/- Layer 20: ReconBalance, walked. Conditions: as each theorem says. -/
import Derived.Test.YtjndfmpicnkplaaDoorRecH
import Derived.Test.YtjndfmpicnkplaaDoorRecL
namespace Go.Proofs.YtjndfmpicnkplaaDoor.msgw
open Go.RowKit
open Go.Proofs.YtjndfmpicnkplaaDoor.msgp
open Go.Proofs.YtjndfmpicnkplaaDoor.buf
open Go.Proofs.YtjndfmpicnkplaaDoor.fieldp
open Go.Proofs.YtjndfmpicnkplaaDoor.fieldw
/-- A statement's own row. -/
structure StIn (w : World) (b : Nat) (code when stan : ByteArray) (mem : Int) (t : Five) : Prop where
  c0 : w.cell? ⟨b, 0, none⟩ = some (.string code)
  c1 : w.cell? ⟨b, 1, none⟩ = some (.string when)
  c2 : w.cell? ⟨b, 2, none⟩ = some (.string stan)
  c3 : w.cell? ⟨b, 3, none⟩ = some (.int .i64 mem)
  c4 : w.cell? ⟨b, 4, none⟩ = some (.int .i64 t.1)
  c5 : w.cell? ⟨b, 5, none⟩ = some (.int .i64 t.2.1)
  c6 : w.cell? ⟨b, 6, none⟩ = some (.int .i64 t.2.2.1)
  c7 : w.cell? ⟨b, 7, none⟩ = some (.int .i64 t.2.2.2.1)
  c8 : w.cell? ⟨b, 8, none⟩ = some (.int .i64 t.2.2.2.2)
theorem StIn.below {w w' : World} {b : Nat} {code when stan : ByteArray} {mem : Int} {t : Five} (h : StIn w b code when stan mem t) (hb : Below w.heap.size w w') : StIn w' b code when stan mem t :=
  ⟨hb.keptCell h.c0, hb.keptCell h.c1, hb.keptCell h.c2, hb.keptCell h.c3, hb.keptCell h.c4, hb.keptCell h.c5, hb.keptCell h.c6, hb.keptCell h.c7, hb.keptCell h.c8⟩
theorem ask_len8 {code when stan : ByteArray} {t : Five} {F : Flds} (h : askF code when stan t = some F) : F.length = 8 := by
  obtain ⟨_, _, _, _, _, rfl⟩ := ask_list h
  rfl
theorem ask_small {code when stan : ByteArray} {t : Five} {F : Flds} (h : askF code when stan t = some F) (h0 : code.size ≤ 100000000) (h1 : when.size ≤ 100000000) (h2 : stan.size ≤ 100000000) : SmallF F := by
  obtain ⟨_, _, _, _, _, rfl⟩ := ask_list h
  intro x hx
  have d1 := digitsR_size t.1 10
  have d2 := digitsR_size t.2.1 10
  have d3 := digitsR_size t.2.2.1 16
  have d4 := digitsR_size t.2.2.2.1 16
  have d5 : (signedR t.2.2.2.2 16).1.size ≤ 19 := by
    have e1 := digitsR_size (wrap64 (-t.2.2.2.2)) 16
    have e2 := digitsR_size t.2.2.2.2 16
    have e3 (a b : ByteArray) : (a ++ b).size = a.size + b.size := ByteArray.size_append
    unfold signedR
    split
    · show ((⟨#[68]⟩ : ByteArray) ++ _).size ≤ 19
      rw [e3]
      show 1 + _ ≤ 19
      omega
    · show ((⟨#[67]⟩ : ByteArray) ++ _).size ≤ 19
      rw [e3]
      show 1 + _ ≤ 19
      omega
  simp only [List.mem_cons, List.not_mem_nil, or_false] at hx
  rcases hx with rfl | rfl | rfl | rfl | rfl | rfl | rfl | rfl
  · exact h1
  · exact h2
  · exact h0
  · exact Nat.le_trans d1 (by decide)
  · exact Nat.le_trans d2 (by decide)
  · exact Nat.le_trans d3 (by decide)
  · exact Nat.le_trans d4 (by decide)
  · exact Nat.le_trans d5 (by decide)
theorem ask_all {w : World} (hT : Tabs w) (code when stan : ByteArray) (mem t0 t1 t2 t3 t4 : Int) (s0 : code.size ≤ 100000000) (s1 : when.size ≤ 100000000) (s2 : stan.size ≤ 100000000) (h0 : okI t0) (h1 : okI t1) (h2 : okI t2) (h3 : okI t3) (h4 : okI t4) :
    Calls Tryd.prog 6 #[.string code, .string when, .string stan, .agg #[.int .i64 mem, .int .i64 t0, .int .i64 t1, .int .i64 t2, .int .i64 t3, .int .i64 t4]] w fun e w' =>
      (e = .returned (.tuple #[.agg #[.int .i64 0, .slice none 0 0], .int .i64 41]) ∧ Below w.heap.size w w' ∧ askR code when stan (t0, t1, t2, t3, t4) = none) ∨
      ∃ F p c, askR code when stan (t0, t1, t2, t3, t4) = some F ∧ readR 500 F = ([t0, t1, t2, t3, t4], 0) ∧ SmallF F ∧ e = .returned (.tuple #[.agg #[.int .i64 500, .slice p 8 c], .int .i64 0]) ∧ FsAt w' (.slice p 8 c) F ∧ Below w.heap.size w w' :=
  (ask_any hT code when stan mem (t0, t1, t2, t3, t4) h0 h1 h2 h3 h4 (fun F h => checkAt_any (ask_small h s0 s1 s2) (by rw [ask_len8 h]; decide))).mono fun e w' h => by
    rcases h with ⟨h, rfl, b⟩ | ⟨F, v, h, rfl, hB, b⟩
    · exact .inl ⟨rfl, b, h⟩
    · have ha : askF code when stan (t0, t1, t2, t3, t4) = some F := by
        unfold askR at h
        cases e : askF code when stan (t0, t1, t2, t3, t4) with
        | none => rw [e] at h; cases h
        | some G =>
          rw [e, Option.bind_some] at h
          split at h
          · exact h
          · cases h
      have hl := ask_len8 ha
      have hf := hB.fs (by rw [hl]; decide)
      obtain ⟨p, c, rfl⟩ := hf.shape
      rw [hl] at hf ⊢
      exact .inr ⟨F, p, c, h, ask_read h4 h, ask_small ha s0 s1 s2, rfl, hf, b⟩
theorem read_ok {w : World} {v : Value} {F : Flds} (h : FsAt w v F) (hT : Tabs w) (hS : SmallF F) {t0 t1 t2 t3 t4 : Int} (hr : readR 500 F = ([t0, t1, t2, t3, t4], 0)) :
    Calls Tryd.prog 7 #[.agg #[.int .i64 500, v]] w fun e w' => e = .returned (.tuple #[.agg #[.int .i64 0, .int .i64 t0, .int .i64 t1, .int .i64 t2, .int .i64 t3, .int .i64 t4], .int .i64 0]) ∧ Below w.heap.size w w' :=
  (read_any h hT hS 500).mono fun e w' h => by
    rw [hr] at h
    exact h
theorem answer_s {w : World} {v vl : Value} {F : Flds} {L : List Tot} (h : FsAt w v F) (hT : Tabs w) (hS : SmallF F) (hL : TotsAt w vl L) (ty m dn : Int) (closed : Bool) (s : ByteArray) (hs : ansOf ty F m closed L = s) :
    Calls Tryd.prog 8 #[.agg #[.int .i64 ty, v], .int .i64 m, .agg #[.int .i64 dn, vl], .bool closed] w fun e w' => ∃ p n c G, e = .returned (.agg #[.int .i64 510, .slice p n c]) ∧ FsAt w' (.slice p n c) G ∧ getM G 39 = some s ∧ Below w.heap.size w w' :=
  (answer_any h hT hS hL ty m dn closed).mono fun e w' h => by
    obtain ⟨v', rfl, hB, b⟩ := h
    have e1 := answer_code ty F m closed L
    have e2 := answer_len ty F m closed L
    rw [hs] at e1
    have hf := hB.fs (by have h1 : one F 7 ≤ 1 := by { unfold one; split <;> omega }
                         have h2 : one F 11 ≤ 1 := by { unfold one; split <;> omega }
                         have h3 : one F 32 ≤ 1 := by { unfold one; split <;> omega }
                         simp only [maxLen]; omega)
    obtain ⟨p, c, rfl⟩ := hf.shape
    exact ⟨p, _, c, _, rfl, hf, e1, b⟩
theorem bal_none {L : List Tot} {m : Int} (t : Five) (h : ∀ j (hj : j < L.length), L[j].1 ≠ m) : balB L m t = false := by
  have : totAt L m = L.length := List.findIdx_eq_length.2 (fun x hx => by
    obtain ⟨j, hj, rfl⟩ := List.mem_iff_getElem.1 hx
    simpa using h j hj)
  unfold balB
  rw [this, List.getElem?_eq_none (Nat.le_refl _)]
theorem bal_some {L : List Tot} {m : Int} (t : Five) {k : Nat} (hk : k < L.length) (h : ∀ j (hj : j < L.length), j < k → L[j].1 ≠ m) (he : L[k].1 = m) : balB L m t = decide (L[k].2 = t) := by
  have : totAt L m = k := by
    refine (List.findIdx_eq hk).2 ⟨by simpa using he, fun j hj => ?_⟩
    simpa using h j (by omega) hj
  unfold balB
  rw [this, List.getElem?_eq_getElem hk]
set_option maxHeartbeats 4000000 in
set_option maxRecDepth 100000 in
theorem bal_any {w : World} {vl : Value} {L : List Tot} (hT : Tabs w) (hL : TotsAt w vl L) (code when stan : ByteArray) (mem t0 t1 t2 t3 t4 : Int) (s0 : code.size ≤ 100000000) (s1 : when.size ≤ 100000000) (s2 : stan.size ≤ 100000000) (h0 : okI t0) (h1 : okI t1) (h2 : okI t2) (h3 : okI t3) (h4 : okI t4) (m dn : Int) :
    Calls Tryd.prog 3 #[.agg #[.string code, .string when, .string stan, .int .i64 mem, .int .i64 t0, .int .i64 t1, .int .i64 t2, .int .i64 t3, .int .i64 t4], .int .i64 m, .agg #[.int .i64 dn, vl]] w fun e w' => e = .returned (.bool true) ∧ Below w.heap.size w w' := by
  obtain ⟨pl, cl, rfl⟩ := hL.shape
  obtain ⟨B, eB⟩ : ∃ b, w.heap.size = b := ⟨_, rfl⟩
  have a1 : Below w.heap.size w (w.alloc (.cells #[.string code, .string when, .string stan, .int .i64 mem, .int .i64 t0, .int .i64 t1, .int .i64 t2, .int .i64 t3, .int .i64 t4] 25)) := alloc_below _ _
  obtain ⟨w0, e0⟩ : ∃ W, (w.alloc (.cells #[.string code, .string when, .string stan, .int .i64 mem, .int .i64 t0, .int .i64 t1, .int .i64 t2, .int .i64 t3, .int .i64 t4] 25)).alloc (.cells #[.int .i64 dn, .slice pl L.length cl] 28) = W := ⟨_, rfl⟩
  have a2 : Below (w.alloc (.cells #[.string code, .string when, .string stan, .int .i64 mem, .int .i64 t0, .int .i64 t1, .int .i64 t2, .int .i64 t3, .int .i64 t4] 25)).heap.size (w.alloc (.cells #[.string code, .string when, .string stan, .int .i64 mem, .int .i64 t0, .int .i64 t1, .int .i64 t2, .int .i64 t3, .int .i64 t4] 25)) w0 := by rw [← e0]; exact alloc_below _ _
  have b0 : Below w.heap.size w w0 := a1.trans (a2.mono a1.size)
  have k0 : StIn w0 B code when stan mem (t0, t1, t2, t3, t4) := by
    have hk := heap_alloc_last w (.cells #[.string code, .string when, .string stan, .int .i64 mem, .int .i64 t0, .int .i64 t1, .int .i64 t2, .int .i64 t3, .int .i64 t4] 25)
    rw [← eB]
    exact StIn.below ⟨(cells_at hk 0).trans rfl, (cells_at hk 1).trans rfl, (cells_at hk 2).trans rfl, (cells_at hk 3).trans rfl, (cells_at hk 4).trans rfl, (cells_at hk 5).trans rfl, (cells_at hk 6).trans rfl, (cells_at hk 7).trans rfl, (cells_at hk 8).trans rfl⟩ a2
  have k1 : MsgIn w0 (B + 1) dn (.slice pl L.length cl) := by
    have := heap_alloc_last (w.alloc (.cells #[.string code, .string when, .string stan, .int .i64 mem, .int .i64 t0, .int .i64 t1, .int .i64 t2, .int .i64 t3, .int .i64 t4] 25)) (.cells #[.int .i64 dn, .slice pl L.length cl] 28)
    rw [e0, show (w.alloc (.cells #[.string code, .string when, .string stan, .int .i64 mem, .int .i64 t0, .int .i64 t1, .int .i64 t2, .int .i64 t3, .int .i64 t4] 25)).heap.size = B + 1 by rw [← eB]; simp] at this
    exact ⟨(cells_at this 0).trans rfl, (cells_at this 1).trans rfl⟩
  have HC := Lib.hid (shown_any (hT.below b0))
  have HL := Lib.hid (hL.below b0)
  have HT := Lib.hid (hT.below b0)
  have HB0 := Lib.hid b0
  have K0 := Lib.hid k0
  have K1 := Lib.hid k1
  have E0 := Lib.hid e0
  have HO := Lib.hid (And.intro (And.intro s0 (And.intro s1 s2)) (And.intro h0 (And.intro h1 (And.intro h2 (And.intro h3 h4)))))
  clear hL hT b0 a1 a2 k0 k1 e0 s0 s1 s2 h0 h1 h2 h3 h4
  go_enter Tryd.func3, Tryd.ntmps3
  go_wp2_with fail
  rw [E0.out]
  refine HC.out.mono ?_
  rintro e w1 ⟨rfl, b1⟩
  have HK := Lib.hid (K0.out.below b1)
  obtain ⟨c0, c1, c2, c3, c4, c5, c6, c7, c8⟩ := HK.out
  have HA := Lib.hid (ask_all (HT.out.below b1) code when stan mem t0 t1 t2 t3 t4 HO.out.1.1 HO.out.1.2.1 HO.out.1.2.2 HO.out.2.1 HO.out.2.2.1 HO.out.2.2.2.1 HO.out.2.2.2.2.1 HO.out.2.2.2.2.2)
  have K2 := Lib.hid (K1.out.below b1)
  have HT1 := Lib.hid (HT.out.below b1)
  have HL1 := Lib.hid (HL.out.below b1)
  have HB1 := Lib.hid (HB0.out.trans (b1.mono HB0.out.size))
  clear HL HT HB0 K0 K1 E0 HC b1
  go_wp2_with fail
  refine HA.out.mono ?_
  rintro e w2 (⟨rfl, b1, _⟩ | ⟨F, p, c, _, hr, hS, rfl, hF, b1⟩)
  · have HB2 := Lib.hid (HB1.out.trans ((b1.trans ((alloc_below w2 (.cells #[.int .i64 0, .slice none 0 0] 32)).mono b1.size)).mono HB1.out.size))
    clear c0 c1 c2 c3 c4 c5 c6 c7 c8 HA b1
    go_wp2_with fail
    go_ret
    exact ⟨rfl, HB2.out⟩
  · clear c0 c1 c2 c3 c4 c5 c6 c7 c8 HA
    have b2 : Below w2.heap.size w2 (w2.alloc (.cells #[.int .i64 500, .slice p 8 c] 32)) := alloc_below _ _
    have b3 : Below w1.heap.size w1 (w2.alloc (.cells #[.int .i64 500, .slice p 8 c] 32)) := b1.trans (b2.mono b1.size)
    have HM := Lib.hid (msgIn_new w2 500 (.slice p 8 c))
    have HK1 := Lib.hid (HK.out.below b3)
    have K3 := Lib.hid (K2.out.below b3)
    have HF := Lib.hid (hF.below b2)
    have HT2 := Lib.hid (HT1.out.below b3)
    have HL2 := Lib.hid (HL1.out.below b3)
    have HB2 := Lib.hid (HB1.out.trans (b3.mono HB1.out.size))
    have HR := Lib.hid hr
    have HS := Lib.hid hS
    clear b1 b2 b3 hr hS hF HK K2 HT1 HL1 HB1
    go_wp2_with fail
    refine (read_ok HF.out HT2.out HS.out HR.out).mono ?_
    rintro e w3 ⟨rfl, b1⟩
    have b2 : Below w3.heap.size w3 (w3.alloc (.cells #[.int .i64 0, .int .i64 t0, .int .i64 t1, .int .i64 t2, .int .i64 t3, .int .i64 t4] 23)) := alloc_below _ _
    have b3 : Below (w2.alloc (.cells #[.int .i64 500, .slice p 8 c] 32)).heap.size (w2.alloc (.cells #[.int .i64 500, .slice p 8 c] 32)) (w3.alloc (.cells #[.int .i64 0, .int .i64 t0, .int .i64 t1, .int .i64 t2, .int .i64 t3, .int .i64 t4] 23)) := b1.trans (b2.mono b1.size)
    obtain ⟨c0, c1, c2, c3, c4, c5, c6, c7, c8⟩ := HK1.out.below b3
    have b4 : Below (w3.alloc (.cells #[.int .i64 0, .int .i64 t0, .int .i64 t1, .int .i64 t2, .int .i64 t3, .int .i64 t4] 23)).heap.size (w3.alloc (.cells #[.int .i64 0, .int .i64 t0, .int .i64 t1, .int .i64 t2, .int .i64 t3, .int .i64 t4] 23)) ((w3.alloc (.cells #[.int .i64 0, .int .i64 t0, .int .i64 t1, .int .i64 t2, .int .i64 t3, .int .i64 t4] 23)).alloc (.cells #[.int .i64 0, .int .i64 t0, .int .i64 t1, .int .i64 t2, .int .i64 t3, .int .i64 t4] 23)) := alloc_below _ _
    have b5 : Below (w2.alloc (.cells #[.int .i64 500, .slice p 8 c] 32)).heap.size (w2.alloc (.cells #[.int .i64 500, .slice p 8 c] 32)) ((w3.alloc (.cells #[.int .i64 0, .int .i64 t0, .int .i64 t1, .int .i64 t2, .int .i64 t3, .int .i64 t4] 23)).alloc (.cells #[.int .i64 0, .int .i64 t0, .int .i64 t1, .int .i64 t2, .int .i64 t3, .int .i64 t4] 23)) := b3.trans (b4.mono b3.size)
    have HMa := Lib.hid (HM.out.below b5)
    have HDa := Lib.hid (K3.out.below b5)
    obtain ⟨m0, m1⟩ := HMa.out
    obtain ⟨d0, d1⟩ := HDa.out
    have HFa := Lib.hid (HF.out.below b5)
    have HTa := Lib.hid (HT2.out.below b5)
    have HLa := Lib.hid (HL2.out.below b5)
    have HBa := Lib.hid (HB2.out.trans (b5.mono HB2.out.size))
    obtain ⟨X, eX⟩ : ∃ X, w3.heap.size = X := ⟨_, rfl⟩
    have HWa := Lib.hid (show TotIn ((w3.alloc (.cells #[.int .i64 0, .int .i64 t0, .int .i64 t1, .int .i64 t2, .int .i64 t3, .int .i64 t4] 23)).alloc (.cells #[.int .i64 0, .int .i64 t0, .int .i64 t1, .int .i64 t2, .int .i64 t3, .int .i64 t4] 23)) (X + 1) 0 (0, t0, t1, t2, t3, t4) from by
      have k0 := heap_alloc_last (w3.alloc (.cells #[.int .i64 0, .int .i64 t0, .int .i64 t1, .int .i64 t2, .int .i64 t3, .int .i64 t4] 23)) (.cells #[.int .i64 0, .int .i64 t0, .int .i64 t1, .int .i64 t2, .int .i64 t3, .int .i64 t4] 23)
      rw [show (w3.alloc (.cells #[.int .i64 0, .int .i64 t0, .int .i64 t1, .int .i64 t2, .int .i64 t3, .int .i64 t4] 23)).heap.size = X + 1 by rw [← eX]; simp] at k0
      exact ⟨(cells_at k0 0).trans rfl, (cells_at k0 1).trans rfl, (cells_at k0 2).trans rfl, (cells_at k0 3).trans rfl, (cells_at k0 4).trans rfl, (cells_at k0 5).trans rfl⟩)
    clear b1 b2 b3 b4 b5 HM K3 HF HT2 HL2 HB2 HK1
    go_wp2_with fail
    obtain ⟨bb, ebb⟩ : ∃ bb, balB L m (t0, t1, t2, t3, t4) = bb := ⟨_, rfl⟩
    obtain ⟨S, HA0⟩ : ∃ S, S = if bb = true then (⟨#[48, 48]⟩ : ByteArray) else ⟨#[57, 53]⟩ := ⟨_, rfl⟩
    clear m0 m1 d0 d1 c0 c1 c2 c3 c4 c5 c6 c7 c8
    refine (answer_s HFa.out HTa.out HS.out HLa.out 500 m dn true S (by rw [HA0, ← ebb]; exact ans_true (t := (t0, t1, t2, t3, t4)) HR.out L m)).mono ?_
    rintro e w5 ⟨p5, n5, c5, G5, rfl, hG5, g39, f1⟩
    have HBB := Lib.hid ebb
    have HAS := Lib.hid HA0
    clear HA0
    clear ebb
    have f2 : Below w5.heap.size w5 (w5.alloc (.cells #[.int .i64 510, .slice p5 n5 c5] 32)) := alloc_below _ _
    have f3 := f1.trans (f2.mono f1.size)
    have HG5 := Lib.hid (hG5.below f2)
    have HM5 := Lib.hid (msgIn_new w5 510 (.slice p5 n5 c5))
    have HMb := Lib.hid (HMa.out.below f3)
    have HDb := Lib.hid (HDa.out.below f3)
    have HFb := Lib.hid (HFa.out.below f3)
    have HTb := Lib.hid (HTa.out.below f3)
    have HLb := Lib.hid (HLa.out.below f3)
    have HWb := Lib.hid (HWa.out.below f3)
    have HBb := Lib.hid (HBa.out.trans (f3.mono HBa.out.size))
    clear f1 f2 f3 hG5 HMa HDa HFa HTa HLa HWa HBa
    go_wp2_with fail
    refine (rget_is HG5.out 510 39 _ g39).mono ?_
    rintro e w6 ⟨rfl, f1⟩
    have HMc := Lib.hid (HMb.out.below f1)
    have HDc := Lib.hid (HDb.out.below f1)
    have HFc := Lib.hid (HFb.out.below f1)
    have HTc := Lib.hid (HTb.out.below f1)
    have HLc := Lib.hid (HLb.out.below f1)
    have HWc := Lib.hid (HWb.out.below f1)
    have HBc := Lib.hid (HBb.out.trans (f1.mono HBb.out.size))
    clear f1 HMb HDb HFb HTb HLb HWb HBb HG5 HM5 g39
    go_wp2_with fail
    go_loopw [17, 16] (fun i b wr => ∃ k : Nat, k ≤ L.length ∧ i = .int .i64 k ∧ b = .bool false ∧ (∀ j (hj : j < L.length), j < k → L[j].1 ≠ m) ∧ Below w6.heap.size w6 wr) (fun i _ _ => L.length - (intOf i).toNat)
    case atStart => exact ⟨0, by omega, rfl, rfl, fun j _ h => absurd h (by omega), Below.refl _ _⟩
    case round =>
      obtain ⟨k, hk, rfl, rfl, hno, hbw⟩ := hrel
      obtain ⟨d0, d1⟩ := HDc.out.below hbw
      have hmax := HLc.out.1
      simp only [maxLen] at hmax
      by_cases hlt : k < L.length
      · have hlt' : (k : Int) < L.length := by omega
        obtain ⟨b, o, rfl, q⟩ := (HLc.out.below hbw).get k hlt
        have HQ := Lib.hid q
        obtain ⟨q0, q1, q2, q3, q4, q5⟩ := q
        have hnx : L[k].1 = m → balB L m (t0, t1, t2, t3, t4) = decide (L[k].2 = (t0, t1, t2, t3, t4)) := fun h => bal_some _ hlt hno h
        have hno2 : L[k].1 ≠ m → ∀ j (hj : j < L.length), j < k + 1 → L[j].1 ≠ m := fun h j hj hj2 => by
          rcases Nat.lt_or_ge j k with h1 | h1
          · exact hno j hj h1
          · obtain rfl : j = k := by omega
            exact h
        obtain ⟨x, ex⟩ : ∃ x, x = L[k] := ⟨_, rfl⟩
        rw [← ex] at q0 q1 q2 q3 q4 q5 hnx hno2 HQ
        obtain ⟨y0, y1, y2, y3, y4, y5⟩ := x
        dsimp only at q0 q1 q2 q3 q4 q5 hnx hno2
        have HNX := Lib.hid hnx
        have HNO := Lib.hid hno2
        have HBW := Lib.hid hbw
        clear ex hnx hno2 hno
        by_cases hm : y0 = m
        · have hd : decide (y0 = m) = true := decide_eq_true hm
          have r1 := alloc_below wr (.cells #[.int .i64 y0, .int .i64 y1, .int .i64 y2, .int .i64 y3, .int .i64 y4, .int .i64 y5] 23)
          have r2 := alloc_below wr (.cells #[.int .i64 0, .int .i64 y1, .int .i64 y2, .int .i64 y3, .int .i64 y4, .int .i64 y5] 23)
          have r3 := hbw.trans (r2.mono hbw.size)
          obtain ⟨v0, v1, v2, v3, v4, v5⟩ := HWc.out.below r3
          simp only [Nat.zero_add] at v0 v1 v2 v3 v4 v5
          have hq : ∀ W : World, (binOp .eql 23 (.agg #[.int .i64 0, .int .i64 y1, .int .i64 y2, .int .i64 y3, .int .i64 y4, .int .i64 y5]) (.agg #[.int .i64 0, .int .i64 t0, .int .i64 t1, .int .i64 t2, .int .i64 t3, .int .i64 t4])).run Tryd.prog W = .ok (.bool bb) W := fun W => by
            have := eq_tot (0, y1, y2, y3, y4, y5) (0, t0, t1, t2, t3, t4) W
            rw [← HBB.out, HNX.out hm]
            rw [show decide ((0, y1, y2, y3, y4, y5) = ((0, t0, t1, t2, t3, t4) : Tot)) = decide ((y1, y2, y3, y4, y5) = (t0, t1, t2, t3, t4)) by simp] at this
            exact this
          subst hm
          have HMx := Lib.hid (HMc.out.below r3)
          have HDx := Lib.hid (HDc.out.below r3)
          have HFx := Lib.hid (HFc.out.below r3)
          have HTx := Lib.hid (HTc.out.below r3)
          have HLx := Lib.hid (HLc.out.below r3)
          have HBx := Lib.hid (HBc.out.trans ((r3).mono HBc.out.size))
          clear HMc HDc HFc HTc HLc HBc HWc
          obtain ⟨m0, m1⟩ := HMx.out
          obtain ⟨d0', d1'⟩ := HDx.out
          go_wp2_with fail
          refine (answer_s HFx.out HTx.out HS.out HLx.out 500 y0 dn false _ (ans_false (t := (t0, t1, t2, t3, t4)) HR.out L y0)).mono ?_
          rintro e w7 ⟨p6, n6, c6, G6, rfl, hG6, g39, f1⟩
          clear m0 m1 d0' d1' 
          have f2 : Below w7.heap.size w7 (w7.alloc (.cells #[.int .i64 510, .slice p6 n6 c6] 32)) := alloc_below _ _
          have HG6 := Lib.hid (hG6.below f2)
          have HM6 := Lib.hid (msgIn_new w7 510 (.slice p6 n6 c6))
          have HB7 := Lib.hid (HBx.out.trans ((f1.trans (f2.mono f1.size)).mono HBx.out.size))
          clear f1 f2 hG6 HMx HDx HFx HTx HLx HBx
          go_wp2_with fail
          refine (rget_is HG6.out 510 39 _ g39).mono ?_
          rintro e w8 ⟨rfl, f1⟩
          have HB8 := Lib.hid (HB7.out.trans (f1.mono HB7.out.size))
          clear f1 HB7
          cases bb
          · obtain rfl : S = ⟨#[57, 53]⟩ := HAS.out.trans (if_neg (by simp))
            go_wp2_with fail
            go_ret
            exact ⟨rfl, HB8.out⟩
          · obtain rfl : S = ⟨#[48, 48]⟩ := HAS.out.trans (if_pos rfl)
            go_wp2_with fail
            go_ret
            exact ⟨rfl, HB8.out⟩
        · have hd : decide (y0 = m) = false := decide_eq_false hm
          go_wp2_with fail
          go_roundw
          case rel => exact ⟨k + 1, by omega, by go_num, rfl, HNO.out hm, HBW.out⟩
          case measure => simp [intOf]; omega
      · obtain rfl : k = L.length := by omega
        have hlt' : ¬ (L.length : Int) < L.length := by omega
        have hf : bb = false := by rw [← HBB.out]; exact bal_none _ (fun j hj => hno j hj hj)
        subst hf
        have HMx := Lib.hid (HMc.out.below hbw)
        have HDx := Lib.hid (HDc.out.below hbw)
        have HFx := Lib.hid (HFc.out.below hbw)
        have HTx := Lib.hid (HTc.out.below hbw)
        have HLx := Lib.hid (HLc.out.below hbw)
        have HBx := Lib.hid (HBc.out.trans ((hbw).mono HBc.out.size))
        clear HMc HDc HFc HTc HLc HBc HWc
        clear d0 d1
        obtain ⟨m0, m1⟩ := HMx.out
        obtain ⟨d0, d1⟩ := HDx.out
        go_wp2_with fail
        refine (answer_s HFx.out HTx.out HS.out HLx.out 500 m dn false _ (ans_false (t := (t0, t1, t2, t3, t4)) HR.out L m)).mono ?_
        rintro e w7 ⟨p6, n6, c6, G6, rfl, hG6, g39, f1⟩
        clear m0 m1 d0 d1
        have f2 : Below w7.heap.size w7 (w7.alloc (.cells #[.int .i64 510, .slice p6 n6 c6] 32)) := alloc_below _ _
        have HG6 := Lib.hid (hG6.below f2)
        have HM6 := Lib.hid (msgIn_new w7 510 (.slice p6 n6 c6))
        have HB7 := Lib.hid (HBx.out.trans ((f1.trans (f2.mono f1.size)).mono HBx.out.size))
        clear f1 f2 hG6 HMx HDx HFx HTx HLx HBx
        go_wp2_with fail
        refine (rget_is HG6.out 510 39 _ g39).mono ?_
        rintro e w8 ⟨rfl, f1⟩
        have HB8 := Lib.hid (HB7.out.trans (f1.mono HB7.out.size))
        clear f1 HB7
        obtain rfl : S = ⟨#[57, 53]⟩ := HAS.out.trans (if_neg (by simp))
        go_wp2_with fail
        go_ret
        exact ⟨rfl, HB8.out⟩
end Go.Proofs.YtjndfmpicnkplaaDoor.msgw
