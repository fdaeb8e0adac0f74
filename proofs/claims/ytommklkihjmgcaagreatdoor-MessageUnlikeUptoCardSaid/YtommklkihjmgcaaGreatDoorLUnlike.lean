/- Layer 5: MessageUnlike, MessageApart, walked. Conditions: as each theorem says. -/
import Derived.Test.YtommklkihjmgcaaGreatDoorLShort
namespace Go.Proofs.YtommklkihjmgcaaGreatDoor.msgw
open Go.RowKit Go.Proofs.YtommklkihjmgcaaGreatDoorW.PrintWords Go.Proofs.YtommklkihjmgcaaGreatDoor.msgp Go.Proofs.YtommklkihjmgcaaGreatDoor.buf Go.Proofs.YtommklkihjmgcaaGreatDoor.fieldp Go.Proofs.YtommklkihjmgcaaGreatDoor.fieldw Go.Proofs.YtommklkihjmgcaaGreatDoor.fieldl
theorem same_w {W : World} {v1 v2 : Value} {F1 F2 : Flds} (h1 : FsAt W v1 F1) (h2 : FsAt W v2 F2) (hl : F1.length ≤ 1048576) (t1 t2 : Int) {b : Bool} (hb : (decide (t1 = t2) && decide (F1 = F2)) = b) :
    Calls Tryz.prog 18 #[.agg #[.int .i64 t1, v1], .agg #[.int .i64 t2, v2]] W fun e w' => e = .returned (.bool b) ∧ Below W.heap.size W w' :=
  (same_any h1 h2 hl t1 t2).mono fun e w' h => by rw [hb] at h; exact h
theorem conv_w {w : World} {lo : Nat} {A : Option Addr} {c : Nat} {l : List UInt8} (h : Txt w lo (.slice A l.length c) l) {s : ByteArray} (hs : (⟨l.toArray⟩ : ByteArray) = s) : (convert 33 9 (.slice A l.length c)).run Tryz.prog w = .ok (.string s) w := by
  rw [← hs]; exact convC h.at_.2.2
theorem str_ne {a b : List UInt8} (h : a ≠ b) : ((⟨a.toArray⟩ : ByteArray).toList == (⟨b.toArray⟩ : ByteArray).toList) = false := by
  rw [ByteArray.toList_eq, ByteArray.toList_eq]
  simpa using h
set_option maxHeartbeats 4000000 in
set_option maxRecDepth 100000 in
theorem unlike_any {w : World} {v u : Value} {F G : Flds} (h : FsAt w v F) (h2 : FsAt w u G) (hT : Tabs5 w) (hl : F.length ≤ 1048576) (hS : ∀ x ∈ F, x.2.size ≤ 100000000) (hS2 : ∀ x ∈ G, x.2.size ≤ 100000000) (d ta tb : Int) :
    Calls Tryz.prog 6 #[.int .i64 d, .agg #[.int .i64 ta, v], .agg #[.int .i64 tb, u]] w fun e w' => e = .returned (.bool true) ∧ Below w.heap.size w w' := by
  obtain ⟨p, c, rfl⟩ := h.shape
  obtain ⟨q, g, rfl⟩ := h2.shape
  obtain ⟨wa, ea⟩ : ∃ W, w.alloc (.cells #[.int .i64 ta, .slice p F.length c] 24) = W := ⟨_, rfl⟩
  have a1 : Below w.heap.size w wa := by rw [← ea]; exact alloc_below _ _
  have ka : MsgIn wa w.heap.size ta (.slice p F.length c) := by rw [← ea]; exact msgIn_new w ta _
  have hsa : wa.heap.size = w.heap.size + 1 := by rw [← ea]; simp
  obtain ⟨w0, e0⟩ : ∃ W, wa.alloc (.cells #[.int .i64 tb, .slice q G.length g] 24) = W := ⟨_, rfl⟩
  have a2 : Below wa.heap.size wa w0 := by rw [← e0]; exact alloc_below _ _
  have b0 := a1.trans (a2.mono a1.size)
  have k0 := ka.below a2
  have k1 : MsgIn w0 (w.heap.size + 1) tb (.slice q G.length g) := by rw [← hsa, ← e0]; exact msgIn_new wa tb _
  rw [← ea] at e0
  have HT := Lib.hid (hT.below b0)
  have HF := Lib.hid (h.below b0)
  have HG := Lib.hid (h2.below b0)
  have HB0 := Lib.hid b0
  have K0 := Lib.hid k0
  have K1 := Lib.hid k1
  have E0 := Lib.hid e0
  have HS := Lib.hid hS
  have HS2 := Lib.hid hS2
  clear h h2 hT hS hS2 b0 k0 k1 e0 a1 a2 ka hsa ea
  go_enter Tryz.func6, Tryz.ntmps6
  go_wp2_with fail
  rw [E0.out]
  refine (shown_any HT.out).mono ?_
  rintro e w1 ⟨rfl, b1⟩
  have HF1 := Lib.hid (HF.out.below b1)
  have HG1 := Lib.hid (HG.out.below b1)
  have HT1 := Lib.hid (HT.out.below b1)
  have HB1 := Lib.hid (HB0.out.trans (b1.mono HB0.out.size))
  have K01 := Lib.hid (K0.out.below b1)
  have K11 := Lib.hid (K1.out.below b1)
  clear b1 HF HG HB0 K0 K1 E0 HT
  obtain ⟨m0, m1⟩ := K01.out
  obtain ⟨L, eL⟩ : ∃ l, (encR d ta F).1 = l := ⟨_, rfl⟩
  obtain ⟨N, eN⟩ : ∃ n, (encR d ta F).2 = n := ⟨_, rfl⟩
  obtain ⟨L2, eL2⟩ : ∃ l, (encR d tb G).1 = l := ⟨_, rfl⟩
  obtain ⟨N2, eN2⟩ : ∃ n, (encR d tb G).2 = n := ⟨_, rfl⟩
  obtain ⟨S, eS⟩ : ∃ b, (decide (ta = tb) && decide (F = G)) = b := ⟨_, rfl⟩
  have HL := Lib.hid eL
  have HN := Lib.hid eN
  have HL2 := Lib.hid eL2
  have HN2 := Lib.hid eN2
  have HSa := Lib.hid eS
  clear eL eN eL2 eN2 eS
  go_wp2_with fail
  refine (enc_w HF1.out HT1.out HS.out d ta HL.out HN.out).mono ?_
  rintro e w2 ⟨A, cc, rfl, hX, b2⟩
  have HB2 := Lib.hid (HB1.out.trans (b2.mono HB1.out.size))
  have HT2 := Lib.hid (HT1.out.below b2)
  have HF2 := Lib.hid (HF1.out.below b2)
  have HG2 := Lib.hid (HG1.out.below b2)
  have K02 := Lib.hid (K01.out.below b2)
  have K12 := Lib.hid (K11.out.below b2)
  have HX2 := Lib.hid hX
  clear b2 hX m0 m1 HF1 HG1 HT1 HB1 K01 K11
  obtain ⟨m0, m1⟩ := K12.out
  go_wp2_with fail
  refine (enc_w HG2.out HT2.out HS2.out d tb HL2.out HN2.out).mono ?_
  rintro e w3 ⟨A2, cc2, rfl, hY, b3⟩
  have HB3 := Lib.hid (HB2.out.trans (b3.mono HB2.out.size))
  have HF3 := Lib.hid (HF2.out.below b3)
  have HG3 := Lib.hid (HG2.out.below b3)
  have K03 := Lib.hid (K02.out.below b3)
  have K13 := Lib.hid (K12.out.below b3)
  have HX3 := Lib.hid (HX2.out.below b3)
  have HY3 := Lib.hid hY
  clear b3 hY m0 m1 HF2 HG2 HT2 HB2 K02 K12 HX2
  obtain ⟨m0, m1⟩ := K03.out
  obtain ⟨n0, n1⟩ := K13.out
  go_wp2_with fail
  refine (same_w HF3.out HG3.out hl ta tb HSa.out).mono ?_
  rintro e w4 ⟨rfl, b4⟩
  have HB4 := Lib.hid (HB3.out.trans (b4.mono HB3.out.size))
  have HX4 := Lib.hid (HX3.out.below b4)
  have HY4 := Lib.hid (HY3.out.below b4)
  clear b4 m0 m1 n0 n1 HF3 HG3 HB3 K03 K13 HX3 HY3
  by_cases hN : N = 0
  · by_cases hN2 : N2 = 0
    · subst hN hN2
      have hu := rt_unlike HN.out HN2.out
      rw [HL.out, HL2.out] at hu
      by_cases he : L = L2
      · have hS1 : S = true := by
          obtain ⟨e1, e2⟩ := hu.1 he
          rw [← HSa.out, e1, e2]
          simp
        subst hS1
        obtain ⟨s, es⟩ : ∃ s : ByteArray, (⟨L.toArray⟩ : ByteArray) = s := ⟨_, rfl⟩
        have hc1 := conv_w HX4.out es
        have hc2 := conv_w (s := s) HY4.out (by rw [← es, he])
        clear hu he es
        go_wp2_with fail
        go_ret
        exact ⟨rfl, HB4.out⟩
      · have hS1 : S = false := by
          rw [← HSa.out]
          cases hb : (decide (ta = tb) && decide (F = G)) with
          | false => rfl
          | true =>
            simp only [Bool.and_eq_true, decide_eq_true_eq] at hb
            exact absurd (hu.2 hb) he
        subst hS1
        have hne := str_ne he
        obtain ⟨s, es⟩ : ∃ s : ByteArray, (⟨L.toArray⟩ : ByteArray) = s := ⟨_, rfl⟩
        obtain ⟨s2, es2⟩ : ∃ s : ByteArray, (⟨L2.toArray⟩ : ByteArray) = s := ⟨_, rfl⟩
        have hc1 := conv_w HX4.out es
        have hc2 := conv_w HY4.out es2
        rw [es, es2] at hne
        clear hu he es es2
        go_wp2_with fail
        go_ret
        exact ⟨rfl, HB4.out⟩
    · have hb2 : (N2 == 0) = false := by simpa using hN2
      subst hN
      go_wp2_with fail
      go_ret
      exact ⟨rfl, HB4.out⟩
  · have hb1 : (N == 0) = false := by simpa using hN
    go_wp2_with fail
    go_ret
    exact ⟨rfl, HB4.out⟩
set_option maxHeartbeats 4000000 in
set_option maxRecDepth 100000 in
theorem apart_any {w : World} {v : Value} {F : Flds} (h : FsAt w v F) (hT : Tabs5 w) (hS : ∀ x ∈ F, x.2.size ≤ 100000000) (ty one two : Int) :
    Calls Tryz.prog 7 #[.agg #[.int .i64 ty, v], .int .i64 one, .int .i64 two] w fun e w' => e = .returned (.bool true) ∧ Below w.heap.size w w' := by
  obtain ⟨p, c, rfl⟩ := h.shape
  obtain ⟨w0, e0⟩ : ∃ W, w.alloc (.cells #[.int .i64 ty, .slice p F.length c] 24) = W := ⟨_, rfl⟩
  have b0 : Below w.heap.size w w0 := by rw [← e0]; exact alloc_below _ _
  have k0 : MsgIn w0 w.heap.size ty (.slice p F.length c) := by rw [← e0]; exact msgIn_new w ty _
  have HT := Lib.hid (hT.below b0)
  have HF := Lib.hid (h.below b0)
  have HB0 := Lib.hid b0
  have K0 := Lib.hid k0
  have E0 := Lib.hid e0
  have HS := Lib.hid hS
  clear h hT hS b0 k0 e0
  go_enter Tryz.func7, Tryz.ntmps7
  go_wp2_with fail
  rw [E0.out]
  refine (shown_any HT.out).mono ?_
  rintro e w1 ⟨rfl, b1⟩
  have HF1 := Lib.hid (HF.out.below b1)
  have HT1 := Lib.hid (HT.out.below b1)
  have HB1 := Lib.hid (HB0.out.trans (b1.mono HB0.out.size))
  have K1 := Lib.hid (K0.out.below b1)
  clear b1 HF HB0 K0 E0 HT
  obtain ⟨m0, m1⟩ := K1.out
  obtain ⟨L, eL⟩ : ∃ l, (encR one ty F).1 = l := ⟨_, rfl⟩
  obtain ⟨N, eN⟩ : ∃ n, (encR one ty F).2 = n := ⟨_, rfl⟩
  have HL := Lib.hid eL
  have HN := Lib.hid eN
  clear eL eN
  go_wp2_with fail
  refine (enc_w HF1.out HT1.out HS.out one ty HL.out HN.out).mono ?_
  rintro e w2 ⟨A, cc, rfl, hX, b2⟩
  have HB2 := Lib.hid (HB1.out.trans (b2.mono HB1.out.size))
  have HT2 := Lib.hid (HT1.out.below b2)
  have HX := Lib.hid hX
  clear b2 hX m0 m1 HF1 HT1 HB1 K1
  by_cases hN : N = 0
  · subst hN
    by_cases h12 : one = two
    · go_wp2_with fail
      go_ret
      exact ⟨rfl, HB2.out⟩
    · by_cases h1 : two < 1
      · go_wp2_with fail
        go_ret
        exact ⟨rfl, HB2.out⟩
      · by_cases h3 : 3 < two
        · go_wp2_with fail
          go_ret
          exact ⟨rfl, HB2.out⟩
        · obtain ⟨n, hn, hd⟩ := rt_apart HN.out h12 (two := two) (by omega)
          rw [HL.out] at hd
          have HD := Lib.hid hd
          have hb1 : (n == 0) = false := by simpa using hn
          have hb2 : (n != 0) = true := by simpa using hn
          have g1 : (one == two) = false := by simpa using h12
          have g2 : decide (two < 1) = false := by simpa using h1
          have g3 : decide (3 < two) = false := by simpa using h3
          clear hd h1 h3
          go_wp2_with fail
          refine (dec_w HX.out HT2.out two HD.out (by decide)).mono ?_
          rintro e w3 ⟨p3, c3, rfl, hF3, b3⟩
          obtain ⟨w4, e4⟩ : ∃ W, w3.alloc (.cells #[.int .i64 0, .slice p3 0 c3] 24) = W := ⟨_, rfl⟩
          have b4 : Below w3.heap.size w3 w4 := by rw [← e4]; exact alloc_below _ _
          have b34 := b3.trans (b4.mono b3.size)
          have HB4 := Lib.hid (HB2.out.trans (b34.mono HB2.out.size))
          have HC := Lib.hid (same_none (hF3.below b4))
          clear b3 b4 b34 hF3
          subst e4
          go_wp2_with fail
          refine HC.out.mono ?_
          rintro e w5 ⟨rfl, b5⟩
          have HB5 := Lib.hid (HB4.out.trans (b5.mono HB4.out.size))
          clear b5
          go_wp2_with fail
          go_ret
          exact ⟨rfl, HB5.out⟩
  · have hb1 : (N == 0) = false := by simpa using hN
    go_wp2_with fail
    go_ret
    exact ⟨rfl, HB2.out⟩
end Go.Proofs.YtommklkihjmgcaaGreatDoor.msgw
