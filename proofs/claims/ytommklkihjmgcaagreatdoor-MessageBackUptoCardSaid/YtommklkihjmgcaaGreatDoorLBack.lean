/- Layer 5: MessageBack, walked. Conditions: as each theorem says. -/
import Derived.Test.YtommklkihjmgcaaGreatDoorRefEncX
import Derived.Test.YtommklkihjmgcaaGreatDoorLawY
namespace Go.Proofs.YtommklkihjmgcaaGreatDoor.msgr
open Go.RowKit Go.Proofs.YtommklkihjmgcaaGreatDoorW.PrintWords Go.Proofs.YtommklkihjmgcaaGreatDoor.fieldp Go.Proofs.YtommklkihjmgcaaGreatDoor.fieldw Go.Proofs.YtommklkihjmgcaaGreatDoor.fieldl Go.Proofs.YtommklkihjmgcaaGreatDoor.msgp Go.Proofs.YtommklkihjmgcaaGreatDoor.msgw Go.Proofs.YtommklkihjmgcaaGreatDoor.buf
theorem get_rising : ∀ {F : Flds}, (F.map (·.1)).Pairwise (· < ·) → ∀ x ∈ F, getM F x.1 = some x.2
  | [], _, x, hx => by cases hx
  | y :: r, h, x, hx => by
    rw [List.map_cons, List.pairwise_cons] at h
    unfold getM
    rcases List.mem_cons.1 hx with rfl | hx
    · rw [List.find?_cons_of_pos (by simp)]
      rfl
    · have := h.1 x.1 (List.mem_map.2 ⟨x, hx, rfl⟩)
      rw [List.find?_cons_of_neg (by simp; omega)]
      exact get_rising h.2 x hx
theorem back_two {one ty : Int} {F : Flds} (h : (encR one ty F).2 = 0) (two : Int) :
    (¬ (1 ≤ two ∧ two ≤ 3) ∧ (encR two ty F).2 = 50) ∨ ((1 ≤ two ∧ two ≤ 3) ∧ (encR two ty F).2 = 0) ∨ (two = 3 ∧ (encR two ty F).2 = 41 ∧ ∃ s, getM F 4 = some s ∧ 2 ≤ s.size ∧ s.extract 0 2 ≠ ⟨#[48, 48]⟩) := by
  obtain ⟨_, he, _⟩ := enc_ok h
  obtain ⟨h1, h2, herr, hok⟩ := encE_none he
  have hck : checkM ty F = none := by unfold checkM; rw [h1, if_neg (by decide), if_neg (by omega), herr]
  by_cases hd : 1 ≤ two ∧ two ≤ 3
  · right
    unfold encR
    rw [if_pos hd]
    unfold encE
    rw [hck]
    simp only
    cases hb : F.any (badA (dia two).2.2) with
    | false => left; exact ⟨hd, rfl⟩
    | true =>
      right
      obtain ⟨x, hx, hbx⟩ := List.any_eq_true.1 hb
      unfold badA at hbx
      simp only [decide_eq_true_eq] at hbx
      obtain ⟨e4, ho, hne⟩ := hbx
      have h3 : two = 3 := by
        have : two = 1 ∨ two = 2 ∨ two = 3 := by omega
        rcases this with rfl | rfl | rfl
        · exact absurd ho (by decide)
        · exact absurd ho (by decide)
        · rfl
      subst h3
      refine ⟨rfl, rfl, x.2, ?_, ?_, hne⟩
      · rw [← e4]
        exact get_rising (errF_rising herr) x hx
      · obtain ⟨⟨k, s, hf, hk⟩, _⟩ := hok x hx
        rw [e4, form4] at hf
        simp only [Option.some.injEq, Prod.mk.injEq] at hf
        obtain ⟨rfl, rfl⟩ := hf
        have h1 := (ofB_all (show ofB x.2.data.toList tenL (12 - 0) = true from checkR_right hk)).2
        have h2 : x.2.data.toList.length = x.2.size := by simp
        omega
  · left
    exact ⟨hd, by unfold encR; rw [if_neg hd]⟩
theorem dec_same {one ty : Int} {F : Flds} {L : List UInt8} (hL : (encR one ty F).1 = L) (h : (encR one ty F).2 = 0) : decR one (nums8 L) = ((ty, F), 0) := by rw [← hL]; exact rt_back h
set_option maxHeartbeats 4000000 in
set_option maxRecDepth 100000 in
theorem back_any {w : World} {v : Value} {F : Flds} (h : FsAt w v F) (hT : Tabs5 w) (hS : ∀ x ∈ F, x.2.size ≤ 1048576) (hlen : F.length ≤ 1048576) (ty one two : Int) :
    Calls Tryz.prog 10 #[.agg #[.int .i64 ty, v], .int .i64 one, .int .i64 two] w fun e w' => e = .returned (.bool true) ∧ Below w.heap.size w w' := by
  obtain ⟨p, c, rfl⟩ := h.shape
  have hB : ∀ x ∈ F, x.2.size ≤ 100000000 := fun x hx => Nat.le_trans (hS x hx) (by decide)
  obtain ⟨w0, e0⟩ : ∃ W, w.alloc (.cells #[.int .i64 ty, .slice p F.length c] 24) = W := ⟨_, rfl⟩
  have b0 : Below w.heap.size w w0 := by rw [← e0]; exact alloc_below _ _
  have k0 : MsgIn w0 w.heap.size ty (.slice p F.length c) := by rw [← e0]; exact msgIn_new w ty _
  have HT := Lib.hid (hT.below b0)
  have HF := Lib.hid (h.below b0)
  have HB0 := Lib.hid b0
  have K0 := Lib.hid k0
  have E0 := Lib.hid e0
  have HS := Lib.hid hS
  have HBg := Lib.hid hB
  have HLn := Lib.hid (And.intro hlen trivial)
  clear h hT hS hB b0 k0 e0 hlen
  go_enter Tryz.func10, Tryz.ntmps10
  go_wp2_with fail
  rw [E0.out]
  refine (shown_any HT.out).mono ?_
  rintro e w1 ⟨rfl, b1⟩
  have HF1 := Lib.hid (HF.out.below b1)
  have HT1 := Lib.hid (HT.out.below b1)
  have HB1 := Lib.hid (HB0.out.trans (b1.mono HB0.out.size))
  have K1 := Lib.hid (K0.out.below b1)
  clear b1 HF HB0 K0 E0 HT
  obtain ⟨m0, m1⟩ := K1.out
  obtain ⟨L, eL⟩ : ∃ l, (encR one ty F).1 = l := ⟨_, rfl⟩
  obtain ⟨N, eN⟩ : ∃ n, (encR one ty F).2 = n := ⟨_, rfl⟩
  have HL := Lib.hid eL
  have HN := Lib.hid eN
  clear eL eN
  go_wp2_with fail
  refine (enc_w HF1.out HT1.out HBg.out one ty HL.out HN.out).mono ?_
  rintro e w2 ⟨A, cc, rfl, hX, b2⟩
  have HB2 := Lib.hid (HB1.out.trans (b2.mono HB1.out.size))
  have HT2 := Lib.hid (HT1.out.below b2)
  have HF2 := Lib.hid (HF1.out.below b2)
  have K2 := Lib.hid (K1.out.below b2)
  have HX := Lib.hid hX
  clear b2 hX m0 m1 HF1 HT1 HB1 K1
  obtain ⟨m0, m1⟩ := K2.out
  go_wp2_with fail
  refine (refenc_w HF2.out HS.out one ty HL.out HN.out).mono ?_
  rintro e w3 ⟨A3, c3, rfl, _, b3⟩
  have HB3 := Lib.hid (HB2.out.trans (b3.mono HB2.out.size))
  have HT3 := Lib.hid (HT2.out.below b3)
  have HF3 := Lib.hid (HF2.out.below b3)
  have K3 := Lib.hid (K2.out.below b3)
  have HX3 := Lib.hid (HX.out.below b3)
  clear b3 m0 m1 HF2 HT2 HB2 K2 HX
  by_cases hN : N = 0
  · subst hN
    have HD := Lib.hid (dec_same HL.out HN.out)
    have hml : F.length ≤ maxLen := by have := HLn.out.1; simp only [maxLen]; omega
    go_wp2_with fail
    refine (dec_w HX3.out HT3.out one HD.out hml).mono ?_
    rintro e w4 ⟨p4, c4, rfl, hF4, b4⟩
    obtain ⟨w5, e5⟩ : ∃ W, w4.alloc (.cells #[.int .i64 ty, .slice p4 F.length c4] 24) = W := ⟨_, rfl⟩
    have b5 : Below w4.heap.size w4 w5 := by rw [← e5]; exact alloc_below _ _
    have b45 := b4.trans (b5.mono b4.size)
    have HB5 := Lib.hid (HB3.out.trans (b45.mono HB3.out.size))
    have HT5 := Lib.hid (HT3.out.below b45)
    have HF5 := Lib.hid (HF3.out.below b45)
    have HG5 := Lib.hid (hF4.below b5)
    have K5 := Lib.hid (K3.out.below b45)
    have J5 := Lib.hid (show MsgIn w5 w4.heap.size ty (.slice p4 F.length c4) by rw [← e5]; exact msgIn_new _ _ _)
    clear b4 b5 b45 hF4 HB3 HT3 HF3 K3 HX3
    subst e5
    obtain ⟨m0, m1⟩ := K5.out
    obtain ⟨n0, n1⟩ := J5.out
    go_wp2_with fail
    refine (same_w HG5.out HF5.out HLn.out.1 ty ty (b := true) (by rw [decide_eq_true rfl, decide_eq_true rfl]; rfl)).mono ?_
    rintro e w6 ⟨rfl, b6⟩
    have HB6 := Lib.hid (HB5.out.trans (b6.mono HB5.out.size))
    have HT6 := Lib.hid (HT5.out.below b6)
    have HF6 := Lib.hid (HF5.out.below b6)
    have HG6 := Lib.hid (HG5.out.below b6)
    have K6 := Lib.hid (K5.out.below b6)
    have J6 := Lib.hid (J5.out.below b6)
    clear b6 m0 m1 n0 n1 HB5 HT5 HF5 HG5 K5 J5
    obtain ⟨n0, n1⟩ := J6.out
    obtain ⟨L2, eL2⟩ : ∃ l, (encR two ty F).1 = l := ⟨_, rfl⟩
    obtain ⟨N2, eN2⟩ : ∃ n, (encR two ty F).2 = n := ⟨_, rfl⟩
    have hbt := back_two HN.out two
    rw [eN2] at hbt
    have HL2 := Lib.hid eL2
    have HN2 := Lib.hid eN2
    have HBT := Lib.hid hbt
    clear eL2 eN2 hbt
    go_wp2_with fail
    refine (enc_w HG6.out HT6.out HBg.out two ty HL2.out HN2.out).mono ?_
    rintro e w7 ⟨A7, c7, rfl, hX7, b7⟩
    have HB7 := Lib.hid (HB6.out.trans (b7.mono HB6.out.size))
    have HT7 := Lib.hid (HT6.out.below b7)
    have HF7 := Lib.hid (HF6.out.below b7)
    have K7 := Lib.hid (K6.out.below b7)
    have HX7 := Lib.hid hX7
    clear b7 hX7 n0 n1 HB6 HT6 HF6 HG6 K6 J6
    obtain ⟨m0, m1⟩ := K7.out
    rcases HBT.out with ⟨hr, rfl⟩ | ⟨hr, rfl⟩ | ⟨rfl, rfl, s, hg, hs2, hne⟩
    · by_cases h1 : two < 1
      · go_wp2_with fail
        go_ret
        exact ⟨rfl, HB7.out⟩
      · have h3 : 3 < two := by omega
        have g1 : decide (two < 1) = false := by simpa using h1
        have g3 : decide (3 < two) = true := by simpa using h3
        clear h1 h3 hr
        go_wp2_with fail
        go_ret
        exact ⟨rfl, HB7.out⟩
    · clear hr
      have HD2 := Lib.hid (dec_same HL2.out HN2.out)
      obtain ⟨gs, gb, eg⟩ : ∃ s b, (getM F 4).getD ⟨#[]⟩ = s ∧ (getM F 4).isSome = b := ⟨_, _, rfl, rfl⟩
      have HG := Lib.hid eg
      clear eg
      go_wp2_with fail
      refine (get_any HF7.out ty 4).mono ?_
      rintro e w8 ⟨rfl, b8⟩
      rw [HG.out.1, HG.out.2]
      have HB8 := Lib.hid (HB7.out.trans (b8.mono HB7.out.size))
      have HT8 := Lib.hid (HT7.out.below b8)
      have HF8 := Lib.hid (HF7.out.below b8)
      have K8 := Lib.hid (K7.out.below b8)
      have HX8 := Lib.hid (HX7.out.below b8)
      clear b8 m0 m1 HB7 HT7 HF7 K7 HX7
      go_wp2_with fail
      refine (dec_w HX8.out HT8.out two HD2.out hml).mono ?_
      rintro e w9 ⟨p9, c9, rfl, hF9, b9⟩
      obtain ⟨wa, ea⟩ : ∃ W, w9.alloc (.cells #[.int .i64 ty, .slice p9 F.length c9] 24) = W := ⟨_, rfl⟩
      have ba : Below w9.heap.size w9 wa := by rw [← ea]; exact alloc_below _ _
      have b9a := b9.trans (ba.mono b9.size)
      have HBa := Lib.hid (HB8.out.trans (b9a.mono HB8.out.size))
      have HFa := Lib.hid (HF8.out.below b9a)
      have HGa := Lib.hid (hF9.below ba)
      have Ka := Lib.hid (K8.out.below b9a)
      have Ja := Lib.hid (show MsgIn wa w9.heap.size ty (.slice p9 F.length c9) by rw [← ea]; exact msgIn_new _ _ _)
      clear b9 ba b9a hF9 HB8 HT8 HF8 K8 HX8
      subst ea
      obtain ⟨m0, m1⟩ := Ka.out
      obtain ⟨n0, n1⟩ := Ja.out
      go_wp2_with fail
      refine (same_w HGa.out HFa.out HLn.out.1 ty ty (b := true) (by rw [decide_eq_true rfl, decide_eq_true rfl]; rfl)).mono ?_
      rintro e wb ⟨rfl, bb⟩
      have HBb := Lib.hid (HBa.out.trans (bb.mono HBa.out.size))
      clear bb m0 m1 n0 n1
      go_wp2_with fail
      go_ret
      exact ⟨rfl, HBb.out⟩
    · have HG := Lib.hid hg
      have h2' : (2 : Int) ≤ s.size := by omega
      have hs00 : ((s.extract 0 2).toList == [48, 48]) = false := by
        have : ¬ (s.extract 0 2).toList = [48, 48] := fun h => hne (arr_list (by rw [ByteArray.toList_eq] at h; exact h))
        simpa using this
      clear hg hne
      go_wp2_with fail
      refine (get_any HF7.out ty 4).mono ?_
      rintro e w8 ⟨rfl, b8⟩
      rw [HG.out]
      have HB8 := Lib.hid (HB7.out.trans (b8.mono HB7.out.size))
      clear b8 m0 m1
      go_wp2_with fail
      go_ret
      exact ⟨rfl, HB8.out⟩
  · have hb1 : (N == 0) = false := by simpa using hN
    have hLe : L = [] := by rw [← HL.out]; exact enc_bad (by rw [HN.out]; exact hN)
    subst hLe
    clear HX3 hN
    go_wp2_with fail
    go_ret
    exact ⟨rfl, HB3.out⟩
end Go.Proofs.YtommklkihjmgcaaGreatDoor.msgr
