/- Layer 5: MessageShort, MessageUnlike, MessageApart, walked. Conditions: as each theorem says. -/
import Derived.Test.YtommklkihjmgcaaGreatDoorLawX
import Derived.Test.YtommklkihjmgcaaGreatDoorPurD
namespace Go.Proofs.YtommklkihjmgcaaGreatDoor.msgw
open Go.RowKit Go.Proofs.YtommklkihjmgcaaGreatDoorW.PrintWords Go.Proofs.YtommklkihjmgcaaGreatDoor.msgp Go.Proofs.YtommklkihjmgcaaGreatDoor.buf Go.Proofs.YtommklkihjmgcaaGreatDoor.fieldp Go.Proofs.YtommklkihjmgcaaGreatDoor.fieldw Go.Proofs.YtommklkihjmgcaaGreatDoor.fieldl
theorem Txt.take {w : World} {lo : Nat} {A : Option Addr} {n c m : Nat} {l : List UInt8} (h : Txt w lo (.slice A n c) l) (hm : m ≤ l.length) : Txt w lo (.slice A m c) (l.take m) := by
  have := Kd.R_take h (m := m) (by simpa [nums8] using hm)
  unfold Txt
  rw [show nums8 (l.take m) = (nums8 l).take m by simp [nums8, List.map_take]]
  exact this
theorem Txt.at_ {w : World} {lo : Nat} {A : Option Addr} {n c : Nat} {l : List UInt8} (h : Txt w lo (.slice A n c) l) : n = l.length ∧ l.length ≤ c ∧ Kd.C (Kd.int .u8) w A l.length (nums8 l) := by
  obtain ⟨A', c', e, h1, h2⟩ := h.reads
  simp only [Value.slice.injEq] at e
  obtain ⟨rfl, rfl, rfl⟩ := e
  exact ⟨rfl, h1, h2⟩
theorem fs_nil (w : World) : FsAt w (.slice none 0 0) [] := ⟨by decide, none, 0, rfl, by decide, fun i hi => by simp at hi⟩
theorem same_none {W : World} {v1 : Value} (h1 : FsAt W v1 []) :
    Calls Tryz.prog 18 #[.agg #[.int .i64 0, v1], .agg #[.int .i64 0, .slice none 0 0]] W fun e w' => e = .returned (.bool true) ∧ Below W.heap.size W w' :=
  (same_any h1 (fs_nil W) (by decide) 0 0).mono fun e w' h => by
    rw [decide_eq_true rfl, decide_eq_true rfl] at h
    exact h
set_option maxHeartbeats 4000000 in
set_option maxRecDepth 100000 in
theorem short_any {w : World} {v : Value} {F : Flds} (h : FsAt w v F) (hT : Tabs5 w) (hS : ∀ x ∈ F, x.2.size ≤ 100000000) (ty d at_ : Int) (ha1 : -9223372036854775808 ≤ at_) (ha2 : at_ ≤ 9223372036854775807) :
    Calls Tryz.prog 5 #[.agg #[.int .i64 ty, v], .int .i64 d, .int .i64 at_] w fun e w' => e = .returned (.bool true) ∧ Below w.heap.size w w' := by
  obtain ⟨p, c, rfl⟩ := h.shape
  obtain ⟨w0, e0⟩ : ∃ W, w.alloc (.cells #[.int .i64 ty, .slice p F.length c] 24) = W := ⟨_, rfl⟩
  have b0 : Below w.heap.size w w0 := by rw [← e0]; exact alloc_below _ _
  have k0 : MsgIn w0 w.heap.size ty (.slice p F.length c) := by rw [← e0]; exact msgIn_new w ty _
  have HT := Lib.hid (hT.below b0)
  have HF := Lib.hid (h.below b0)
  have HB0 := Lib.hid b0
  have K0 := Lib.hid k0
  have E0 := Lib.hid e0
  have HS := Lib.hid hS
  clear h hT hS b0 k0 e0
  go_enter Tryz.func5, Tryz.ntmps5
  go_wp2_with fail
  rw [E0.out]
  refine (shown_any HT.out).mono ?_
  rintro e w1 ⟨rfl, b1⟩
  have HF1 := Lib.hid (HF.out.below b1)
  have HT1 := Lib.hid (HT.out.below b1)
  have HB1 := Lib.hid (HB0.out.trans (b1.mono HB0.out.size))
  have K1 := Lib.hid (K0.out.below b1)
  clear b1 HF HB0 K0 E0 HT
  obtain ⟨m0, m1⟩ := K1.out
  obtain ⟨L, eL⟩ : ∃ l, (encR d ty F).1 = l := ⟨_, rfl⟩
  obtain ⟨N, eN⟩ : ∃ n, (encR d ty F).2 = n := ⟨_, rfl⟩
  have hln := enc_len d ty F
  rw [eL] at hln
  have HL := Lib.hid eL
  have HN := Lib.hid eN
  clear eL eN
  go_wp2_with fail
  refine (enc_w HF1.out HT1.out HS.out d ty HL.out HN.out).mono ?_
  rintro e w2 ⟨A, cc, rfl, hX, b2⟩
  have HB2 := Lib.hid (HB1.out.trans (b2.mono HB1.out.size))
  have HT2 := Lib.hid (HT1.out.below b2)
  have HX := Lib.hid hX
  clear b2 hX m0 m1 HF1 HT1 HB1 K1
  by_cases hN : N = 0
  · subst hN
    have hpos : 0 < L.length := by have := enc_pos HN.out; rwa [HL.out] at this
    have HK := Lib.hid (fun (j : Nat) (hj : j < L.length) => show decR d (nums8 (L.take j)) = ((0, []), 43) by
      have := rt_short HN.out (i := j) (by rw [HL.out]; exact hj)
      rwa [HL.out] at this)
    obtain ⟨_, hc1, hc2⟩ := HX.out.at_
    obtain ⟨ad, rfl, _⟩ := hc2.2.2 hpos
    clear hc2
    have key : ∀ q : Int, 0 ≤ q → ∃ j : Nat, q.tmod (L.length : Int) = j ∧ q % (L.length : Int) = j ∧ j < L.length := fun q hq => by
      have h1 := Int.emod_nonneg q (b := (L.length : Int)) (by omega)
      have h2 := Int.emod_lt_of_pos q (b := (L.length : Int)) (by omega)
      exact ⟨(q % (L.length : Int)).toNat, by rw [Int.tmod_eq_emod_of_nonneg hq]; omega, by omega, by omega⟩
    by_cases hneg : at_ < 0
    · obtain ⟨j, hj, _, hjl⟩ := key (-(at_ + 1)) (by omega)
      rw [Int.neg_tmod] at hj
      have HV := Lib.hid (HX.out.take (Nat.le_of_lt hjl))
      have HD := Lib.hid (HK.out j hjl)
      have hjc : (j : Int) ≤ cc := by omega
      clear key HK
      go_wp2_with fail
      refine (dec_w HV.out HT2.out d HD.out (by decide)).mono ?_
      rintro e w3 ⟨p3, c3, rfl, hF3, b3⟩
      obtain ⟨w4, e4⟩ : ∃ W, w3.alloc (.cells #[.int .i64 0, .slice p3 0 c3] 24) = W := ⟨_, rfl⟩
      have b4 : Below w3.heap.size w3 w4 := by rw [← e4]; exact alloc_below _ _
      have HF4 := Lib.hid (hF3.below b4)
      have b34 := b3.trans (b4.mono b3.size)
      have HB4 := Lib.hid (HB2.out.trans (b34.mono HB2.out.size))
      have HC := Lib.hid (same_none (hF3.below b4))
      clear b3 b4 b34 hF3
      subst e4
      go_wp2_with fail
      refine HC.out.mono ?_
      rintro e w5 ⟨rfl, b5⟩
      have HB5 := Lib.hid (HB4.out.trans (b5.mono HB4.out.size))
      clear b5
      go_wp2_with fail
      go_ret
      exact ⟨rfl, HB5.out⟩
    · obtain ⟨j, hj, hj2, hjl⟩ := key at_ (by omega)
      have HV := Lib.hid (HX.out.take (Nat.le_of_lt hjl))
      have HD := Lib.hid (HK.out j hjl)
      have hjc : (j : Int) ≤ cc := by omega
      have hge : 0 ≤ at_ := by omega
      clear key HK hneg
      go_wp2_with fail
      refine (dec_w HV.out HT2.out d HD.out (by decide)).mono ?_
      rintro e w3 ⟨p3, c3, rfl, hF3, b3⟩
      obtain ⟨w4, e4⟩ : ∃ W, w3.alloc (.cells #[.int .i64 0, .slice p3 0 c3] 24) = W := ⟨_, rfl⟩
      have b4 : Below w3.heap.size w3 w4 := by rw [← e4]; exact alloc_below _ _
      have HF4 := Lib.hid (hF3.below b4)
      have b34 := b3.trans (b4.mono b3.size)
      have HB4 := Lib.hid (HB2.out.trans (b34.mono HB2.out.size))
      have HC := Lib.hid (same_none (hF3.below b4))
      clear b3 b4 b34 hF3
      subst e4
      go_wp2_with fail
      refine HC.out.mono ?_
      rintro e w5 ⟨rfl, b5⟩
      have HB5 := Lib.hid (HB4.out.trans (b5.mono HB4.out.size))
      clear b5
      go_wp2_with fail
      go_ret
      exact ⟨rfl, HB5.out⟩
  · have hb1 : (N == 0) = false := by simpa using hN
    clear HX
    go_wp2_with fail
    go_ret
    exact ⟨rfl, HB2.out⟩
end Go.Proofs.YtommklkihjmgcaaGreatDoor.msgw
