/- Layer 5: MessageMaps, walked. Conditions: as each theorem says. -/
import Derived.Test.YtommklkihjmgcaaGreatDoorLShort
import Derived.Test.YtommklkihjmgcaaGreatDoorPurE
namespace Go.Proofs.YtommklkihjmgcaaGreatDoor.msgw
open Go.RowKit Go.Proofs.YtommklkihjmgcaaGreatDoorW.PrintWords Go.Proofs.YtommklkihjmgcaaGreatDoor.msgp Go.Proofs.YtommklkihjmgcaaGreatDoor.buf Go.Proofs.YtommklkihjmgcaaGreatDoor.fieldp Go.Proofs.YtommklkihjmgcaaGreatDoor.fieldw Go.Proofs.YtommklkihjmgcaaGreatDoor.fieldl
theorem Txt.form {w : World} {lo : Nat} {A : Option Addr} {n c : Nat} {l : List UInt8} (h : Txt w lo (.slice A n c) l) (hp : 0 < l.length) : ∃ g, A = some ⟨g, 0, none⟩ ∧ ∀ (j : Nat) (x : UInt8), l[j]? = some x → w.cell? ⟨g, j, none⟩ = some (.int .u8 (x.toNat : Int)) := by
  obtain ⟨g, cap, e, _, _, _⟩ := Kd.R_form h (by simpa [nums8] using hp)
  simp only [Value.slice.injEq] at e
  obtain ⟨rfl, _, _⟩ := e
  refine ⟨g, rfl, fun j x hx => ?_⟩
  obtain ⟨hn, hc, hC⟩ := h.at_
  obtain ⟨_, _, h3⟩ := hC
  obtain ⟨ad, e, hall⟩ := h3 hp
  obtain rfl := Option.some.inj e
  obtain ⟨cs, _, hk, hcell⟩ := hall j (x.toNat : Int) (by simp [nums8, hx])
  have hk' : cs = [.int .u8 (x.toNat : Int)] := hk
  subst hk'
  have := hcell 0 _ rfl
  rwa [show (⟨g, 0, none⟩ : Addr).add (j * (Kd.int .u8).sz + 0) = ⟨g, j, none⟩ from by show (⟨g, 0, none⟩ : Addr).add (j * 1 + 0) = _; rw [Nat.mul_one]; unfold Addr.add; split <;> simp_all] at this
theorem bit_spell {x : UInt8} {s : Nat} {b : Bool} (h : x.toNat / 2 ^ (7 - s) % 2 = if b = true then 1 else 0) : ((((x.toNat : Nat) : Int) / 2 ^ (7 - s)).tmod 2 == 1) = b := by
  have h1 : ((x.toNat : Nat) : Int) / 2 ^ (7 - s) = ((x.toNat / 2 ^ (7 - s) : Nat) : Int) := by
    rw [Int.natCast_ediv, Int.natCast_pow]; rfl
  rw [h1, Int.tmod_eq_emod_of_nonneg (Int.natCast_nonneg _)]
  obtain ⟨q, eq⟩ : ∃ q, x.toNat / 2 ^ (7 - s) = q := ⟨_, rfl⟩
  rw [eq] at h ⊢
  cases b with
  | true => rw [if_pos rfl] at h; simp; omega
  | false => rw [if_neg (by decide)] at h; simp; omega
set_option maxHeartbeats 4000000 in
set_option maxRecDepth 100000 in
theorem maps_any {w : World} {v : Value} {F : Flds} (h : FsAt w v F) (hT : Tabs5 w) (hS : ∀ x ∈ F, x.2.size ≤ 100000000) (ty : Int) :
    Calls Tryz.prog 11 #[.agg #[.int .i64 ty, v]] w fun e w' => e = .returned (.bool true) ∧ Below w.heap.size w w' := by
  obtain ⟨p, c, rfl⟩ := h.shape
  obtain ⟨w0, e0⟩ : ∃ W, w.alloc (.cells #[.int .i64 ty, .slice p F.length c] 24) = W := ⟨_, rfl⟩
  have b0 : Below w.heap.size w w0 := by rw [← e0]; exact alloc_below _ _
  have k0 : MsgIn w0 w.heap.size ty (.slice p F.length c) := by rw [← e0]; exact msgIn_new w ty _
  have HT := Lib.hid (hT.below b0)
  have HF := Lib.hid (h.below b0)
  have HB0 := Lib.hid b0
  have K0 := Lib.hid k0
  have E0 := Lib.hid e0
  have HS := Lib.hid hS
  clear h hT hS b0 k0 e0
  go_enter Tryz.func11, Tryz.ntmps11
  go_wp2_with fail
  rw [E0.out]
  refine (shown_any HT.out).mono ?_
  rintro e w1 ⟨rfl, b1⟩
  have HF1 := Lib.hid (HF.out.below b1)
  have HT1 := Lib.hid (HT.out.below b1)
  have HB1 := Lib.hid (HB0.out.trans (b1.mono HB0.out.size))
  have K1 := Lib.hid (K0.out.below b1)
  clear b1 HF HB0 K0 E0 HT
  obtain ⟨m0, m1⟩ := K1.out
  obtain ⟨L, eL⟩ : ∃ l, (encR 2 ty F).1 = l := ⟨_, rfl⟩
  obtain ⟨N, eN⟩ : ∃ n, (encR 2 ty F).2 = n := ⟨_, rfl⟩
  have HL := Lib.hid eL
  have HN := Lib.hid eN
  clear eL eN
  go_wp2_with fail
  refine (enc_w HF1.out HT1.out HS.out 2 ty HL.out HN.out).mono ?_
  rintro e w2 ⟨A, cc, rfl, hX, b2⟩
  have HB2 := Lib.hid (HB1.out.trans (b2.mono HB1.out.size))
  have HF2 := Lib.hid (HF1.out.below b2)
  have K2 := Lib.hid (K1.out.below b2)
  have HX := Lib.hid hX
  clear b2 hX m0 m1 HF1 HT1 HB1 K1
  by_cases hN : N = 0
  · subst hN
    obtain ⟨M, r, e1, e2, e3, x2, e4, e5⟩ := map2 HN.out
    rw [HL.out] at e1
    have hlen := enc_len 2 ty F
    rw [HL.out] at hlen
    have hfe := far_end HN.out
    obtain ⟨m2, em⟩ : ∃ m, (mapsM F).2 = m := ⟨_, rfl⟩
    rw [em] at e2 e3 e5 hfe
    have hpos : 0 < L.length := by rw [e1, List.length_append, e2]; split <;> omega
    obtain ⟨g, rfl, hcells⟩ := HX.out.form hpos
    have hML : ∀ (j : Nat) (x : UInt8), M[j]? = some x → w2.cell? ⟨g, j, none⟩ = some (.int .u8 (x.toNat : Int)) := fun j x hx => hcells j x (by rw [e1]; exact (List.getElem?_append_left (List.getElem?_eq_some_iff.1 hx).1).trans hx)
    have hge : M.length ≤ L.length := by rw [e1, List.length_append]; omega
    have q2 := hML 2 x2 e4
    have HML := Lib.hid hML
    have HE3 := Lib.hid e3
    have hfs := Lib.hid hfe
    clear hcells e1 e3 e4 hML hfe
    by_cases hm : m2 = 0
    · rw [if_pos hm] at e2
      have HBITS := Lib.hid (fun (k : Nat) (h2 : 2 ≤ k) (h3 : k ≤ 64) => HE3.out k h2 (by rw [if_pos hm]; exact h3))
      have g1 : ¬ (128 : Int) ≤ x2.toNat := by have := mt e5.1 (by simpa using hm); omega
      have g2 : (10 : Int) ≤ L.length := by omega
      have g3 : ¬ (L.length : Int) < 10 := by omega
      have g0 : ¬ (L.length : Int) < 10 := by omega
      have g4 : (2 : Int) < L.length := by omega
      clear e5 hm HE3 em hfs
      have HE2 := Lib.hid e2
      clear e2
      go_wp2_with fail
      go_loopw [8, 7] (fun nv fv wr => ∃ k : Nat, 2 ≤ k ∧ k ≤ 65 ∧ nv = .int .i64 k ∧ fv = .bool (farM F k) ∧ Below w2.heap.size w2 wr) (fun nv _ _ => 65 - (intOf nv).toNat)
      case atStart => exact ⟨2, by decide, by decide, rfl, by rw [far_low F (by decide)], Below.refl _ _⟩
      case round =>
        obtain ⟨k, hk1, hk2, rfl, rfl, hbw⟩ := hrel
        by_cases hk : k ≤ 64
        · obtain ⟨x, hx, hv⟩ := HBITS.out k hk1 hk
          have hlt : 2 + (k - 1) / 8 < M.length := (List.getElem?_eq_some_iff.1 hx).1
          have qx := hbw.keptCell (HML.out _ x hx)
          obtain ⟨m0, m1⟩ := K2.out.below hbw
          have hfn := far_next F k
          obtain ⟨n, en⟩ : ∃ n : Int, (k : Int) = n := ⟨_, rfl⟩
          obtain ⟨j, ej⟩ : ∃ j, (k - 1) / 8 = j := ⟨_, rfl⟩
          obtain ⟨s, es⟩ : ∃ s, (k - 1) % 8 = s := ⟨_, rfl⟩
          have hn1 : 2 ≤ n := by omega
          have hn2 : n ≤ 64 := by omega
          have hj : (n - 1) / 8 = (j : Int) := by omega
          have hs : (n - 1) % 8 = (s : Int) := by omega
          have hs7 : (s : Int) ≤ 7 := by omega
          have hjl : (2 + (j : Int)) < L.length := by omega
          have hjn : (2 + (j : Int)).toNat = 2 + j := by omega
          rw [ej] at qx
          rw [es] at hv
          have hbs := bit_spell hv
          rw [en] at hbs hfn ⊢
          obtain ⟨ts, tb, et⟩ : ∃ ts tb, (getM F n).getD ⟨#[]⟩ = ts ∧ (getM F n).isSome = tb := ⟨_, _, rfl, rfl⟩
          obtain ⟨f1, ef1⟩ : ∃ f, farM F n = f := ⟨_, rfl⟩
          rw [et.2] at hbs hfn
          rw [ef1] at hfn ⊢
          have HFN := Lib.hid hfn
          have HEN := Lib.hid en
          have HET := Lib.hid et
          have HBW := Lib.hid hbw
          have HF3 := Lib.hid (HF2.out.below hbw)
          clear hv hlt hx ej es en hbw et hfn ef1
          go_wp2_with fail
          refine (get_any HF3.out ty n).mono ?_
          rintro e w3 ⟨rfl, b3⟩
          rw [HET.out.1, HET.out.2]
          have HB3 := Lib.hid (HBW.out.trans (b3.mono HBW.out.size))
          clear b3 m0 m1 qx
          by_cases h64 : 64 < n <;> cases f1 <;> cases tb
          all_goals
            go_wp2_with fail
            go_roundw
            case rel => exact ⟨k + 1, by omega, by omega, by rw [← HEN.out]; go_num, by rw [show ((k + 1 : Nat) : Int) = n + 1 by have := HEN.out; omega, HFN.out]; simp [h64], HB3.out⟩
            case measure => have := HEN.out; simp [intOf]; omega
        · obtain rfl : k = 65 := by omega
          have hgt : ¬ ((65 : Nat) : Int) ≤ 64 := by omega
          rw [far_low F (by decide)]
          have HBF := Lib.hid (HB2.out.trans (hbw.mono HB2.out.size))
          clear hbw
          go_wp2_with fail
          go_ret
          exact ⟨rfl, HBF.out⟩
    · rw [if_neg hm] at e2
      have HBITS := Lib.hid (fun (k : Nat) (h2 : 2 ≤ k) (h3 : k ≤ 128) => HE3.out k h2 (by rw [if_neg hm]; exact h3))
      have g1 : (128 : Int) ≤ x2.toNat := by have := e5.2 hm; omega
      have g2 : (18 : Int) ≤ L.length := by omega
      have g3 : ¬ (L.length : Int) < 18 := by omega
      have g0 : ¬ (L.length : Int) < 10 := by omega
      have g4 : (2 : Int) < L.length := by omega
      have HFE := Lib.hid (hfs.out hm)
      clear e5 hm HE3 em hfs
      have HE2 := Lib.hid e2
      clear e2
      go_wp2_with fail
      go_loopw [8, 7] (fun nv fv wr => ∃ k : Nat, 2 ≤ k ∧ k ≤ 129 ∧ nv = .int .i64 k ∧ fv = .bool (farM F k) ∧ Below w2.heap.size w2 wr) (fun nv _ _ => 129 - (intOf nv).toNat)
      case atStart => exact ⟨2, by decide, by decide, rfl, by rw [far_low F (by decide)], Below.refl _ _⟩
      case round =>
        obtain ⟨k, hk1, hk2, rfl, rfl, hbw⟩ := hrel
        by_cases hk : k ≤ 128
        · obtain ⟨x, hx, hv⟩ := HBITS.out k hk1 hk
          have hlt : 2 + (k - 1) / 8 < M.length := (List.getElem?_eq_some_iff.1 hx).1
          have qx := hbw.keptCell (HML.out _ x hx)
          obtain ⟨m0, m1⟩ := K2.out.below hbw
          have hfn := far_next F k
          obtain ⟨n, en⟩ : ∃ n : Int, (k : Int) = n := ⟨_, rfl⟩
          obtain ⟨j, ej⟩ : ∃ j, (k - 1) / 8 = j := ⟨_, rfl⟩
          obtain ⟨s, es⟩ : ∃ s, (k - 1) % 8 = s := ⟨_, rfl⟩
          have hn1 : 2 ≤ n := by omega
          have hn2 : n ≤ 128 := by omega
          have hj : (n - 1) / 8 = (j : Int) := by omega
          have hs : (n - 1) % 8 = (s : Int) := by omega
          have hs7 : (s : Int) ≤ 7 := by omega
          have hjl : (2 + (j : Int)) < L.length := by omega
          have hjn : (2 + (j : Int)).toNat = 2 + j := by omega
          rw [ej] at qx
          rw [es] at hv
          have hbs := bit_spell hv
          rw [en] at hbs hfn ⊢
          obtain ⟨ts, tb, et⟩ : ∃ ts tb, (getM F n).getD ⟨#[]⟩ = ts ∧ (getM F n).isSome = tb := ⟨_, _, rfl, rfl⟩
          obtain ⟨f1, ef1⟩ : ∃ f, farM F n = f := ⟨_, rfl⟩
          rw [et.2] at hbs hfn
          rw [ef1] at hfn ⊢
          have HFN := Lib.hid hfn
          have HEN := Lib.hid en
          have HET := Lib.hid et
          have HBW := Lib.hid hbw
          have HF3 := Lib.hid (HF2.out.below hbw)
          clear hv hlt hx ej es en hbw et hfn ef1
          go_wp2_with fail
          refine (get_any HF3.out ty n).mono ?_
          rintro e w3 ⟨rfl, b3⟩
          rw [HET.out.1, HET.out.2]
          have HB3 := Lib.hid (HBW.out.trans (b3.mono HBW.out.size))
          clear b3 m0 m1 qx
          by_cases h64 : 64 < n <;> cases f1 <;> cases tb
          all_goals
            go_wp2_with fail
            go_roundw
            case rel => exact ⟨k + 1, by omega, by omega, by rw [← HEN.out]; go_num, by rw [show ((k + 1 : Nat) : Int) = n + 1 by have := HEN.out; omega, HFN.out]; simp [h64], HB3.out⟩
            case measure => have := HEN.out; simp [intOf]; omega
        · obtain rfl : k = 129 := by omega
          have hgt : ¬ ((129 : Nat) : Int) ≤ 128 := by omega
          rw [show farM F ((129 : Nat) : Int) = true from HFE.out]
          have HBF := Lib.hid (HB2.out.trans (hbw.mono HB2.out.size))
          clear hbw
          go_wp2_with fail
          go_ret
          exact ⟨rfl, HBF.out⟩
  · have hb1 : (N == 0) = false := by simpa using hN
    clear HX
    go_wp2_with fail
    go_ret
    exact ⟨rfl, HB2.out⟩
end Go.Proofs.YtommklkihjmgcaaGreatDoor.msgw
