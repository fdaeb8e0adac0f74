/- Layer 5: MessageOthers, walked. Conditions: as each theorem says. -/
import Derived.Test.YtommklkihjmgcaaGreatDoorLawX
import Derived.Test.YtommklkihjmgcaaGreatDoorMsgX
namespace Go.Proofs.YtommklkihjmgcaaGreatDoor.msgw
open Go.RowKit Go.Proofs.YtommklkihjmgcaaGreatDoorW.PrintWords Go.Proofs.YtommklkihjmgcaaGreatDoor.msgp Go.Proofs.YtommklkihjmgcaaGreatDoor.buf Go.Proofs.YtommklkihjmgcaaGreatDoor.fieldp Go.Proofs.YtommklkihjmgcaaGreatDoor.fieldw
/-- What is left of both messages, and how often the field has been seen. -/
def Oth (A B : Flds) (no : Int) (t : ByteArray) (n : Nat) : Prop := delM A no = delM B no ∧ ((n = 0 ∧ B.filter (fun x => decide (x.1 = no)) = [(no, t)]) ∨ (n = 1 ∧ B.filter (fun x => decide (x.1 = no)) = []))
theorem delM_out {D : Flds} {no : Int} (h : ∀ x ∈ D, x.1 ≠ no) : delM D no = D ∧ D.filter (fun x => decide (x.1 = no)) = [] :=
  ⟨List.filter_eq_self.2 (fun x hx => by simpa using h x hx), List.filter_eq_nil_iff.2 (fun x hx => by simpa using h x hx)⟩
theorem oth_start (F : Flds) (no : Int) (t : ByteArray) : Oth F (setM F no t) no t 0 := by
  have hD : ∀ x ∈ delM F no, x.1 ≠ no := fun x hx => by simpa using (List.mem_filter.1 hx).2
  obtain ⟨D, eD⟩ : ∃ D, delM F no = D := ⟨_, rfl⟩
  unfold Oth setM insM
  rw [eD] at hD ⊢
  obtain ⟨h1, h2⟩ := delM_out (D := D.take (spot D no)) (no := no) (fun x hx => hD x (List.mem_of_mem_take hx))
  obtain ⟨h3, h4⟩ := delM_out (D := D.drop (spot D no)) (no := no) (fun x hx => hD x (List.mem_of_mem_drop hx))
  refine ⟨?_, .inl ⟨rfl, ?_⟩⟩
  · unfold delM at h1 h3 ⊢
    rw [List.filter_append, List.filter_cons_of_neg (by simp), h1, h3, List.take_append_drop]
  · rw [List.filter_append, List.filter_cons_of_pos (by simp), h2, h4]
    rfl
theorem oth_one {x : Fld} {A B : Flds} {no : Int} {t : ByteArray} {n : Nat} (h : Oth (x :: A) B no t n) (hx : x.1 = no) : Oth A B no t n := by
  unfold Oth at *
  have : delM (x :: A) no = delM A no := List.filter_cons_of_neg (by simpa using hx)
  rw [this] at h
  exact h
theorem oth_two {y : Fld} {A B : Flds} {no : Int} {t : ByteArray} {n : Nat} (h : Oth A (y :: B) no t n) (hy : y.1 = no) : y.2 = t ∧ n = 0 ∧ Oth A B no t 1 := by
  obtain ⟨h1, h2⟩ := h
  rw [show delM (y :: B) no = delM B no from List.filter_cons_of_neg (by simpa using hy)] at h1
  rw [List.filter_cons_of_pos (by simpa using hy)] at h2
  rcases h2 with ⟨h2, h3⟩ | ⟨_, h3⟩
  · obtain ⟨rfl, h4⟩ := List.cons.inj h3
    exact ⟨rfl, h2, h1, .inr ⟨rfl, h4⟩⟩
  · cases h3
theorem oth_three {x y : Fld} {A B : Flds} {no : Int} {t : ByteArray} {n : Nat} (h : Oth (x :: A) (y :: B) no t n) (hx : x.1 ≠ no) (hy : y.1 ≠ no) : x = y ∧ Oth A B no t n := by
  obtain ⟨h1, h2⟩ := h
  rw [show delM (x :: A) no = x :: delM A no from List.filter_cons_of_pos (by simpa using hx), show delM (y :: B) no = y :: delM B no from List.filter_cons_of_pos (by simpa using hy)] at h1
  rw [List.filter_cons_of_neg (by simpa using hy)] at h2
  obtain ⟨h3, h4⟩ := List.cons.inj h1
  exact ⟨h3, h4, h2⟩
theorem oth_no1 {x : Fld} {A : Flds} {no : Int} {t : ByteArray} {n : Nat} (h : Oth (x :: A) [] no t n) (hx : x.1 ≠ no) : False := by
  have h1 := h.1
  rw [show delM (x :: A) no = x :: delM A no from List.filter_cons_of_pos (by simpa using hx)] at h1
  cases h1
theorem oth_no2 {y : Fld} {B : Flds} {no : Int} {t : ByteArray} {n : Nat} (h : Oth [] (y :: B) no t n) (hy : y.1 ≠ no) : False := by
  have h1 := h.1
  rw [show delM (y :: B) no = y :: delM B no from List.filter_cons_of_pos (by simpa using hy)] at h1
  cases h1
theorem oth_end {no : Int} {t : ByteArray} {n : Nat} (h : Oth [] [] no t n) : n = 1 := by
  rcases h.2 with ⟨_, h⟩ | ⟨h, _⟩
  · cases h
  · exact h
attribute [local go_sem high] Go.Proofs.YtommklkihjmgcaaGreatDoor.PMessageBack.eqA28
set_option maxHeartbeats 4000000 in
set_option maxRecDepth 100000 in
theorem others_any {w : World} {v : Value} {F : Flds} (h : FsAt w v F) (hT : Tabs5 w) (hl : F.length ≤ 1048576) (ty no : Int) (t : ByteArray) :
    Calls Tryz.prog 3 #[.agg #[.int .i64 ty, v], .int .i64 no, .string t] w fun e w' => e = .returned (.bool true) ∧ Below w.heap.size w w' := by
  obtain ⟨p, c, rfl⟩ := h.shape
  obtain ⟨B, eB⟩ : ∃ b, w.heap.size = b := ⟨_, rfl⟩
  obtain ⟨w0, e0⟩ : ∃ W, w.alloc (.cells #[.int .i64 ty, .slice p F.length c] 24) = W := ⟨_, rfl⟩
  have b0 : Below w.heap.size w w0 := by rw [← e0]; exact alloc_below _ _
  have k0 : MsgIn w0 B ty (.slice p F.length c) := by rw [← eB, ← e0]; exact msgIn_new w ty _
  have HT := Lib.hid (hT.below b0)
  have HF := Lib.hid (h.below b0)
  have HB0 := Lib.hid b0
  have K0 := Lib.hid k0
  have E0 := Lib.hid e0
  clear h hT b0 k0 e0
  go_enter Tryz.func3, Tryz.ntmps3
  go_wp2_with fail
  rw [E0.out]
  refine (shown_any HT.out).mono ?_
  rintro e w1 ⟨rfl, b1⟩
  have HF1 := Lib.hid (HF.out.below b1)
  have HB1 := Lib.hid (HB0.out.trans (b1.mono HB0.out.size))
  have K1 := Lib.hid (K0.out.below b1)
  clear b1 HF HB0 K0 E0 HT
  obtain ⟨m0, m1⟩ := K1.out
  go_wp2_with fail
  refine (set_any HF1.out (by omega) ty no t).mono ?_
  rintro e w2 ⟨v', rfl, hX, b2⟩
  have ho := oth_start F no t
  have hxl : (setM F no t).length ≤ F.length + 1 := by
    have h1 : (delM F no).length ≤ F.length := List.length_filter_le _ _
    unfold setM insM
    simp only [List.length_append, List.length_cons, List.length_take, List.length_drop]
    omega
  obtain ⟨X, eX⟩ : ∃ X, setM F no t = X := ⟨_, rfl⟩
  rw [eX] at ho hX hxl
  have hXf := hX.fs (by simp only [maxLen]; omega)
  obtain ⟨q, d, rfl⟩ := hXf.shape
  obtain ⟨w3, e3⟩ : ∃ W, w2.alloc (.cells #[.int .i64 ty, .slice q X.length d] 24) = W := ⟨_, rfl⟩
  have b3 : Below w2.heap.size w2 w3 := by rw [← e3]; exact alloc_below _ _
  have b23 := b2.trans (b3.mono b2.size)
  obtain ⟨G, eG⟩ : ∃ g, w2.heap.size = g := ⟨_, rfl⟩
  have HXf := Lib.hid (hXf.below b3)
  have HX3 := Lib.hid (show MsgIn w3 G ty (.slice q X.length d) by rw [← eG, ← e3]; exact msgIn_new w2 ty _)
  have HF3 := Lib.hid (HF1.out.below b23)
  have K3 := Lib.hid (K1.out.below b23)
  have HB3 := Lib.hid (HB1.out.trans (b23.mono HB1.out.size))
  have E3 := Lib.hid e3
  have HO := Lib.hid ho
  have hll : X.length ≤ 1048577 := by omega
  clear m0 m1 b2 b3 b23 hX hXf ho hxl eX e3 HF1 HB1 K1
  go_wp2_with fail
  rw [E3.out]
  go_loopw [9, 10, 11] (fun iv kv nv wr => ∃ i k n : Nat, i ≤ F.length ∧ k ≤ X.length ∧ iv = .int .i64 i ∧ kv = .int .i64 k ∧ nv = .int .i64 n ∧ n ≤ 1 ∧ Oth (F.drop i) (X.drop k) no t n ∧ Below w3.heap.size w3 wr) (fun iv kv _ _ => F.length - (intOf iv).toNat + (X.length - (intOf kv).toNat))
  case atStart => exact ⟨0, 0, 0, Nat.zero_le _, Nat.zero_le _, rfl, rfl, rfl, by omega, HO.out, Below.refl _ _⟩
  case round =>
    obtain ⟨i, k, n, hi, hk, rfl, rfl, rfl, hn, hoth, hbw⟩ := hrel
    obtain ⟨m0, m1⟩ := K3.out.below hbw
    obtain ⟨x0, x1⟩ := HX3.out.below hbw
    have HBW := Lib.hid hbw
    by_cases hi2 : i < F.length
    · have hi3 : (i : Int) < F.length := by omega
      obtain ⟨fb, fo, rfl, q0, q1⟩ := (HF3.out.below hbw).get i hi2
      obtain ⟨⟨fn, fs⟩, ef⟩ : ∃ x, F[i] = x := ⟨_, rfl⟩
      rw [List.drop_eq_getElem_cons hi2, ef] at hoth
      rw [ef] at q0 q1
      by_cases hx : fn = no
      · have HO1 := Lib.hid (oth_one hoth hx)
        subst hx
        clear hoth ef hbw
        go_wp2_with fail
        go_roundw
        case rel => exact ⟨i + 1, k, n, by omega, hk, by go_num, rfl, rfl, hn, HO1.out, HBW.out⟩
        case measure => simp [intOf]; omega
      · by_cases hk2 : k < X.length
        · have hk3 : (k : Int) < X.length := by omega
          obtain ⟨xb, xo, rfl, r0, r1⟩ := (HXf.out.below hbw).get k hk2
          obtain ⟨⟨xn, xs⟩, exx⟩ : ∃ x, X[k] = x := ⟨_, rfl⟩
          rw [List.drop_eq_getElem_cons hk2, exx] at hoth
          rw [exx] at r0 r1
          by_cases hy : xn = no
          · obtain ⟨hxs, hn0, h3⟩ := oth_two hoth hy
            have hxs' : xs = t := hxs
            have HO1 := Lib.hid h3
            have HEF := Lib.hid ef
            subst hy hxs' hn0
            clear hoth exx ef h3 hxs hbw
            go_wp2_with fail
            go_roundw
            case rel => exact ⟨i, k + 1, 1, hi, by omega, rfl, by go_num, by go_num, by omega, by rw [List.drop_eq_getElem_cons hi2, HEF.out]; exact HO1.out, HBW.out⟩
            case measure => simp [intOf]; omega
          · obtain ⟨hxy, h3⟩ := oth_three hoth hx hy
            obtain ⟨e1, e2⟩ := Prod.mk.inj hxy
            have e1' : fn = xn := e1
            have e2' : fs = xs := e2
            have HO1 := Lib.hid h3
            subst e1' e2'
            clear hoth exx ef h3 hxy e1 e2 hbw
            have g1 : decide ((F.length : Int) ≤ i) = false := by simpa using hi2
            have g2 : decide ((X.length : Int) ≤ k) = false := by simpa using hk2
            go_wp2_with fail
            go_quiet (fail)
            go_wp2_with fail
            go_roundw
            case rel => exact ⟨i + 1, k + 1, n, by omega, by omega, by go_num, by go_num, rfl, hn, HO1.out, HBW.out.trans (drewN_base _ _)⟩
            case measure => simp [intOf]; omega
        · exact (oth_no1 (by rw [List.drop_eq_nil_of_le (by omega : X.length ≤ k)] at hoth; exact hoth) hx).elim
    · have hi3 : ¬ (i : Int) < F.length := by omega
      rw [List.drop_eq_nil_of_le (by omega : F.length ≤ i)] at hoth
      by_cases hk2 : k < X.length
      · have hk3 : (k : Int) < X.length := by omega
        obtain ⟨xb, xo, rfl, r0, r1⟩ := (HXf.out.below hbw).get k hk2
        obtain ⟨⟨xn, xs⟩, exx⟩ : ∃ x, X[k] = x := ⟨_, rfl⟩
        rw [List.drop_eq_getElem_cons hk2, exx] at hoth
        rw [exx] at r0 r1
        by_cases hy : xn = no
        · obtain ⟨hxs, hn0, h3⟩ := oth_two hoth hy
          have hxs' : xs = t := hxs
          have HO1 := Lib.hid h3
          subst hy hxs' hn0
          clear hoth exx h3 hxs hbw
          go_wp2_with fail
          go_roundw
          case rel => exact ⟨i, k + 1, 1, hi, by omega, rfl, by go_num, by go_num, by omega, by rw [List.drop_eq_nil_of_le (by omega : F.length ≤ i)]; exact HO1.out, HBW.out⟩
          case measure => simp [intOf]; omega
        · exact (oth_no2 hoth hy).elim
      · have hk3 : ¬ (k : Int) < X.length := by omega
        rw [List.drop_eq_nil_of_le (by omega : X.length ≤ k)] at hoth
        obtain rfl := oth_end hoth
        have HBF := Lib.hid (HB3.out.trans (HBW.out.mono HB3.out.size))
        clear hoth hbw
        go_wp2_with fail
        go_ret
        exact ⟨rfl, by rw [← eB]; exact HBF.out⟩
end Go.Proofs.YtommklkihjmgcaaGreatDoor.msgw
