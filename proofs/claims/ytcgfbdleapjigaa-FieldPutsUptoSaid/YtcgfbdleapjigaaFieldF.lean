/- Walks of layer 4: right, Check. Conditions: as each theorem says. -/
import Derived.Test.YtcgfbdleapjigaaFieldE
import Derived.Test.YtcgfbdleapjigaaFieldPlain2
namespace Go.Proofs.Ytcgfbdleapjigaa.fieldw
open Go.RowKit Go.Proofs.Ytcgfbdleapjigaa.fieldp

theorem byte_ne {u : UInt8} {v : Nat} (hv : v < 256) (h : u ≠ v.toUInt8) : ((u.toNat : Int) != (v : Int)) = true := by
  rw [bne_iff_ne]
  intro e
  apply h
  apply UInt8.toNat_inj.1
  simp only [Nat.toUInt8, UInt8.toNat_ofNat']
  omega
theorem size_cons {s : ByteArray} {d : UInt8} {r : List UInt8} (h : s.data.toList = d :: r) : s.size = r.length + 1 := by
  rw [← size_list, h]; rfl
theorem tail_data (s : ByteArray) (d : UInt8) (r : List UInt8) (h : s.data.toList = d :: r) : (s.extract 1 s.size).data.toList = r := by
  have hz := size_cons h
  simp [ByteArray.data_extract, h, hz]
theorem head_eq {s : ByteArray} {d : UInt8} {r : List UInt8} (h : s.data.toList = d :: r) (h0 : 0 < s.size) : s[0] = d := by
  have : s.data.toList[0]? = some d := by rw [h]; rfl
  rw [List.getElem?_eq_getElem (by simpa using h0)] at this
  exact Option.some.inj this

set_option maxHeartbeats 2000000 in
theorem right_x (n c : Int) (s : ByteArray) (w : World) (hs : s.size ≤ 100000000) :
    Calls Try.prog 28 #[.agg #[.int .i64 5, .int .i64 n, .int .i64 c], .string s] w fun e w' => e = .returned (.bool (rightB 5 n s.data.toList)) ∧ Below w.heap.size w w' := by
  cases hl : s.data.toList with
  | nil =>
    have he : s.toList.isEmpty = true := by rw [ByteArray.toList_eq, hl]; rfl
    have he2 : s.toList = [] := by rw [ByteArray.toList_eq, hl]
    clear hl
    go_enter Try.func28, Try.ntmps28
    go_wp2_with fail
    go_ret
    exact ⟨rfl, (Below.refl _ _).alloc (Nat.le_refl _) _⟩
  | cons d r =>
    have he : s.toList.isEmpty = false := by rw [ByteArray.toList_eq, hl]; rfl
    have he2 : (s.toList = []) = False := by rw [ByteArray.toList_eq, hl]; simp
    have hz := size_cons hl
    have h0 : 0 < s.size := by omega
    have hd := head_eq hl h0
    have hof : ∀ w, Calls Try.prog 35 #[.string (s.extract 1 s.size), .string ⟨#[48, 49, 50, 51, 52, 53, 54, 55, 56, 57]⟩, .int .i64 n] w fun e w' => e = .returned (.bool (ofB r tenL n)) ∧ w = w' := by
      intro w
      have := of_any (s.extract 1 s.size) ⟨#[48, 49, 50, 51, 52, 53, 54, 55, 56, 57]⟩ n w (by rw [← size_list, tail_data s d r hl]; omega)
      rw [tail_data s d r hl] at this
      exact this
    have HO := Lib.hid hof
    clear hof hl hz
    by_cases d1 : d = 67
    · subst d1
      have t1 : ((s[0].toNat : Int) != 67) = false := by rw [hd]; rfl
      have HD := Lib.hid hd
      clear hd
      go_enter Try.func28, Try.ntmps28
      go_wp2_with fail
      refine (HO.out _).mono ?_
      rintro e w1 ⟨rfl, rfl⟩
      go_wp2_with fail
      go_ret
      exact ⟨rfl, (Below.refl _ _).alloc (Nat.le_refl _) _⟩
    · by_cases d2 : d = 68
      · subst d2
        have t1 : ((s[0].toNat : Int) != 67) = true := by rw [hd]; rfl
        have t2 : ((s[0].toNat : Int) != 68) = false := by rw [hd]; rfl
        have HD := Lib.hid hd
        clear hd
        go_enter Try.func28, Try.ntmps28
        go_wp2_with fail
        refine (HO.out _).mono ?_
        rintro e w1 ⟨rfl, rfl⟩
        go_wp2_with fail
        go_ret
        exact ⟨rfl, (Below.refl _ _).alloc (Nat.le_refl _) _⟩
      · have t1 : ((s[0].toNat : Int) != 67) = true := by rw [hd]; exact byte_ne (v := 67) (by omega) d1
        have t2 : ((s[0].toNat : Int) != 68) = true := by rw [hd]; exact byte_ne (v := 68) (by omega) d2
        have hfin : rightB 5 n (d :: r) = false := by simp [rightB, d1, d2]
        have HF := Lib.hid hfin
        have HD := Lib.hid hd
        clear hd d1 d2 hfin
        go_enter Try.func28, Try.ntmps28
        go_wp2_with fail
        go_ret
        exact ⟨by rw [HF.out]; rfl, (Below.refl _ _).alloc (Nat.le_refl _) _⟩

set_option maxHeartbeats 2000000 in
theorem right_any (k n c : Int) (s : ByteArray) (w : World) (hs : s.size ≤ 100000000) (h0 : 1 ≤ n) (h1 : n ≤ 64) :
    Calls Try.prog 28 #[.agg #[.int .i64 k, .int .i64 n, .int .i64 c], .string s] w fun e w' => e = .returned (.bool (rightB k n s.data.toList)) ∧ Below w.heap.size w w' := by
  by_cases k5 : k = 5
  · subst k5; exact right_x n c s w hs
  have HO := Lib.hid (fun (row : ByteArray) (m : Int) (w : World) => of_any s row m w (by omega))
  have e5 : (k == 5) = false := beq_eq_false_iff_ne.mpr k5
  by_cases k1 : k = 1
  · subst k1
    have hfin : rightB 1 n s.data.toList = ofB s.data.toList tenL n := rfl
    have HF := Lib.hid hfin
    clear hfin k5
    go_enter Try.func28, Try.ntmps28
    go_wp2_with fail
    refine (HO.out _ _ _).mono ?_
    rintro e w1 ⟨rfl, rfl⟩
    go_wp2_with fail
    go_ret
    exact ⟨by rw [HF.out]; rfl, (Below.refl _ _).alloc (Nat.le_refl _) _⟩
  have e1 : (k == 1) = false := beq_eq_false_iff_ne.mpr k1
  by_cases k2 : k = 2
  · subst k2
    have hfin : rightB 2 n s.data.toList = (decide (0 < s.size ∧ (s.size : Int) ≤ n) && ofB s.data.toList tenL s.size) := by
      simp only [rightB, size_list]; rfl
    have HF := Lib.hid hfin
    clear hfin k5 k1
    by_cases z0 : 0 < s.size
    · by_cases z1 : (s.size : Int) ≤ n
      · go_enter Try.func28, Try.ntmps28
        go_wp2_with fail
        refine (HO.out _ _ _).mono ?_
        rintro e w1 ⟨rfl, rfl⟩
        go_wp2_with fail
        go_ret
        exact ⟨by rw [HF.out]; simp [z0, z1]; rfl, (Below.refl _ _).alloc (Nat.le_refl _) _⟩
      · go_enter Try.func28, Try.ntmps28
        go_wp2_with fail
        go_ret
        exact ⟨by rw [HF.out, decide_eq_false (show ¬ (0 < s.size ∧ (s.size : Int) ≤ n) by omega)]; rfl, (Below.refl _ _).alloc (Nat.le_refl _) _⟩
    · go_enter Try.func28, Try.ntmps28
      go_wp2_with fail
      go_ret
      exact ⟨by rw [HF.out, decide_eq_false (show ¬ (0 < s.size ∧ (s.size : Int) ≤ n) by omega)]; rfl, (Below.refl _ _).alloc (Nat.le_refl _) _⟩
  have e2 : (k == 2) = false := beq_eq_false_iff_ne.mpr k2
  by_cases k3 : k = 3
  · subst k3
    have hfin : rightB 3 n s.data.toList = ofB s.data.toList signsL n := rfl
    have HF := Lib.hid hfin
    clear hfin k5 k1 k2
    go_enter Try.func28, Try.ntmps28
    go_wp2_with fail
    refine (HO.out _ _ _).mono ?_
    rintro e w1 ⟨rfl, rfl⟩
    go_wp2_with fail
    go_ret
    exact ⟨by rw [HF.out]; rfl, (Below.refl _ _).alloc (Nat.le_refl _) _⟩
  have e3 : (k == 3) = false := beq_eq_false_iff_ne.mpr k3
  have hfin : rightB k n s.data.toList = ofB s.data.toList hexL (2 * n) := by simp [rightB, k1, k2, k3, k5]
  have HF := Lib.hid hfin
  clear hfin k5 k1 k2 k3
  go_enter Try.func28, Try.ntmps28
  go_wp2_with fail
  refine (HO.out _ _ _).mono ?_
  rintro e w1 ⟨rfl, rfl⟩
  go_wp2_with fail
  go_ret
  exact ⟨by rw [HF.out]; rfl, (Below.refl _ _).alloc (Nat.le_refl _) _⟩

def checkR (k n c : Int) (l : List UInt8) : Int := if mayB k n c = true then (if rightB k n l = true then 0 else 41) else 40
set_option maxHeartbeats 2000000 in
theorem check_any (k n c : Int) (s : ByteArray) (w : World) (hs : s.size ≤ 100000000) :
    Calls Try.prog 15 #[.agg #[.int .i64 k, .int .i64 n, .int .i64 c], .string s] w fun e w' => e = .returned (.int .i64 (checkR k n c s.data.toList)) ∧ Below w.heap.size w w' := by
  have HM := Lib.hid (may_any k n c)
  cases hm : mayB k n c with
  | false =>
    have hfin : checkR k n c s.data.toList = 40 := by simp [checkR, hm]
    have HF := Lib.hid hfin
    rw [hm] at HM
    clear hfin hm
    go_enter Try.func15, Try.ntmps15
    go_wp2_with fail
    refine (HM.out _).mono ?_
    rintro e w1 ⟨rfl, hb1⟩
    have HB := Lib.hid (((Below.refl w.heap.size w).alloc (Nat.le_refl _) _).trans (hb1.mono (by simp)))
    clear hb1
    go_wp2_with fail
    go_ret
    exact ⟨by rw [HF.out]; rfl, HB.out⟩
  | true =>
    have hn : 1 ≤ n ∧ n ≤ 64 := by simp [mayB] at hm; omega
    have HR := Lib.hid (fun w => right_any k n c s w hs hn.1 hn.2)
    have hfin : checkR k n c s.data.toList = if rightB k n s.data.toList = true then 0 else 41 := by simp [checkR, hm]
    have HF := Lib.hid hfin
    rw [hm] at HM
    generalize rightB k n s.data.toList = b at HR HF
    clear hfin hm hn
    cases b
    all_goals
      go_enter Try.func15, Try.ntmps15
      go_wp2_with fail
      refine (HM.out _).mono ?_
      rintro e w1 ⟨rfl, hb1⟩
      obtain ⟨hc1, hf1⟩ := bcell hb1
      have HB := Lib.hid (((Below.refl w.heap.size w).alloc (Nat.le_refl _) _).trans (hb1.mono (by simp)))
      clear hb1
      go_wp2_with fail
      refine (HR.out _).mono ?_
      rintro e w2 ⟨rfl, hb2⟩
      have HB2 := Lib.hid (HB.out.trans (hb2.mono HB.out.size))
      clear hb2
      go_wp2_with fail
      go_ret
      exact ⟨by rw [HF.out]; rfl, HB2.out⟩
end Go.Proofs.Ytcgfbdleapjigaa.fieldw
