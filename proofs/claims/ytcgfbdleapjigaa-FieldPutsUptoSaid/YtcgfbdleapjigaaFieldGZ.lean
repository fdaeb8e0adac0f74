/- Walks of layer 4: Put. Conditions: as each theorem says. -/
import Derived.Test.YtcgfbdleapjigaaFieldGL
namespace Go.Proofs.Ytcgfbdleapjigaa.fieldw
open Go.RowKit Go.Proofs.Ytcgfbdleapjigaa.fieldp Go.Proofs.YtcgfbdleapjigaaW.PrintWords Go.Proofs.YtcgfbdleapjigaaW.PrintLast

set_option maxHeartbeats 4000000 in
theorem put_wrong (k n c : Int) (s : ByteArray) (A0 : Option Addr) (c0 : Nat) (l0 : List Int) (w : World) (hs : s.size ≤ 100000000) (hck : checkR k n c s.data.toList ≠ 0) :
    Calls Try.prog 13 #[.slice A0 l0.length c0, .agg #[.int .i64 k, .int .i64 n, .int .i64 c], .string s] w fun e w' => ∃ v0_ : Value, e = .returned (.tuple #[v0_, .int .i64 (checkR k n c s.data.toList)]) ∧ Kd.R (Kd.int .u8) 5 w' w.heap.size (fun _ => True) v0_ [] ∧ Below w.heap.size w w' := by
  have HK := Lib.hid (fun w => check_any k n c s w hs)
  have hne : (checkR k n c s.data.toList != 0) = true := by simpa using hck
  generalize checkR k n c s.data.toList = r at HK hne
  clear hck
  go_enter Try.func13, Try.ntmps13
  go_wp2_with fail
  refine (HK.out _).mono ?_
  rintro e w1 ⟨rfl, hb1⟩
  have HB1 := Aside0.mk (((Below.refl w.heap.size w).alloc (Nat.le_refl _) _).trans (hb1.mono (by simp)))
  clear hb1
  go_wp2_with fail
  go_ret2
  exact ⟨_, rfl, Kd.R_nil _ _ _ _ _, HB1.out⟩

def putR (l0 : List Int) (k n c : Int) (s : ByteArray) : List Int × Int := if checkR k n c s.data.toList = 0 then (l0 ++ nums8 (putBytes k c s.data.toList), 0) else ([], checkR k n c s.data.toList)

set_option maxRecDepth 100000 in
theorem ten_hex {x : UInt8} (h : inRow tenL x = true) : isHex x := by
  unfold inRow at h
  unfold isHex
  have h' : Lib.indexByte tenL x ≠ -1 := by simpa using h
  intro e
  have : ∀ i : Fin 256, Lib.indexByte hexL (UInt8.ofNat i.1) = -1 → Lib.indexByte tenL (UInt8.ofNat i.1) = -1 := by decide
  have h2 := this ⟨x.toNat, x.toNat_lt⟩
  rw [UInt8.ofNat_toNat] at h2
  exact h' (h2 e)
theorem tens_ok {c : Int} {l : List UInt8} (s : ByteArray) (hs : s.data.toList = l) (h : l.all (inRow tenL) = true) : putOkC (digitsC c) s := by
  unfold digitsC
  split
  · exact Nat.le_refl _
  · split
    · intro x hx
      rw [hs] at hx
      exact ten_hex (List.all_eq_true.1 h x hx)
    · show tenB.size ≤ eb10.size
      decide
theorem raw_ok {c : Int} {l : List UInt8} (s : ByteArray) (hs : s.data.toList = l) (h : l.all (inRow hexL) = true) : putOkC (rawC c) s := by
  unfold rawC
  split
  · show lowB.size ≤ highB.size
    decide
  · intro x hx
    rw [hs] at hx
    have := List.all_eq_true.1 h x hx
    unfold inRow at this
    unfold isHex
    simpa using this
theorem letters_ok {c : Int} (s : ByteArray) : putOkC (lettersC c) s := by
  unfold lettersC
  split
  · exact Nat.le_refl _
  · split
    · exact Nat.le_refl _
    · show signsB.size ≤ ebcB.size
      decide
theorem ofB_all {l row : List UInt8} {n : Int} (h : ofB l row n = true) : l.all (inRow row) = true ∧ (l.length : Int) = n := by
  unfold ofB at h
  simpa using h
theorem told_ok (n : Nat) (h : n < 100) : (told n).all (inRow tenL) = true := by
  have : ∀ i : Fin 100, (told i.1).all (inRow tenL) = true := by decide
  exact this ⟨n, h⟩
theorem check_zero {k n c : Int} {l : List UInt8} (h : checkR k n c l = 0) : mayB k n c = true ∧ rightB k n l = true := by
  unfold checkR at h
  split at h
  · split at h
    · exact ⟨by assumption, by assumption⟩
    · cases h
  · cases h

theorem put_any (k n c : Int) (s : ByteArray) (A0 : Option Addr) (c0 : Nat) (l0 : List Int) (w : World) (hs : s.size ≤ 100000000) (hl0 : l0.length ≤ 100000000) (hr0 : Kd.C (Kd.int .u8) w A0 l0.length l0) (hc0 : l0.length ≤ c0) :
    Calls Try.prog 13 #[.slice A0 l0.length c0, .agg #[.int .i64 k, .int .i64 n, .int .i64 c], .string s] w fun e w' => ∃ v0_ : Value, e = .returned (.tuple #[v0_, .int .i64 (putR l0 k n c s).2]) ∧ Kd.R (Kd.int .u8) 5 w' w.heap.size (fun _ => True) v0_ (putR l0 k n c s).1 ∧ Below w.heap.size w w' := by
  by_cases h : checkR k n c s.data.toList = 0
  · have e : putR l0 k n c s = (l0 ++ nums8 (putBytes k c s.data.toList), 0) := by simp [putR, h]
    rw [e]
    obtain ⟨hm, hr⟩ := check_zero h
    have hm' : 1 ≤ k ∧ k ≤ 5 ∧ 1 ≤ n ∧ n ≤ 64 ∧ 1 ≤ c ∧ c ≤ 3 := by simpa [mayB] using hm
    unfold rightB at hr
    by_cases h5 : k = 5
    · subst h5
      rw [if_pos rfl] at hr
      cases hl : s.data.toList with
      | nil => rw [hl] at hr; cases hr
      | cons a r =>
        rw [hl] at hr
        simp only [Bool.and_eq_true] at hr
        obtain ⟨h1, h2⟩ := ofB_all hr.2
        have hsz : s.size = r.length + 1 := by rw [← size_list, hl]; rfl
        rw [← hl]
        exact put_x n c s A0 c0 l0 w (by omega) hl0 hr0 hc0 h (tens_ok _ (by rw [cut_tail, hl]; rfl) h1) (letters_ok _) (by omega)
    · rw [if_neg h5] at hr
      by_cases h1 : k = 1
      · subst h1
        obtain ⟨a, b⟩ := ofB_all hr
        rw [size_list] at b
        exact put_n n c s A0 c0 l0 w (by omega) hl0 hr0 hc0 h (tens_ok s rfl a)
      · rw [if_neg h1] at hr
        by_cases h2 : k = 2
        · subst h2
          rw [if_pos rfl] at hr
          simp only [Bool.and_eq_true, decide_eq_true_eq] at hr
          obtain ⟨a, b⟩ := ofB_all hr.2
          have := hr.1
          rw [size_list] at this
          exact put_ll n c s A0 c0 l0 w (by omega) hl0 hr0 hc0 h (tens_ok s rfl a) (tens_ok _ (by simp) (told_ok s.size (by omega))) (by omega)
        · rw [if_neg h2] at hr
          by_cases h3 : k = 3
          · subst h3
            rw [if_pos rfl] at hr
            obtain ⟨a, b⟩ := ofB_all hr
            rw [size_list] at b
            exact put_an n c s A0 c0 l0 w (by omega) hl0 hr0 hc0 h (letters_ok s)
          · rw [if_neg h3] at hr
            have h4 : k = 4 := by omega
            subst h4
            obtain ⟨a, b⟩ := ofB_all hr
            rw [size_list] at b
            exact put_b n c s A0 c0 l0 w (by omega) hl0 hr0 hc0 h (raw_ok s rfl a)
  · have e : putR l0 k n c s = ([], checkR k n c s.data.toList) := by simp [putR, h]
    rw [e]
    exact put_wrong k n c s A0 c0 l0 w hs h
end Go.Proofs.Ytcgfbdleapjigaa.fieldw
