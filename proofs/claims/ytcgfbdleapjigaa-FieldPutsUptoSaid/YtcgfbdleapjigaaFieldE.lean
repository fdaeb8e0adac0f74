/- Walks of layer 4's codes: what each function of a code does. Conditions: as each theorem says. -/
import Derived.Test.YtcgfbdleapjigaaFieldC
namespace Go.Proofs.Ytcgfbdleapjigaa.fieldw
open Go.RowKit Go.Proofs.Ytcgfbdleapjigaa.fieldp

set_option maxHeartbeats 1000000 in
theorem of_any (s row : ByteArray) (n : Int) (w : World) (hs : s.size ≤ 200000000) :
    Calls Try.prog 35 #[.string s, .string row, .int .i64 n] w fun e w' => e = .returned (.bool (ofB s.data.toList row.data.toList n)) ∧ w = w' := by
  go_enter Try.func35, Try.ntmps35
  go_wp2_with fail
  go_loop [10] (fun i => ∃ (k : Nat), k ≤ s.size ∧ i = .int .i64 k ∧ (s.data.toList.take k).all (inRow row.data.toList) = true) (fun i => s.size - (intOf i).toNat)
  case atStart => exact ⟨0, Nat.zero_le _, rfl, rfl⟩
  case round =>
    obtain ⟨k, hk, rfl, hall⟩ := hrel
    have HA := Lib.hid hall
    clear hall
    by_cases hlt : k < s.size
    · by_cases hidx : Lib.indexByte row.data.toList s[k] = -1
      · have HI := Lib.hid (index_none row s[k] w hidx)
        have hfin : ofB s.data.toList row.data.toList n = false := by
          unfold ofB
          rw [split_at s k, drop_cons s k hlt]
          simp [inRow, hidx]
        have HF := Lib.hid hfin
        clear hidx hfin
        go_wp2_with (go_at_call 51; refine (HI.out).mono ?_; rintro e w1 ⟨rfl, rfl⟩)
        go_ret
        exact ⟨by rw [HF.out]; rfl, rfl⟩
      · obtain ⟨m, hm⟩ : ∃ m : Nat, Lib.indexByte row.data.toList s[k] = (m : Int) := by
          have := Lib.indexByte_ge row.data.toList s[k]
          exact ⟨(Lib.indexByte row.data.toList s[k]).toNat, by omega⟩
        have hn : (s.data.toList.take (k + 1)).all (inRow row.data.toList) = true := by
          rw [take_snoc s k hlt, all_snoc, HA.out]
          simp [inRow, hidx]
        have HN := Lib.hid hn
        have HI := Lib.hid (index_some row s[k] m w hm)
        clear hidx hm hn
        go_wp2_with (go_at_call 51; refine (HI.out).mono ?_; rintro e w1 ⟨rfl, rfl⟩)
        go_round
        case rel => exact ⟨k + 1, by omega, by go_num, HN.out⟩
        case measure => simp [intOf]; omega
    · have hke : s.data.toList.take k = s.data.toList := List.take_of_length_le (by rw [size_list]; omega)
      have hfin : ofB s.data.toList row.data.toList n = ((s.size : Int) == n) := by
        have := HA.out
        rw [hke] at this
        unfold ofB
        rw [this, size_list]
        by_cases e : (s.size : Int) = n <;> simp [e]
      have HF := Lib.hid hfin
      clear hke hfin
      go_wp2
      go_ret
      exact ⟨by rw [HF.out]; rfl, rfl⟩

theorem put_plain (s f t : ByteArray) (a b : Nat) (w : World) (ha : w.cell? ⟨a, 0, none⟩ = some (.string f)) (hb : w.cell? ⟨b, 0, none⟩ = some (.string t)) (hs : s.size ≤ 100000000) (hft : f.size ≤ t.size) :
    Calls Try.prog 58 #[.string s, .pointer (some ⟨a, 0, none⟩), .pointer (some ⟨b, 0, none⟩)] w fun e w' => e = .returned (.string ⟨((turnL f.data.toList t.data.toList s.data.toList).getD []).toArray⟩) ∧ Below w.heap.size w w' := by
  go_enter Try.func58, Try.ntmps58
  go_wp2_with fail
  refine (turned_any s f t w hs hft).mono ?_
  rintro e w1 ⟨rfl, hb1⟩
  have HB := Lib.hid hb1
  clear hb1
  go_wp2_with fail
  go_ret
  exact ⟨rfl, HB.out⟩
theorem take_plain (s f t : ByteArray) (n : Int) (a b : Nat) (w : World) (ha : w.cell? ⟨a, 0, none⟩ = some (.string f)) (hb : w.cell? ⟨b, 0, none⟩ = some (.string t)) (hs : s.size ≤ 100000000) (hft : t.size ≤ f.size) :
    Calls Try.prog 61 #[.string s, .int .i64 n, .pointer (some ⟨b, 0, none⟩), .pointer (some ⟨a, 0, none⟩)] w (ret2 (turnL t.data.toList f.data.toList s.data.toList) w) := by
  go_enter Try.func61, Try.ntmps61
  go_wp2_with fail
  refine (turned_any s t f w hs hft).mono ?_
  rintro e w1 ⟨rfl, hb1⟩
  have HB := Lib.hid hb1
  clear hb1
  go_wp2_with fail
  go_ret2
  exact ⟨rfl, HB.out⟩
theorem size_plain (n : Int) (w : World) : Calls Try.prog 60 #[.int .i64 n] w fun e w' => e = .returned (.int .i64 n) ∧ w = w' := by
  go_enter Try.func60, Try.ntmps60
  go_wp2
  go_ret
  exact ⟨rfl, rfl⟩
theorem size_packed (n : Int) (w : World) (h0 : 0 ≤ n) (h1 : n ≤ 1000) : Calls Try.prog 63 #[.int .i64 n] w fun e w' => e = .returned (.int .i64 ((n + 1) / 2)) ∧ w = w' := by
  go_enter Try.func63, Try.ntmps63
  go_wp2
  go_ret
  exact ⟨rfl, rfl⟩

theorem ext_tail (c : UInt8) (r : List UInt8) : (⟨(c :: r).toArray⟩ : ByteArray).extract 1 (r.length + 1) = ⟨r.toArray⟩ := by
  have h : ((⟨(c :: r).toArray⟩ : ByteArray).extract 1 (r.length + 1)).data.toList = r := by
    simp [ByteArray.data_extract]
  cases hx : (⟨(c :: r).toArray⟩ : ByteArray).extract 1 (r.length + 1) with
  | mk a =>
    rw [hx] at h
    simp only at h
    rw [← h]
/-- What a packed row says: as many digits, a nought ahead of an odd number. -/
def takePacked (d : List UInt8) (l : List UInt8) (n : Nat) : Option (List UInt8) :=
  if n % 2 = 1 then (if (unpackL l).head? = some 48 then (if ofB (unpackL l).tail d n then some (unpackL l).tail else none) else none)
  else if ofB (unpackL l) d n then some (unpackL l) else none
def ret2b (l : Option (List UInt8)) (w : World) (e : Ending) (w' : World) : Prop := ∃ x, e = .returned (.tuple #[.string ⟨x.toArray⟩, .bool l.isSome]) ∧ (∀ y, l = some y → x = y) ∧ Below w.heap.size w w'

set_option maxHeartbeats 1000000 in
theorem take_packed (s d : ByteArray) (n : Nat) (a : Nat) (w : World) (ha : w.cell? ⟨a, 0, none⟩ = some (.string d)) (hs : s.size ≤ 1000) (hn : n ≤ 1000) (hsn : n % 2 = 1 → 1 ≤ s.size) :
    Calls Try.prog 64 #[.string s, .int .i64 n, .pointer (some ⟨a, 0, none⟩)] w (ret2b (takePacked d.data.toList s.data.toList n) w) := by
  have hlen : (unpackL s.data.toList).length = 2 * s.size := by rw [unpackL_length, size_list]
  have haw := World.block_lt_of_cell? w _ ha
  by_cases hodd : n % 2 = 1
  · have h1 : (((n : Int) % 2 : Int) == 1) = true := by rw [beq_iff_eq]; omega
    obtain ⟨c, r, hcr⟩ : ∃ c r, unpackL s.data.toList = c :: r := by
      cases h : unpackL s.data.toList with
      | nil => rw [h] at hlen; simp at hlen; have := hsn hodd; omega
      | cons c r => exact ⟨c, r, rfl⟩
    have U := unpack_any s w (by omega)
    rw [hcr] at U
    have HU := Lib.hid U
    have hr : r.length ≤ 10000 := by rw [hcr] at hlen; simp at hlen; omega
    by_cases h48 : c = 48
    · subst h48
      have hfin : takePacked d.data.toList s.data.toList n = if ofB r d.data.toList n then some r else none := by simp [takePacked, hodd, hcr]
      have HF := Lib.hid hfin
      clear hfin U hcr hlen hodd hsn
      go_enter Try.func64, Try.ntmps64
      go_wp2_with fail
      refine (HU.out).mono ?_
      rintro e w1 ⟨rfl, hb1⟩
      obtain ⟨hc, hf⟩ := bcell hb1
      have HB := Lib.hid hb1
      clear hb1
      go_wp2_with fail
      have hext : (⟨(48 :: r).toArray⟩ : ByteArray).extract 1 (r.length + 1) = ⟨r.toArray⟩ := ext_tail 48 r
      rw [hext]
      refine (of_any ⟨r.toArray⟩ d n w1 (by simp [ByteArray.size]; omega)).mono ?_
      rintro e w2 ⟨rfl, rfl⟩
      have HX := Lib.hid hext
      clear hext
      go_wp2_with fail
      go_ret2
      refine ⟨r, ?_, ?_, HB.out⟩
      · rw [HF.out]
        show Ending.returned (.tuple #[.string ⟨r.toArray⟩, .bool (ofB r d.data.toList n)]) = _
        cases ofB r d.data.toList n <;> rfl
      · intro y hy
        rw [HF.out] at hy
        split at hy
        · exact Option.some.inj hy
        · cases hy
    · have hfin : takePacked d.data.toList s.data.toList n = none := by simp [takePacked, hodd, hcr, h48]
      have HF := Lib.hid hfin
      have hn48 : (((c.toNat : Int)) != 48) = true := by
        rw [bne_iff_ne]
        intro h
        exact h48 (UInt8.toNat_inj.1 (by simp; omega))
      have hn48' : ((((⟨(c :: r).toArray⟩ : ByteArray)[0]'(by simp [ByteArray.size])).toNat : Int) != 48) = true := hn48
      clear hfin U hcr hlen hodd hsn h48
      go_enter Try.func64, Try.ntmps64
      go_wp2_with fail
      refine (HU.out).mono ?_
      rintro e w1 ⟨rfl, hb1⟩
      have HB := Lib.hid hb1
      clear hb1
      go_wp2_with fail
      go_ret2
      exact ⟨[], by rw [HF.out]; rfl, (fun y hy => by rw [HF.out] at hy; cases hy), HB.out⟩
  · have h1 : (((n : Int) % 2 : Int) == 1) = false := by rw [beq_eq_false_iff_ne]; omega
    have hfin : takePacked d.data.toList s.data.toList n = if ofB (unpackL s.data.toList) d.data.toList n then some (unpackL s.data.toList) else none := by simp [takePacked, hodd]
    have HF := Lib.hid hfin
    have HU := Lib.hid (unpack_any s w (by omega))
    have hr : (unpackL s.data.toList).length ≤ 10000 := by omega
    generalize unpackL s.data.toList = r at HF HU hr
    clear hfin hlen hodd hsn
    go_enter Try.func64, Try.ntmps64
    go_wp2_with fail
    refine (HU.out).mono ?_
    rintro e w1 ⟨rfl, hb1⟩
    obtain ⟨hc, hf⟩ := bcell hb1
    have HB := Lib.hid hb1
    clear hb1
    go_wp2_with fail
    refine (of_any ⟨r.toArray⟩ d n w1 (by simp [ByteArray.size]; omega)).mono ?_
    rintro e w2 ⟨rfl, rfl⟩
    go_wp2_with fail
    go_ret2
    refine ⟨r, ?_, ?_, HB.out⟩
    · rw [HF.out]
      show Ending.returned (.tuple #[.string ⟨r.toArray⟩, .bool (ofB r d.data.toList n)]) = _
      cases ofB r d.data.toList n <;> rfl
    · intro y hy
      rw [HF.out] at hy
      split at hy
      · exact Option.some.inj hy
      · cases hy
end Go.Proofs.Ytcgfbdleapjigaa.fieldw
