/- Walks of layer 4: Digits. Conditions: as each theorem says. -/
import Derived.Test.YtcgfbdleapjigaaFieldWalks
import Derived.Test.YtcgfbdleapjigaaFieldPlain3
import Derived.Laws.IdiomStrings
import Derived.Deep.QuietTactic
import Derived.BigQuiet
import Derived.IntWalk
import Derived.Test.YtcgfbdleapjigaaWWords
import Derived.Test.YtcgfbdleapjigaaWLast
import Derived.StillTailTactics
namespace Go.Proofs.Ytcgfbdleapjigaa.fieldw
open Go.RowKit Go.Proofs.Ytcgfbdleapjigaa.fieldp Go.Proofs.YtcgfbdleapjigaaW.PrintWords Go.Proofs.YtcgfbdleapjigaaW.PrintLast

/-- A row of bytes that nothing else holds. -/
def BytesAt (w : World) (b : Nat) (l : List UInt8) : Prop :=
  ∃ C fr, w.heap[b]? = some (.cells C 5 fr) ∧ l.length ≤ fr.1 ∧ ∀ j (h : j < l.length), C[j]? = some (.int .u8 (l[j].toNat : Int))
theorem BytesAt.cell {w : World} {b : Nat} {l : List UInt8} (h : BytesAt w b l) (j : Nat) (hj : j < l.length) : w.cell? ⟨b, j, none⟩ = some (.int .u8 (l[j].toNat : Int)) := by
  obtain ⟨C, fr, h1, _, h2⟩ := h
  unfold World.cell?
  rw [h1]
  simpa using h2 j hj
theorem BytesAt.frozen {w : World} {b : Nat} {l : List UInt8} (h : BytesAt w b l) (j : Nat) (hj : j < l.length) : w.frozen? ⟨b, j, none⟩ = false := by
  obtain ⟨C, fr, h1, h3, h2⟩ := h
  unfold World.frozen?
  rw [h1]
  obtain ⟨lo, hi⟩ := fr
  simp only at h3 ⊢
  rw [decide_eq_false (show ¬ lo ≤ j by omega)]
  rfl
theorem BytesAt.set {w : World} {b : Nat} {l : List UInt8} (h : BytesAt w b l) (j : Nat) (x : UInt8) : BytesAt (w.setCell ⟨b, j, none⟩ (.int .u8 (x.toNat : Int))) b (l.set j x) := by
  obtain ⟨C, fr, h1, h3, h2⟩ := h
  refine ⟨C.setIfInBounds j (.int .u8 (x.toNat : Int)), fr, ?_, by simpa using h3, ?_⟩
  · unfold World.setCell
    simp [h1, Array.getElem?_modify]
  · intro k hk
    have hk' : k < l.length := by simpa using hk
    have := h2 k hk'
    rw [Array.getElem?_setIfInBounds, List.getElem_set]
    by_cases e : j = k
    · subst e
      have := (Array.getElem?_eq_some_iff.1 this).1
      simp [this]
    · simp [e, this]
theorem BytesAt.drew {w : World} {b : Nat} {l : List UInt8} (h : BytesAt w b l) : BytesAt w.drew b l := h
theorem BytesAt.fresh (w : World) (s : ByteArray) (cap : Nat) : BytesAt (w.alloc (.cells (bytesRow s cap) 5 ((bytesRow s cap).size, (bytesRow s cap).size + 1))) w.heap.size s.data.toList := by
  refine ⟨bytesRow s cap, ((bytesRow s cap).size, (bytesRow s cap).size + 1), by show (w.heap.push _)[w.heap.size]? = _; simp, ?_, ?_⟩
  · simp [bytesRow]
  · intro j hj
    rw [bytesRow_at s cap j (by simpa using hj)]
    rfl
theorem BytesAt.back {w : World} {b cap : Nat} {l : List UInt8} (h : BytesAt w b l) :
    (convert 22 9 (.slice (some ⟨b, 0, none⟩) l.length cap)).run Try.prog w = .ok (.string ⟨l.toArray⟩) w := by
  refine run_convert_bytes_back w _ _ 5 ⟨b, 0, none⟩ cap l Try.underlying22 Try.underlying5 Try.underlying9 ?_
  intro j hj
  have := h.cell j hj
  rw [← this, show (⟨b, 0, none⟩ : Addr).add j = ⟨b, j, none⟩ from by unfold Addr.add; split <;> simp_all]
theorem ten_at (k : Nat) (h : k < 10) : ∀ hk : k < (⟨#[48, 49, 50, 51, 52, 53, 54, 55, 56, 57]⟩ : ByteArray).size, ((⟨#[48, 49, 50, 51, 52, 53, 54, 55, 56, 57]⟩ : ByteArray)[k]'hk) = (48 + k).toUInt8 := by
  have : ∀ k : Fin 10, ∀ hk : k.1 < (⟨#[48, 49, 50, 51, 52, 53, 54, 55, 56, 57]⟩ : ByteArray).size, ((⟨#[48, 49, 50, 51, 52, 53, 54, 55, 56, 57]⟩ : ByteArray)[k.1]'hk) = (48 + k.1).toUInt8 := by decide
  exact this ⟨k, h⟩

theorem int_step (n : Int) (j : Nat) (x : Int) (h : x = n / 10 ^ j) (hx : 0 < x) (hr : -9223372036854775808 ≤ n ∧ n ≤ 9223372036854775807) : wrap64 (x.tdiv 10) = n / 10 ^ (j + 1) := by
  have h1 : n / 10 ^ (j + 1) = x / 10 := by rw [h, Int.pow_succ]; exact (Int.ediv_ediv_of_nonneg (Int.le_of_lt (Int.pow_pos (by decide)))).symm
  have h2 : x.tdiv 10 = x / 10 := Int.tdiv_eq_ediv_of_nonneg (by omega)
  have h3 : x ≤ n := by
    rw [h]
    refine Int.ediv_le_self _ ?_
    have := hr.1
    by_cases h0 : n < 0
    · have : n / 10 ^ j < 0 := Int.ediv_neg_of_neg_of_pos h0 (Int.pow_pos (by decide))
      omega
    · omega
  rw [h1, h2]
  exact IntWalk.wrap64_in _ ⟨by omega, by omega⟩
theorem dig_of (n : Int) (j : Nat) (x : Int) (d : Nat) (h : x = n / 10 ^ j) (hx : 0 < x) (hm : x.tmod 10 = (d : Int)) : n.toNat / 10 ^ j % 10 = d := by
  have h0 : 0 ≤ n := by
    by_cases h0 : n < 0
    · have : n / 10 ^ j < 0 := Int.ediv_neg_of_neg_of_pos h0 (Int.pow_pos (by decide))
      omega
    · omega
  obtain ⟨m, rfl⟩ := Int.eq_ofNat_of_zero_le h0
  rw [Int.toNat_natCast]
  rw [Int.tmod_eq_emod_of_nonneg (by omega), h] at hm
  exact_mod_cast hm
theorem row_step (n : Int) (z j q d : Nat) (hj : j < z) (hq : q = z - 1 - j) (hd : n.toNat / 10 ^ j % 10 = d) :
    (List.replicate (z - j) 48 ++ digL n.toNat j).set q (48 + d).toUInt8 = List.replicate (z - (j + 1)) 48 ++ digL n.toNat (j + 1) := by
  rw [digL_front, hd, List.set_append_left _ _ (by simp; omega), show z - j = q + 1 by omega, show z - (j + 1) = q by omega, List.replicate_succ', List.set_append_right _ _ (by simp)]
  simp
theorem digits_zero (n : Int) (z j : Nat) (hj : j ≤ z) (h : 0 = n / 10 ^ j) (hn : n < 0 → j = 0) : ¬ (n < 0 ∨ (10 : Int) ^ z ≤ n) ∧ List.replicate (z - j) 48 ++ digL n.toNat j = digL n.toNat z := by
  have h0 : 0 ≤ n := by
    by_cases h0 : n < 0
    · have : n / 10 ^ j < 0 := Int.ediv_neg_of_neg_of_pos h0 (Int.pow_pos (by decide))
      omega
    · omega
  obtain ⟨m, rfl⟩ := Int.eq_ofNat_of_zero_le h0
  rw [Int.toNat_natCast]
  have h1 : m / 10 ^ j = 0 := by exact_mod_cast h.symm
  have h2 : m < 10 ^ j := (Nat.div_eq_zero_iff_lt (Nat.pow_pos (by decide))).1 h1
  have h3 : m < 10 ^ z := Nat.lt_of_lt_of_le h2 (Nat.pow_le_pow_right (by decide) hj)
  refine ⟨?_, ?_⟩
  · rintro (h | h)
    · omega
    · have : (10 ^ z : Nat) ≤ m := by exact_mod_cast h
      omega
  · have := digL_pad m j (z - j) h1
    rw [← this, show z - j + j = z by omega]
theorem digits_some (n x : Int) (z j : Nat) (hj : j ≤ z) (h : x = n / 10 ^ j) (hx : x ≠ 0) (hc : ¬ (j < z ∧ 0 < x)) : n < 0 ∨ (10 : Int) ^ z ≤ n := by
  by_cases h0 : n < 0
  · exact .inl h0
  · refine .inr ?_
    have h1 : 0 ≤ n / 10 ^ j := Int.ediv_nonneg (by omega) (Int.le_of_lt (Int.pow_pos (by decide)))
    have hjz : j = z := by
      by_cases e : j = z
      · exact e
      · exfalso; exact hc ⟨by omega, by omega⟩
    subst hjz
    have h2 : 1 ≤ n / 10 ^ j := by omega
    have := (Int.le_ediv_iff_mul_le (Int.pow_pos (by decide))).1 h2
    simpa using this

set_option maxHeartbeats 2000000 in
set_option maxRecDepth 100000 in
theorem digits_any (n size : Int) (w : World) (hr : -9223372036854775808 ≤ n ∧ n ≤ 9223372036854775807) :
    Calls Try.prog 21 #[.int .i64 n, .int .i64 size] w fun e w' => e = .returned (.tuple #[.string (digitsR n size).1, .int .i64 (digitsR n size).2]) ∧ Below w.heap.size w w' := by
  have HRn := Lib.hid hr
  clear hr
  by_cases h0 : size < 1
  · have e : digitsR n size = (⟨#[]⟩, 40) := by simp [digitsR, h0]
    rw [e]
    clear e
    go_enter Try.func21, Try.ntmps21
    go_wp2
    go_ret2
    exact ⟨rfl, Below.refl _ _⟩
  · by_cases h1 : size > 18
    · have e : digitsR n size = (⟨#[]⟩, 40) := by simp [digitsR, h1]
      rw [e]
      clear e
      go_enter Try.func21, Try.ntmps21
      go_wp2
      go_ret2
      exact ⟨rfl, Below.refl _ _⟩
    · obtain ⟨z, rfl⟩ : ∃ z : Nat, size = (z : Int) := ⟨size.toNat, by omega⟩
      have HF := Lib.hid (show digitsR n (z : Int) = if n < 0 ∨ (10 : Int) ^ z ≤ n then (⟨#[]⟩, 41) else (⟨(digL n.toNat z).toArray⟩, 0) by simp [digitsR, h0, h1])
      generalize digitsR n (z : Int) = R at HF ⊢
      have hz0 : 1 ≤ z := by omega
      have hz1 : z ≤ 18 := by omega
      have HR := Lib.hid (Try.strings_Repeat ⟨#[48]⟩ z w (by omega) (by show 1 * z ≤ _; omega))
      have hs1 : (Lib.repeatL [48] z) = List.replicate z 48 := by
        have := Lib.repeatL_replicate 48 1 z
        simpa using this
      rw [hs1] at HR
      clear hs1
      obtain ⟨S, hS⟩ : ∃ S : ByteArray, S = ⟨(List.replicate z 48).toArray⟩ := ⟨_, rfl⟩
      rw [← hS] at HR
      have hSz : S.size = z := by rw [hS]; simp [ByteArray.size]
      have hSl : S.data.toList = List.replicate z 48 := by rw [hS]
      have hcv := fun w1 => run_bytes_of_string (P := Try.prog) w1 9 22 5 S Try.underlying9 Try.underlying22 Try.underlying5
      rw [hSz] at hcv
      have HCV := Lib.hid hcv
      have HSL := Lib.hid hSl
      clear hcv hS hSz hSl
      go_enter Try.func21, Try.ntmps21
      go_wp2_with fail
      refine (HR.out).mono ?_
      rintro e w1 ⟨rfl, hb1⟩
      have hcv := HCV.out w1
      have hB0 := BytesAt.fresh w1 S (grownCap w1 z 0 5)
      rw [HSL.out] at hB0
      generalize bytesRow S (grownCap w1 z 0 5) = C at hcv hB0
      generalize grownCap w1 z 0 5 = cap at hcv
      have HB0 := Aside0.mk hB0
      have HB1 := Aside0.mk hb1
      have hz2 : w.heap.size ≤ w1.heap.size := hb1.size
      clear hb1 hB0
      have hi0 : IntKind.i64.wrap ((z : Int) - 1) = (z : Int) - 1 := IntWalk.i64_in _ (by omega)
      go_wp2_with fail
      clear hcv hi0
      go_loopw [0, 7] (fun x i wr => ∃ (j : Nat), j ≤ z ∧ x = .int .i64 (n / 10 ^ j) ∧ i = .int .i64 ((z : Int) - 1 - (j : Int)) ∧ (n < 0 → j = 0) ∧ BytesAt wr w1.heap.size (List.replicate (z - j) 48 ++ digL n.toNat j) ∧ Below w.heap.size w wr) (fun _ i _ => (intOf i + 1).toNat)
      case atStart => exact ⟨0, Nat.zero_le _, by simp, by simp, fun _ => rfl, by simpa [digL] using HB0.out.drew, (HB1.out.alloc hz2 _).drew⟩
      case round =>
        obtain ⟨j, hj, rfl, rfl, hneg, hb, hB⟩ := hrel
        have HBd := Aside0.mk hb
        have HB := Aside0.mk hB
        have HN := Lib.hid hneg
        clear hb hB hneg
        obtain ⟨x, hxe⟩ : ∃ x : Int, x = n / 10 ^ j := ⟨_, rfl⟩
        rw [← hxe]
        have HX := Lib.hid hxe
        clear hxe
        by_cases hc : j < z ∧ 0 < x
        · obtain ⟨hjz, hx⟩ := hc
          have hlen : (List.replicate (z - j) 48 ++ digL n.toNat j).length = z := by rw [List.length_append, List.length_replicate, digL_length]; omega
          obtain ⟨q, hq⟩ : ∃ q, q = z - 1 - j := ⟨_, rfl⟩
          obtain ⟨old, hcell⟩ : ∃ old : Int, wr.cell? ⟨w1.heap.size, q, none⟩ = some (.int .u8 old) := ⟨_, HBd.out.cell q (by omega)⟩
          have hfro := HBd.out.frozen q (by omega)
          have hi : (z : Int) - 1 - (j : Int) = (q : Int) := by omega
          rw [hi]
          have hiz : q < z := by omega
          clear hi
          have hxm : x.tmod 10 = ((x % 10).toNat : Int) := by rw [Int.tmod_eq_emod_of_nonneg (by omega)]; omega
          have hxl : (x % 10).toNat < 10 := by omega
          generalize (x % 10).toNat = d at hxm hxl
          clear hlen
          have hq0 : (0 : Int) ≤ (q : Int) := by omega
          have hd0 : (0 : Int) ≤ (d : Int) := by omega
          have hd1 : (d : Int) < 10 := by omega
          have HQ := Lib.hid hq
          clear hq
          go_wp2_with fail
          have hq := HQ.out
          have hxe := HX.out
          refine ⟨⟨j + 1, by omega, ?_, by rw [show (q : Int) - 1 = (z : Int) - 1 - ((j + 1 : Nat) : Int) by omega], ?_, ?_, HB.out.setCell hz2 _⟩, by simp [intOf]⟩
          · rw [int_step n j x hxe hx HRn.out]
          · intro h
            exfalso
            have : n / 10 ^ j < 0 := Int.ediv_neg_of_neg_of_pos h (Int.pow_pos (by decide))
            omega
          · have hb := HBd.out.set q (48 + d).toUInt8
            rw [← ten_at d hxl (by show d < 10; omega)] at hb
            rw [ten_at d hxl (by show d < 10; omega)] at hb
            rw [ten_at d hxl (by show d < 10; omega), ← row_step n z j q d hjz hq (dig_of n j x d hxe hx hxm)]
            exact hb
        · have hxe := HX.out
          have hx00 : x ≤ 0 ∨ j = z := by
            by_cases hjz : j < z
            · exact .inl (by have : ¬ 0 < x := fun h => hc ⟨hjz, h⟩; omega)
            · exact .inr (by omega)
          by_cases h0x : x = 0
          · subst h0x
            have hz := digits_zero n z j hj hxe HN.out
            have hbk := HBd.out.back (cap := cap)
            have hlen : (List.replicate (z - j) 48 ++ digL n.toNat j).length = z := by rw [List.length_append, List.length_replicate, digL_length]; omega
            rw [hlen, hz.2] at hbk
            have hR : R = (⟨(digL n.toNat z).toArray⟩, 0) := by rw [HF.out, if_neg hz.1]
            subst hR
            obtain ⟨D, hD⟩ : ∃ D : ByteArray, D = ⟨(digL n.toNat z).toArray⟩ := ⟨_, rfl⟩
            rw [← hD] at hbk
            have HD := Lib.hid hD
            clear hD
            clear hxe hc hlen hz hx00
            by_cases hjz : j < z
            · have hi0 : (0 : Int) ≤ (z : Int) - 1 - (j : Int) := by omega
              go_wp2_with fail
              go_ret2
              exact ⟨by rw [← HD.out]; rfl, HB.out⟩
            · have hi0 : (z : Int) - 1 - (j : Int) < 0 := by omega
              go_wp2_with fail
              go_ret2
              exact ⟨by rw [← HD.out]; rfl, HB.out⟩
          · have hs := digits_some n x z j hj hxe h0x hc
            have hR : R = (⟨#[]⟩, 41) := by rw [HF.out, if_pos hs]
            subst hR
            have hne : (x != 0) = true := by simpa using h0x
            clear hxe hc hs
            by_cases hjz : j < z
            · have hi0 : (0 : Int) ≤ (z : Int) - 1 - (j : Int) := by omega
              have hx1 : x < 0 := by omega
              clear hx00 h0x
              go_wp2_with fail
              go_ret2
              exact ⟨rfl, HB.out⟩
            · have hi0 : (z : Int) - 1 - (j : Int) < 0 := by omega
              clear hx00 h0x
              go_wp2_with fail
              go_ret2
              exact ⟨rfl, HB.out⟩
end Go.Proofs.Ytcgfbdleapjigaa.fieldw
