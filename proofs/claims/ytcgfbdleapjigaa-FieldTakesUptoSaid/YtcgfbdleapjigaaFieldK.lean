/- Walks of layer 4: Digits, Take, Amount, When. Conditions: as each theorem says. -/
import Derived.Test.YtcgfbdleapjigaaFieldB
import Derived.Test.YtcgfbdleapjigaaFieldPlain
import Derived.Laws.IdiomStrings
import Derived.Deep.QuietTactic
import Derived.BigQuiet
import Derived.IntWalk
import Derived.Test.YtcgfbdleapjigaaWWords
import Derived.Test.YtcgfbdleapjigaaWLast
import Derived.StillTailTactics
import Derived.Test.YtcgfbdleapjigaaFieldH
namespace Go.Proofs.Ytcgfbdleapjigaa.fieldw
open Go.RowKit Go.Proofs.Ytcgfbdleapjigaa.fieldp Go.Proofs.YtcgfbdleapjigaaW.PrintWords Go.Proofs.YtcgfbdleapjigaaW.PrintLast

/-- A row of bytes that nothing else holds. -/
def BytesAt (w : World) (b : Nat) (l : List UInt8) : Prop :=
  ∃ C fr, w.heap[b]? = some (.cells C 5 fr) ∧ l.length ≤ fr.1 ∧ ∀ j (h : j < l.length), C[j]? = some (.int .u8 (l[j].toNat : Int))
theorem BytesAt.cell {w : World} {b : Nat} {l : List UInt8} (h : BytesAt w b l) (j : Nat) (hj : j < l.length) : w.cell? ⟨b, j, none⟩ = some (.int .u8 (l[j].toNat : Int)) := by
  obtain ⟨C, fr, h1, _, h2⟩ := h
  unfold World.cell?
  rw [h1]
  simpa using h2 j hj
theorem BytesAt.frozen {w : World} {b : Nat} {l : List UInt8} (h : BytesAt w b l) (j : Nat) (hj : j < l.length) : w.frozen? ⟨b, j, none⟩ = false := by
  obtain ⟨C, fr, h1, h3, h2⟩ := h
  unfold World.frozen?
  rw [h1]
  obtain ⟨lo, hi⟩ := fr
  simp only at h3 ⊢
  rw [decide_eq_false (show ¬ lo ≤ j by omega)]
  rfl
theorem BytesAt.set {w : World} {b : Nat} {l : List UInt8} (h : BytesAt w b l) (j : Nat) (x : UInt8) : BytesAt (w.setCell ⟨b, j, none⟩ (.int .u8 (x.toNat : Int))) b (l.set j x) := by
  obtain ⟨C, fr, h1, h3, h2⟩ := h
  refine ⟨C.setIfInBounds j (.int .u8 (x.toNat : Int)), fr, ?_, by simpa using h3, ?_⟩
  · unfold World.setCell
    simp [h1, Array.getElem?_modify]
  · intro k hk
    have hk' : k < l.length := by simpa using hk
    have := h2 k hk'
    rw [Array.getElem?_setIfInBounds, List.getElem_set]
    by_cases e : j = k
    · subst e
      have := (Array.getElem?_eq_some_iff.1 this).1
      simp [this]
    · simp [e, this]
theorem BytesAt.drew {w : World} {b : Nat} {l : List UInt8} (h : BytesAt w b l) : BytesAt w.drew b l := h
theorem BytesAt.fresh (w : World) (s : ByteArray) (cap : Nat) : BytesAt (w.alloc (.cells (bytesRow s cap) 5 ((bytesRow s cap).size, (bytesRow s cap).size + 1))) w.heap.size s.data.toList := by
  refine ⟨bytesRow s cap, ((bytesRow s cap).size, (bytesRow s cap).size + 1), by show (w.heap.push _)[w.heap.size]? = _; simp, ?_, ?_⟩
  · simp [bytesRow]
  · intro j hj
    rw [bytesRow_at s cap j (by simpa using hj)]
    rfl
theorem BytesAt.back {w : World} {b cap : Nat} {l : List UInt8} (h : BytesAt w b l) :
    (convert 22 9 (.slice (some ⟨b, 0, none⟩) l.length cap)).run Try.prog w = .ok (.string ⟨l.toArray⟩) w := by
  refine run_convert_bytes_back w _ _ 5 ⟨b, 0, none⟩ cap l Try.underlying22 Try.underlying5 Try.underlying9 ?_
  intro j hj
  have := h.cell j hj
  rw [← this, show (⟨b, 0, none⟩ : Addr).add j = ⟨b, j, none⟩ from by unfold Addr.add; split <;> simp_all]
theorem ten_at (k : Nat) (h : k < 10) : ∀ hk : k < (⟨#[48, 49, 50, 51, 52, 53, 54, 55, 56, 57]⟩ : ByteArray).size, ((⟨#[48, 49, 50, 51, 52, 53, 54, 55, 56, 57]⟩ : ByteArray)[k]'hk) = (48 + k).toUInt8 := by
  have : ∀ k : Fin 10, ∀ hk : k.1 < (⟨#[48, 49, 50, 51, 52, 53, 54, 55, 56, 57]⟩ : ByteArray).size, ((⟨#[48, 49, 50, 51, 52, 53, 54, 55, 56, 57]⟩ : ByteArray)[k.1]'hk) = (48 + k.1).toUInt8 := by decide
  exact this ⟨k, h⟩

theorem int_step (n : Int) (j : Nat) (x : Int) (h : x = n / 10 ^ j) (hx : 0 < x) (hr : -9223372036854775808 ≤ n ∧ n ≤ 9223372036854775807) : wrap64 (x.tdiv 10) = n / 10 ^ (j + 1) := by
  have h1 : n / 10 ^ (j + 1) = x / 10 := by rw [h, Int.pow_succ]; exact (Int.ediv_ediv_of_nonneg (Int.le_of_lt (Int.pow_pos (by decide)))).symm
  have h2 : x.tdiv 10 = x / 10 := Int.tdiv_eq_ediv_of_nonneg (by omega)
  have h3 : x ≤ n := by
    rw [h]
    refine Int.ediv_le_self _ ?_
    have := hr.1
    by_cases h0 : n < 0
    · have : n / 10 ^ j < 0 := Int.ediv_neg_of_neg_of_pos h0 (Int.pow_pos (by decide))
      omega
    · omega
  rw [h1, h2]
  exact IntWalk.wrap64_in _ ⟨by omega, by omega⟩
theorem dig_of (n : Int) (j : Nat) (x : Int) (d : Nat) (h : x = n / 10 ^ j) (hx : 0 < x) (hm : x.tmod 10 = (d : Int)) : n.toNat / 10 ^ j % 10 = d := by
  have h0 : 0 ≤ n := by
    by_cases h0 : n < 0
    · have : n / 10 ^ j < 0 := Int.ediv_neg_of_neg_of_pos h0 (Int.pow_pos (by decide))
      omega
    · omega
  obtain ⟨m, rfl⟩ := Int.eq_ofNat_of_zero_le h0
  rw [Int.toNat_natCast]
  rw [Int.tmod_eq_emod_of_nonneg (by omega), h] at hm
  exact_mod_cast hm
theorem row_step (n : Int) (z j q d : Nat) (hj : j < z) (hq : q = z - 1 - j) (hd : n.toNat / 10 ^ j % 10 = d) :
    (List.replicate (z - j) 48 ++ digL n.toNat j).set q (48 + d).toUInt8 = List.replicate (z - (j + 1)) 48 ++ digL n.toNat (j + 1) := by
  rw [digL_front, hd, List.set_append_left _ _ (by simp; omega), show z - j = q + 1 by omega, show z - (j + 1) = q by omega, List.replicate_succ', List.set_append_right _ _ (by simp)]
  simp
theorem digits_zero (n : Int) (z j : Nat) (hj : j ≤ z) (h : 0 = n / 10 ^ j) (hn : n < 0 → j = 0) : ¬ (n < 0 ∨ (10 : Int) ^ z ≤ n) ∧ List.replicate (z - j) 48 ++ digL n.toNat j = digL n.toNat z := by
  have h0 : 0 ≤ n := by
    by_cases h0 : n < 0
    · have : n / 10 ^ j < 0 := Int.ediv_neg_of_neg_of_pos h0 (Int.pow_pos (by decide))
      omega
    · omega
  obtain ⟨m, rfl⟩ := Int.eq_ofNat_of_zero_le h0
  rw [Int.toNat_natCast]
  have h1 : m / 10 ^ j = 0 := by exact_mod_cast h.symm
  have h2 : m < 10 ^ j := (Nat.div_eq_zero_iff_lt (Nat.pow_pos (by decide))).1 h1
  have h3 : m < 10 ^ z := Nat.lt_of_lt_of_le h2 (Nat.pow_le_pow_right (by decide) hj)
  refine ⟨?_, ?_⟩
  · rintro (h | h)
    · omega
    · have : (10 ^ z : Nat) ≤ m := by exact_mod_cast h
      omega
  · have := digL_pad m j (z - j) h1
    rw [← this, show z - j + j = z by omega]
theorem digits_some (n x : Int) (z j : Nat) (hj : j ≤ z) (h : x = n / 10 ^ j) (hx : x ≠ 0) (hc : ¬ (j < z ∧ 0 < x)) : n < 0 ∨ (10 : Int) ^ z ≤ n := by
  by_cases h0 : n < 0
  · exact .inl h0
  · refine .inr ?_
    have h1 : 0 ≤ n / 10 ^ j := Int.ediv_nonneg (by omega) (Int.le_of_lt (Int.pow_pos (by decide)))
    have hjz : j = z := by
      by_cases e : j = z
      · exact e
      · exfalso; exact hc ⟨by omega, by omega⟩
    subst hjz
    have h2 : 1 ≤ n / 10 ^ j := by omega
    have := (Int.le_ediv_iff_mul_le (Int.pow_pos (by decide))).1 h2
    simpa using this

set_option maxHeartbeats 2000000 in
set_option maxRecDepth 100000 in
theorem digits_any (n size : Int) (w : World) (hr : -9223372036854775808 ≤ n ∧ n ≤ 9223372036854775807) :
    Calls Try.prog 21 #[.int .i64 n, .int .i64 size] w fun e w' => e = .returned (.tuple #[.string (digitsR n size).1, .int .i64 (digitsR n size).2]) ∧ Below w.heap.size w w' := by
  have HRn := Lib.hid hr
  clear hr
  by_cases h0 : size < 1
  · have e : digitsR n size = (⟨#[]⟩, 40) := by simp [digitsR, h0]
    rw [e]
    clear e
    go_enter Try.func21, Try.ntmps21
    go_wp2
    go_ret2
    exact ⟨rfl, Below.refl _ _⟩
  · by_cases h1 : size > 18
    · have e : digitsR n size = (⟨#[]⟩, 40) := by simp [digitsR, h1]
      rw [e]
      clear e
      go_enter Try.func21, Try.ntmps21
      go_wp2
      go_ret2
      exact ⟨rfl, Below.refl _ _⟩
    · obtain ⟨z, rfl⟩ : ∃ z : Nat, size = (z : Int) := ⟨size.toNat, by omega⟩
      have HF := Lib.hid (show digitsR n (z : Int) = if n < 0 ∨ (10 : Int) ^ z ≤ n then (⟨#[]⟩, 41) else (⟨(digL n.toNat z).toArray⟩, 0) by simp [digitsR, h0, h1])
      generalize digitsR n (z : Int) = R at HF ⊢
      have hz0 : 1 ≤ z := by omega
      have hz1 : z ≤ 18 := by omega
      have HR := Lib.hid (Try.strings_Repeat ⟨#[48]⟩ z w (by omega) (by show 1 * z ≤ _; omega))
      have hs1 : (Lib.repeatL [48] z) = List.replicate z 48 := by
        have := Lib.repeatL_replicate 48 1 z
        simpa using this
      rw [hs1] at HR
      clear hs1
      obtain ⟨S, hS⟩ : ∃ S : ByteArray, S = ⟨(List.replicate z 48).toArray⟩ := ⟨_, rfl⟩
      rw [← hS] at HR
      have hSz : S.size = z := by rw [hS]; simp [ByteArray.size]
      have hSl : S.data.toList = List.replicate z 48 := by rw [hS]
      have hcv := fun w1 => run_bytes_of_string (P := Try.prog) w1 9 22 5 S Try.underlying9 Try.underlying22 Try.underlying5
      rw [hSz] at hcv
      have HCV := Lib.hid hcv
      have HSL := Lib.hid hSl
      clear hcv hS hSz hSl
      go_enter Try.func21, Try.ntmps21
      go_wp2_with fail
      refine (HR.out).mono ?_
      rintro e w1 ⟨rfl, hb1⟩
      have hcv := HCV.out w1
      have hB0 := BytesAt.fresh w1 S (grownCap w1 z 0 5)
      rw [HSL.out] at hB0
      generalize bytesRow S (grownCap w1 z 0 5) = C at hcv hB0
      generalize grownCap w1 z 0 5 = cap at hcv
      have HB0 := Aside0.mk hB0
      have HB1 := Aside0.mk hb1
      have hz2 : w.heap.size ≤ w1.heap.size := hb1.size
      clear hb1 hB0
      have hi0 : IntKind.i64.wrap ((z : Int) - 1) = (z : Int) - 1 := IntWalk.i64_in _ (by omega)
      go_wp2_with fail
      clear hcv hi0
      go_loopw [0, 7] (fun x i wr => ∃ (j : Nat), j ≤ z ∧ x = .int .i64 (n / 10 ^ j) ∧ i = .int .i64 ((z : Int) - 1 - (j : Int)) ∧ (n < 0 → j = 0) ∧ BytesAt wr w1.heap.size (List.replicate (z - j) 48 ++ digL n.toNat j) ∧ Below w.heap.size w wr) (fun _ i _ => (intOf i + 1).toNat)
      case atStart => exact ⟨0, Nat.zero_le _, by simp, by simp, fun _ => rfl, by simpa [digL] using HB0.out.drew, (HB1.out.alloc hz2 _).drew⟩
      case round =>
        obtain ⟨j, hj, rfl, rfl, hneg, hb, hB⟩ := hrel
        have HBd := Aside0.mk hb
        have HB := Aside0.mk hB
        have HN := Lib.hid hneg
        clear hb hB hneg
        obtain ⟨x, hxe⟩ : ∃ x : Int, x = n / 10 ^ j := ⟨_, rfl⟩
        rw [← hxe]
        have HX := Lib.hid hxe
        clear hxe
        by_cases hc : j < z ∧ 0 < x
        · obtain ⟨hjz, hx⟩ := hc
          have hlen : (List.replicate (z - j) 48 ++ digL n.toNat j).length = z := by rw [List.length_append, List.length_replicate, digL_length]; omega
          obtain ⟨q, hq⟩ : ∃ q, q = z - 1 - j := ⟨_, rfl⟩
          obtain ⟨old, hcell⟩ : ∃ old : Int, wr.cell? ⟨w1.heap.size, q, none⟩ = some (.int .u8 old) := ⟨_, HBd.out.cell q (by omega)⟩
          have hfro := HBd.out.frozen q (by omega)
          have hi : (z : Int) - 1 - (j : Int) = (q : Int) := by omega
          rw [hi]
          have hiz : q < z := by omega
          clear hi
          have hxm : x.tmod 10 = ((x % 10).toNat : Int) := by rw [Int.tmod_eq_emod_of_nonneg (by omega)]; omega
          have hxl : (x % 10).toNat < 10 := by omega
          generalize (x % 10).toNat = d at hxm hxl
          clear hlen
          have hq0 : (0 : Int) ≤ (q : Int) := by omega
          have hd0 : (0 : Int) ≤ (d : Int) := by omega
          have hd1 : (d : Int) < 10 := by omega
          have HQ := Lib.hid hq
          clear hq
          go_wp2_with fail
          have hq := HQ.out
          have hxe := HX.out
          refine ⟨⟨j + 1, by omega, ?_, by rw [show (q : Int) - 1 = (z : Int) - 1 - ((j + 1 : Nat) : Int) by omega], ?_, ?_, HB.out.setCell hz2 _⟩, by simp [intOf]⟩
          · rw [int_step n j x hxe hx HRn.out]
          · intro h
            exfalso
            have : n / 10 ^ j < 0 := Int.ediv_neg_of_neg_of_pos h (Int.pow_pos (by decide))
            omega
          · have hb := HBd.out.set q (48 + d).toUInt8
            rw [← ten_at d hxl (by show d < 10; omega)] at hb
            rw [ten_at d hxl (by show d < 10; omega)] at hb
            rw [ten_at d hxl (by show d < 10; omega), ← row_step n z j q d hjz hq (dig_of n j x d hxe hx hxm)]
            exact hb
        · have hxe := HX.out
          have hx00 : x ≤ 0 ∨ j = z := by
            by_cases hjz : j < z
            · exact .inl (by have : ¬ 0 < x := fun h => hc ⟨hjz, h⟩; omega)
            · exact .inr (by omega)
          by_cases h0x : x = 0
          · subst h0x
            have hz := digits_zero n z j hj hxe HN.out
            have hbk := HBd.out.back (cap := cap)
            have hlen : (List.replicate (z - j) 48 ++ digL n.toNat j).length = z := by rw [List.length_append, List.length_replicate, digL_length]; omega
            rw [hlen, hz.2] at hbk
            have hR : R = (⟨(digL n.toNat z).toArray⟩, 0) := by rw [HF.out, if_neg hz.1]
            subst hR
            obtain ⟨D, hD⟩ : ∃ D : ByteArray, D = ⟨(digL n.toNat z).toArray⟩ := ⟨_, rfl⟩
            rw [← hD] at hbk
            have HD := Lib.hid hD
            clear hD
            clear hxe hc hlen hz hx00
            by_cases hjz : j < z
            · have hi0 : (0 : Int) ≤ (z : Int) - 1 - (j : Int) := by omega
              go_wp2_with fail
              go_ret2
              exact ⟨by rw [← HD.out]; rfl, HB.out⟩
            · have hi0 : (z : Int) - 1 - (j : Int) < 0 := by omega
              go_wp2_with fail
              go_ret2
              exact ⟨by rw [← HD.out]; rfl, HB.out⟩
          · have hs := digits_some n x z j hj hxe h0x hc
            have hR : R = (⟨#[]⟩, 41) := by rw [HF.out, if_pos hs]
            subst hR
            have hne : (x != 0) = true := by simpa using h0x
            clear hxe hc hs
            by_cases hjz : j < z
            · have hi0 : (0 : Int) ≤ (z : Int) - 1 - (j : Int) := by omega
              have hx1 : x < 0 := by omega
              clear hx00 h0x
              go_wp2_with fail
              go_ret2
              exact ⟨rfl, HB.out⟩
            · have hi0 : (z : Int) - 1 - (j : Int) < 0 := by omega
              clear hx00 h0x
              go_wp2_with fail
              go_ret2
              exact ⟨rfl, HB.out⟩
end Go.Proofs.Ytcgfbdleapjigaa.fieldw

namespace Go.Proofs.Ytcgfbdleapjigaa.fieldw
open Go.RowKit Go.Proofs.Ytcgfbdleapjigaa.fieldp Go.Proofs.YtcgfbdleapjigaaW.PrintWords Go.Proofs.YtcgfbdleapjigaaW.PrintLast

theorem text_any (k n c : Int) (b : Nat) (l : List UInt8) (w : World) (hrd : Rd w b l 0) (hm : mayB k n c = true) :
    Calls Try.prog 31 #[.pointer (some ⟨b, 0, none⟩), .agg #[.int .i64 k, .int .i64 n, .int .i64 c]] w (nextPost w b (textL k n c l)) := by
  have h : 1 ≤ k ∧ k ≤ 5 ∧ 1 ≤ n ∧ n ≤ 64 ∧ 1 ≤ c ∧ c ≤ 3 := by simpa [mayB] using hm
  rcases (show k = 1 ∨ k = 2 ∨ k = 3 ∨ k = 4 ∨ k = 5 by omega) with rfl | rfl | rfl | rfl | rfl
  · exact text_n n c b l w hrd h.2.2.1 h.2.2.2.1
  · exact text_ll n c b l w hrd h.2.2.1 h.2.2.2.1
  · exact text_an n c b l w hrd h.2.2.1 h.2.2.2.1
  · exact text_b n c b l w hrd h.2.2.1 h.2.2.2.1
  · exact text_x n c b l w hrd h.2.2.1 h.2.2.2.1
theorem toldN_range (t : List UInt8) : 0 ≤ toldN t ∧ toldN t ≤ 2805 := by
  unfold toldN
  have h1 := (t.getD 0 0 - 48).toNat_lt
  have h2 := (t.getD 1 0 - 48).toNat_lt
  omega
theorem textL_len (k n c : Int) (l : List UInt8) (h0 : 1 ≤ n) (h1 : n ≤ 64) : ((textL k n c l).1.length : Int) ≤ 10000 := by
  unfold textL
  split
  · split
    · show (0 : Int) ≤ _; decide
    · have a := next_len (lettersC c) l 0 (n := 1) (by decide)
      have b := next_len (digitsC c) (nextL (lettersC c) 1 l 0).2.1 (nextL (lettersC c) 1 l 0).2.2 (n := n) (by omega)
      simp only [List.length_append]
      omega
  · split
    · split
      · show (0 : Int) ≤ _; decide
      · have a := toldN_range (nextL (digitsC c) 2 l 0).1
        have b := next_len (digitsC c) (nextL (digitsC c) 2 l 0).2.1 (if toldN (nextL (digitsC c) 2 l 0).1 < 1 ∨ n < toldN (nextL (digitsC c) 2 l 0).1 then 42 else 0) a.1
        omega
    · split
      · have := next_len (digitsC c) l 0 (n := n) (by omega); omega
      · split
        · have := next_len (lettersC c) l 0 (n := n) (by omega); omega
        · have := next_len (rawC c) l 0 (n := 2 * n) (by omega); omega

theorem next_rest (ck : CK) (n : Int) (l : List UInt8) (e : Int) : (nextL ck n l e).2.1.length ≤ l.length := by
  unfold nextL
  split
  · exact Nat.le_refl _
  · split
    · exact Nat.le_refl _
    · split
      · exact Nat.le_refl _
      · show (List.drop _ _).length ≤ _
        rw [List.length_drop]; omega
theorem textL_rest (k n c : Int) (l : List UInt8) : (textL k n c l).2.1.length ≤ l.length := by
  unfold textL
  split
  · split
    · exact Nat.le_refl _
    · exact Nat.le_trans (next_rest _ _ _ _) (next_rest _ _ _ _)
  · split
    · split
      · exact next_rest _ _ _ _
      · exact Nat.le_trans (next_rest _ _ _ _) (next_rest _ _ _ _)
    · split
      · exact next_rest _ _ _ _
      · split
        · exact next_rest _ _ _ _
        · exact next_rest _ _ _ _
theorem BytesAt.V {w W : World} {b cap : Nat} {l : List UInt8} (h : BytesAt W b l) (hb : w.heap.size ≤ b) (hcap : l.length ≤ cap) (hl : l.length ≤ 9223372036854775807) :
    Kd.V (Kd.int .u8) 5 W w.heap.size (fun k_ => (w.heap.size ≤ k_)) (.slice (some ⟨b, 0, none⟩) l.length cap) (nums8 l) := by
  have hnl : (nums8 l).length = l.length := by simp [nums8]
  refine ⟨some ⟨b, 0, none⟩, cap, by rw [hnl], by rw [hnl]; exact hcap, ?_⟩
  intro W' hW
  rw [hnl]
  have h' : BytesAt W' b l := by
    obtain ⟨C, fr, h1, h2, h3⟩ := h
    exact ⟨C, fr, (hW b hb (Array.getElem?_eq_some_iff.1 h1).1).trans h1, h2, h3⟩
  refine ⟨hnl, hl, fun _ => ⟨_, rfl, ?_⟩⟩
  intro j p hj
  have hj' : j < l.length := by rw [← hnl]; exact (List.getElem?_eq_some_iff.1 hj).1
  refine ⟨[.int .u8 p], rfl, rfl, ?_⟩
  intro i u hu
  match i, hu with
  | 0, hu =>
    have hu' : u = .int .u8 p := by simpa using hu.symm
    subst hu'
    have hp : p = (l[j].toNat : Int) := by
      have := (List.getElem?_eq_some_iff.1 hj).2
      simpa [nums8] using this.symm
    subst hp
    have := h'.cell j hj'
    rw [← this, show (⟨b, 0, none⟩ : Addr).add (j * (Kd.int .u8).sz + 0) = ⟨b, j, none⟩ from by
      show (⟨b, 0, none⟩ : Addr).add (j * 1 + 0) = _
      unfold Addr.add; simp; intro h; exact h.symm]
  | i + 1, hu => simp at hu
theorem V_drew2 {w W : World} {ok : Nat → Prop} {v : Value} {l : List Int} (h : Kd.V (Kd.int .u8) 5 W w.heap.size ok v l) : Kd.V (Kd.int .u8) 5 W.drew.drew w.heap.size ok v l := h
theorem strOf_len (l : List Int) : (strOfNums l).data.toList.length = l.length := by
  rw [strOfNums_data]; simp

/-- What Take answers. -/
def takeR (l0 : List Int) (k n c : Int) : ByteArray × List Int × Int :=
  if mayB k n c = true then
    if (textL k n c (strOfNums l0).data.toList).2.2 ≠ 0 then (⟨#[]⟩, [], (textL k n c (strOfNums l0).data.toList).2.2)
    else if rightB k n (textL k n c (strOfNums l0).data.toList).1 = true then (⟨(textL k n c (strOfNums l0).data.toList).1.toArray⟩, nums8 (textL k n c (strOfNums l0).data.toList).2.1, 0)
    else (⟨#[]⟩, [], 42)
  else (⟨#[]⟩, [], 40)

set_option maxHeartbeats 4000000 in
set_option maxRecDepth 100000 in
theorem take_any (k n c : Int) (A0 : Option Addr) (c0 : Nat) (l0 : List Int) (w : World) (hr0 : Kd.C (Kd.int .u8) w A0 l0.length l0) :
    Calls Try.prog 17 #[.slice A0 l0.length c0, .agg #[.int .i64 k, .int .i64 n, .int .i64 c]] w fun e w' => ∃ v1_ : Value, e = .returned (.tuple #[.string (takeR l0 k n c).1, v1_, .int .i64 (takeR l0 k n c).2.2]) ∧ Kd.V (Kd.int .u8) 5 w' w.heap.size (fun k_ => (w.heap.size ≤ k_)) v1_ (takeR l0 k n c).2.1 ∧ Below w.heap.size w w' := by
  have HM := Lib.hid (may_any k n c)
  have HR0 := Aside0.mk hr0
  clear hr0
  cases hm : mayB k n c with
  | false =>
    have e : takeR l0 k n c = (⟨#[]⟩, [], 40) := by simp [takeR, hm]
    rw [e]
    rw [hm] at HM
    clear e hm
    go_enter Try.func17, Try.ntmps17
    go_wp2_with fail
    refine (HM.out _).mono ?_
    rintro e w1 ⟨rfl, hb1⟩
    have HB := Lib.hid (((Below.refl w.heap.size w).alloc (Nat.le_refl _) _).trans (hb1.mono (by simp)))
    clear hb1
    go_wp2_with fail
    go_ret3
    exact ⟨_, rfl, Kd.V_nil _ _ _ _ _, HB.out⟩
  | true =>
    have hn : 1 ≤ n ∧ n ≤ 64 := by simp [mayB] at hm; omega
    have hlen := textL_len k n c (strOfNums l0).data.toList hn.1 hn.2
    have hR := fun w s (hs : s.size ≤ 100000000) => right_any k n c s w hs hn.1 hn.2
    have HRT := Lib.hid hR
    clear hR
    have HF := Lib.hid (show takeR l0 k n c = if (textL k n c (strOfNums l0).data.toList).2.2 ≠ 0 then (⟨#[]⟩, [], (textL k n c (strOfNums l0).data.toList).2.2)
      else if rightB k n (textL k n c (strOfNums l0).data.toList).1 = true then (⟨(textL k n c (strOfNums l0).data.toList).1.toArray⟩, nums8 (textL k n c (strOfNums l0).data.toList).2.1, 0)
      else (⟨#[]⟩, [], 42) by simp [takeR, hm])
    have HT := Lib.hid (fun b w hrd => text_any k n c b (strOfNums l0).data.toList w hrd hm)
    generalize takeR l0 k n c = R at HF ⊢
    have hrest := textL_rest k n c (strOfNums l0).data.toList
    generalize textL k n c (strOfNums l0).data.toList = T at HF HT hlen hrest
    obtain ⟨t, l', e'⟩ := T
    simp only at HF HT hlen hrest
    rw [hm] at HM
    have hl63 : l'.length ≤ 9223372036854775807 := Nat.le_trans hrest (by have := HR0.out.2.1; rw [strOf_len]; exact this)
    clear hm hn hrest
    go_enter Try.func17, Try.ntmps17
    go_wp2_with fail
    refine (HM.out _).mono ?_
    rintro e w1 ⟨rfl, hb1⟩
    have hz1 : w.heap.size < w1.heap.size := by have := hb1.size; simp at this; omega
    have hcv := Kd.C_string (P := Try.prog) (c := c0) Try.underlying22 Try.underlying5 Try.underlying9 (Kd.C_below (Kd.C_below HR0.out ((Below.refl _ _).alloc (Nat.le_refl _) _)) hb1)
    obtain ⟨hc1, hf1⟩ := bcell hb1
    have HB1 := Aside0.mk (((Below.refl w.heap.size w).alloc (Nat.le_refl _) _).trans (hb1.mono (by simp)))
    clear hb1
    have hk0 : ∀ o : Obj, (w1.alloc o).cell? ⟨w.heap.size, 0, none⟩ = some (.int .i64 k) := fun o => by
      rw [((Below.refl _ _).alloc (Nat.le_refl _) _).cell (p := ⟨w.heap.size, 0, none⟩) hz1, hc1 _ _ (by simp)]; go_simp
    have hk1 : ∀ o : Obj, (w1.alloc o).cell? ⟨w.heap.size, 1, none⟩ = some (.int .i64 n) := fun o => by
      rw [((Below.refl _ _).alloc (Nat.le_refl _) _).cell (p := ⟨w.heap.size, 1, none⟩) hz1, hc1 _ _ (by simp)]; go_simp
    have hk2 : ∀ o : Obj, (w1.alloc o).cell? ⟨w.heap.size, 2, none⟩ = some (.int .i64 c) := fun o => by
      rw [((Below.refl _ _).alloc (Nat.le_refl _) _).cell (p := ⟨w.heap.size, 2, none⟩) hz1, hc1 _ _ (by simp)]; go_simp
    have HK := Aside0.mk (And.intro hk0 (And.intro hk1 hk2))
    clear hk0 hk1 hk2
    go_wp2_with fail
    refine (HT.out _ _ (by show (w1.heap.push _)[w1.heap.size]? = _; simp)).mono ?_
    rintro e w3 ⟨rfl, hrd3, ht3⟩
    have hk0 : w3.cell? ⟨w.heap.size, 0, none⟩ = some (.int .i64 k) := ht3.cell (by show w.heap.size ≠ w1.heap.size; omega) (HK.out.1 _)
    have hk1 : w3.cell? ⟨w.heap.size, 1, none⟩ = some (.int .i64 n) := ht3.cell (by show w.heap.size ≠ w1.heap.size; omega) (HK.out.2.1 _)
    have hk2 : w3.cell? ⟨w.heap.size, 2, none⟩ = some (.int .i64 c) := ht3.cell (by show w.heap.size ≠ w1.heap.size; omega) (HK.out.2.2 _)
    have hr0 : w3.cell? ⟨w1.heap.size, 0, none⟩ = some (.string ⟨l'.toArray⟩) := blk_cell hrd3 0
    have hr1 : w3.cell? ⟨w1.heap.size, 1, none⟩ = some (.int .i64 e') := blk_cell hrd3 1
    have HB3 := Aside0.mk ((HB1.out.alloc (by omega) _).trans (ht3.below (by simp; omega) (by omega)))
    clear hrd3 ht3 hc1 hf1 hcv
    obtain ⟨D, hD⟩ : ∃ D : ByteArray, D = ⟨t.toArray⟩ := ⟨_, rfl⟩
    have hDs : D.size ≤ 100000000 := by rw [hD, size_arr]; omega
    have hDl : D.data.toList = t := by rw [hD]
    simp only [← hD] at HF ⊢
    have HDL := Lib.hid hDl
    clear hD hDl
    by_cases he : e' = 0
    · subst he
      have hRc := fun w => HRT.out w D hDs
      rw [HDL.out] at hRc
      have HRc := Lib.hid hRc
      clear hRc
      generalize rightB k n t = rb at HF HRc
      cases rb with
      | false =>
        have hRe : R = (⟨#[]⟩, [], 42) := by rw [HF.out]; simp
        subst hRe
        clear HF
        go_wp2_with fail
        refine (HRc.out _).mono ?_
        rintro e w4 ⟨rfl, hb4⟩
        have HB4 := Aside0.mk (HB3.out.trans (hb4.mono HB3.out.size))
        clear hb4
        go_wp2_with fail
        go_ret3
        exact ⟨_, rfl, Kd.V_nil _ _ _ _ _, HB4.out⟩
      | true =>
        have hRe : R = (D, nums8 l', 0) := by rw [HF.out]; simp
        subst hRe
        clear HF
        go_wp2_with fail
        refine (HRc.out _).mono ?_
        rintro e w4 ⟨rfl, hb4⟩
        have hr0' : w4.cell? ⟨w1.heap.size, 0, none⟩ = some (.string ⟨l'.toArray⟩) := (hb4.cell (World.block_lt_of_cell? w3 _ hr0)).trans hr0
        have HB4 := Aside0.mk (HB3.out.trans (hb4.mono HB3.out.size))
        clear hb4 hk0 hk1 hk2 hr0 hr1
        obtain ⟨S, hS⟩ : ∃ S : ByteArray, S = ⟨l'.toArray⟩ := ⟨_, rfl⟩
        rw [← hS] at hr0'
        have HS := Lib.hid hS
        clear hS
        have hcv := fun W => run_bytes_of_string (P := Try.prog) W 9 22 5 S Try.underlying9 Try.underlying22 Try.underlying5
        go_wp2_with fail
        go_region
        have hVV := (BytesAt.fresh w4 S (grownCap w4.drew S.size 0 5)).V (w := w) (cap := grownCap w4.drew S.size 0 5) HB4.out.size (by rw [size_list]; exact grownCap_ge _ _ _ _) (by rw [HS.out]; exact hl63)
        have HV := Aside0.mk hVV
        clear hVV hcv
        go_wp2_with fail
        go_ret3
        exact ⟨_, rfl, by have := HV.out; rw [size_list, HS.out] at this; rw [HS.out]; exact V_drew2 this, ((HB4.out.alloc HB4.out.size _).drew).drew⟩
    · have hne : (e' != 0) = true := by simpa using he
      have hRe : R = (⟨#[]⟩, [], e') := by rw [HF.out, if_pos he]
      subst hRe
      clear HF he
      go_wp2_with fail
      go_quiet (fail)
      go_wp2_with fail
      go_ret3
      exact ⟨_, rfl, Kd.V_nil _ _ _ _ _, pw_below_drewN HB3.out _⟩
end Go.Proofs.Ytcgfbdleapjigaa.fieldw

namespace Go.Proofs.Ytcgfbdleapjigaa.fieldw
open Go.RowKit Go.Proofs.Ytcgfbdleapjigaa.fieldp Go.Proofs.YtcgfbdleapjigaaW.PrintWords Go.Proofs.YtcgfbdleapjigaaW.PrintLast

theorem take_dig {s : ByteArray} (h : s.data.toList.all (inRow tenL) = true) (k : Nat) : ∀ c ∈ s.data.toList.take k, isDig c :=
  fun c hc => row_dig (List.all_eq_true.1 h c (List.mem_of_mem_take hc))
set_option maxHeartbeats 2000000 in
set_option maxRecDepth 100000 in
theorem amount_any (s : ByteArray) (w : World) (hs : s.size ≤ 100000000) :
    Calls Try.prog 19 #[.string s] w fun e w' => e = .returned (.tuple #[.int .i64 (amountR s.data.toList).1, .int .i64 (amountR s.data.toList).2]) ∧ w = w' := by
  have HO := Lib.hid (fun w => of_any s ⟨#[48, 49, 50, 51, 52, 53, 54, 55, 56, 57]⟩ s.size w (by omega))
  by_cases h0 : s.data.toList = []
  · have he : s.toList = [] := by rw [ByteArray.toList_eq, h0]
    have he1 : s.toList.isEmpty = true := by rw [he]; rfl
    have e : amountR s.data.toList = (0, 41) := by simp [amountR, h0]
    rw [e]
    clear e h0
    go_enter Try.func19, Try.ntmps19
    go_wp2_with fail
    go_ret2
    exact ⟨rfl, rfl⟩
  · have he : (s.toList = []) = False := by rw [ByteArray.toList_eq]; simpa using h0
    have he1 : s.toList.isEmpty = false := by
      rw [ByteArray.toList_eq]
      cases h : s.data.toList with
      | nil => exact absurd h h0
      | cons => rfl
    by_cases h1 : 18 < s.size
    · have e : amountR s.data.toList = (0, 41) := by
        unfold amountR
        rw [if_neg]
        rintro ⟨_, h, _⟩
        rw [size_list] at h
        omega
      rw [e]
      clear e h0
      go_enter Try.func19, Try.ntmps19
      go_wp2_with fail
      go_ret2
      exact ⟨rfl, rfl⟩
    · have hd18 : decide (18 < (s.size : Int)) = false := by simp; omega
      cases ho : ofB s.data.toList tenL s.size with
      | false =>
        have e : amountR s.data.toList = (0, 41) := by
          unfold amountR
          rw [if_neg]
          rintro ⟨_, _, h⟩
          rw [ofB, h] at ho
          simp at ho
        rw [e]
        have HO' := HO.out
        rw [show (⟨#[48, 49, 50, 51, 52, 53, 54, 55, 56, 57]⟩ : ByteArray).data.toList = tenL from rfl, ho] at HO'
        have HO2 := Lib.hid HO'
        clear e h0 ho HO'
        go_enter Try.func19, Try.ntmps19
        go_wp2_with fail
        refine (HO2.out _).mono ?_
        rintro e w1 ⟨rfl, rfl⟩
        go_wp2_with fail
        go_ret2
        exact ⟨rfl, rfl⟩
      | true =>
        obtain ⟨hall, -⟩ := ofB_all ho
        have e : amountR s.data.toList = (numL s.data.toList, 0) := by
          unfold amountR
          rw [if_pos ⟨h0, by rw [size_list]; omega, hall⟩]
        rw [e]
        have HALL := Lib.hid hall
        have HO' := HO.out
        rw [show (⟨#[48, 49, 50, 51, 52, 53, 54, 55, 56, 57]⟩ : ByteArray).data.toList = tenL from rfl, ho] at HO'
        have HO2 := Lib.hid HO'
        have hs18 : s.size ≤ 18 := by omega
        clear e h0 ho HO' hall
        go_enter Try.func19, Try.ntmps19
        go_wp2_with fail
        refine (HO2.out _).mono ?_
        rintro e w1 ⟨rfl, rfl⟩
        go_wp2_with fail
        go_loop [4, 22] (fun n i => ∃ k : Nat, k ≤ s.size ∧ i = .int .i64 k ∧ n = .int .i64 (numL (s.data.toList.take k))) (fun _ i => s.size - (intOf i).toNat)
        case atStart => exact ⟨0, Nat.zero_le _, rfl, rfl⟩
        case round =>
          obtain ⟨k, hk, rfl, rfl⟩ := hrel
          by_cases hlt : k < s.size
          · have hs1 : numL (s.data.toList.take (k + 1)) = 10 * numL (s.data.toList.take k) + ((s[k].toNat : Int) - 48) := by rw [take_snoc s k hlt, numL_snoc]
            have hdg : isDig s[k] := take_dig HALL.out (k + 1) _ (by rw [take_snoc s k hlt]; simp)
            have hr := numL_range k _ (by rw [List.length_take, size_list]; omega) (take_dig HALL.out k)
            have hp : (10 : Int) ^ k ≤ 10 ^ 17 := by
              have : (10 : Nat) ^ k ≤ 10 ^ 17 := Nat.pow_le_pow_right (by decide) (by omega)
              exact_mod_cast this
            generalize numL (s.data.toList.take k) = m at hs1 hr ⊢
            have hm0 : 0 ≤ m := hr.1
            have hm1 : m < 100000000000000000 := by have := hr.2; omega
            unfold isDig at hdg
            have hw1 : IntKind.i64.wrap (10 * m) = 10 * m := IntWalk.i64_in _ (by omega)
            have hw2 : IntKind.u8.wrap ((s[k].toNat : Int) - 48) = (s[k].toNat : Int) - 48 := IntWalk.u8_in _ (by omega)
            have hw3 : IntKind.i64.wrap ((s[k].toNat : Int) - 48) = (s[k].toNat : Int) - 48 := IntWalk.i64_in _ (by omega)
            have hw4 : IntKind.i64.wrap (10 * m + ((s[k].toNat : Int) - 48)) = 10 * m + ((s[k].toNat : Int) - 48) := IntWalk.i64_in _ (by omega)
            have HS1 := Lib.hid hs1
            have HM := Lib.hid hm1
            clear hs1 hr hp hm1
            go_wp2_with fail
            exact ⟨⟨k + 1, by omega, by go_num, by rw [HS1.out]⟩, by simp [intOf]; omega⟩
          · have hke : s.data.toList.take k = s.data.toList := List.take_of_length_le (by rw [size_list]; omega)
            rw [hke]
            clear hke
            go_wp2_with fail
            go_ret2
            exact ⟨rfl, rfl⟩
end Go.Proofs.Ytcgfbdleapjigaa.fieldw

namespace Go.Proofs.Ytcgfbdleapjigaa.fieldw
open Go.RowKit Go.Proofs.Ytcgfbdleapjigaa.fieldp Go.Proofs.YtcgfbdleapjigaaW.PrintWords Go.Proofs.YtcgfbdleapjigaaW.PrintLast

def five (v : Nat → Int) (k : Nat) : Array Value := #[.int .i64 (if 0 < k then v 0 else 0), .int .i64 (if 1 < k then v 1 else 0), .int .i64 (if 2 < k then v 2 else 0), .int .i64 (if 3 < k then v 3 else 0), .int .i64 (if 4 < k then v 4 else 0)]
theorem five_cell {w : World} {b : Nat} {v : Nat → Int} {k : Nat} {T : TypeId} (h : w.heap[b]? = some (.cells (five v k) T (0, 0))) (j : Nat) (hj : j < 5) : w.cell? ⟨b, j, none⟩ = some (.int .i64 (if j < k then v j else 0)) := by
  rw [blk_cell h j]
  match j, hj with
  | 0, _ => rfl
  | 1, _ => rfl
  | 2, _ => rfl
  | 3, _ => rfl
  | 4, _ => rfl
theorem five_set (v : Nat → Int) (k : Nat) (hk : k < 5) : (five v k).setIfInBounds k (.int .i64 (v k)) = five v (k + 1) := by
  match k, hk with
  | 0, _ => rfl
  | 1, _ => rfl
  | 2, _ => rfl
  | 3, _ => rfl
  | 4, _ => rfl
theorem day_at (a : Int) (j : Nat) (hj : a - 1 = (j : Int)) (h12 : j < 12) : ∀ h : j < (⟨#[31, 29, 31, 30, 31, 30, 31, 31, 30, 31, 30, 31]⟩ : ByteArray).size, wrap64 ((((⟨#[31, 29, 31, 30, 31, 30, 31, 31, 30, 31, 30, 31]⟩ : ByteArray)[j]'h).toNat : Nat) : Int) = daysL a := by
  have : ∀ j : Fin 12, ∀ h : j.1 < (⟨#[31, 29, 31, 30, 31, 30, 31, 31, 30, 31, 30, 31]⟩ : ByteArray).size, ((((⟨#[31, 29, 31, 30, 31, 30, 31, 31, 30, 31, 30, 31]⟩ : ByteArray)[j.1]'h).toNat : Nat) : Int) = ([31, 29, 31, 30, 31, 30, 31, 31, 30, 31, 30, 31] : List Int).getD j.1 0 := by decide
  intro h
  have hb := ((⟨#[31, 29, 31, 30, 31, 30, 31, 31, 30, 31, 30, 31]⟩ : ByteArray)[j]'h).toNat_lt
  rw [IntWalk.wrap64_in _ (by omega), this ⟨j, h12⟩ h]
  unfold daysL
  rw [hj]
  rfl
set_option maxHeartbeats 2000000 in
set_option maxRecDepth 100000 in
theorem when_any (s : ByteArray) (w : World) (hs : s.size ≤ 100000000) :
    Calls Try.prog 23 #[.string s] w fun e w' => e = .returned (.bool (whenR s.data.toList)) ∧ Below w.heap.size w w' := by
  have HO := Lib.hid (fun w => of_any s ⟨#[48, 49, 50, 51, 52, 53, 54, 55, 56, 57]⟩ 10 w (by omega))
  have HF := Lib.hid (show whenR s.data.toList = (ofB s.data.toList tenL 10 && decide (1 ≤ pairN s.data.toList 0 ∧ pairN s.data.toList 0 ≤ 12 ∧ 1 ≤ pairN s.data.toList 1 ∧ pairN s.data.toList 1 ≤ daysL (pairN s.data.toList 0) ∧ pairN s.data.toList 2 < 24 ∧ pairN s.data.toList 3 < 60 ∧ pairN s.data.toList 4 < 60)) from rfl)
  generalize whenR s.data.toList = R at HF ⊢
  cases ho : ofB s.data.toList tenL 10 with
  | false =>
    have HO' := HO.out
    rw [show (⟨#[48, 49, 50, 51, 52, 53, 54, 55, 56, 57]⟩ : ByteArray).data.toList = tenL from rfl, ho] at HO'
    have HO2 := Lib.hid HO'
    rw [ho, Bool.false_and] at HF
    have hR := HF.out
    subst hR
    clear ho HO'
    go_enter Try.func23, Try.ntmps23
    go_wp2_with fail
    refine (HO2.out _).mono ?_
    rintro e w1 ⟨rfl, rfl⟩
    go_wp2_with fail
    go_ret
    exact ⟨rfl, Below.refl _ _⟩
  | true =>
    obtain ⟨hall, hl10⟩ := ofB_all ho
    rw [size_list] at hl10
    have hs10 : s.size = 10 := by omega
    have hA : ∀ (k : Nat) (w : World), k < 5 → Calls Try.prog 19 #[.string (s.extract (2 * k) (2 * k + 2))] w fun e w' => e = .returned (.tuple #[.int .i64 (pairN s.data.toList k), .int .i64 0]) ∧ w = w' := by
      intro k w hk
      have hd : (s.extract (2 * k) (2 * k + 2)).data.toList = (s.data.toList.drop (2 * k)).take 2 := by
        simp [ByteArray.data_extract]
      have hsz : (s.extract (2 * k) (2 * k + 2)).size = 2 := by rw [← size_list, hd, List.length_take, List.length_drop, size_list]; omega
      have := amount_any (s.extract (2 * k) (2 * k + 2)) w (by omega)
      have ha : amountR (s.extract (2 * k) (2 * k + 2)).data.toList = (pairN s.data.toList k, 0) := by
        unfold amountR
        rw [if_pos]
        · rw [hd]; rfl
        · refine ⟨?_, by rw [size_list]; omega, ?_⟩
          · intro e
            rw [← size_list, e] at hsz
            cases hsz
          · rw [hd]
            exact List.all_eq_true.2 fun c hc => List.all_eq_true.1 hall c (List.mem_of_mem_drop (List.mem_of_mem_take hc))
      rw [ha] at this
      exact this
    have HA := Lib.hid hA
    have HO' := HO.out
    rw [show (⟨#[48, 49, 50, 51, 52, 53, 54, 55, 56, 57]⟩ : ByteArray).data.toList = tenL from rfl, ho] at HO'
    have HO2 := Lib.hid HO'
    rw [ho, Bool.true_and] at HF
    generalize pairN s.data.toList = v at HA HF
    have hs10' : 10 ≤ s.size := by omega
    clear hl10 ho hall hA HO' hs10
    go_enter Try.func23, Try.ntmps23
    go_wp2_with fail
    refine (HO2.out _).mono ?_
    rintro e w1 ⟨rfl, rfl⟩
    go_wp2_with fail
    go_loopw [8] (fun i wr => ∃ k : Nat, k ≤ 5 ∧ i = .int .i64 k ∧ wr.heap[w.heap.size]? = some (.cells (five v k) 65 (0, 0)) ∧ Below w.heap.size w wr) (fun i _ => 5 - (intOf i).toNat)
    case atStart => exact ⟨0, by omega, rfl, by show (w.heap.push _)[w.heap.size]? = _; simp [five], (Below.refl _ _).alloc (Nat.le_refl _) _⟩
    case round =>
      obtain ⟨k, hk, rfl, hblk, hB⟩ := hrel
      have HBK := Aside0.mk hblk
      have HB := Aside0.mk hB
      by_cases hlt : k < 5
      · have hc := five_cell hblk k hlt
        have hf : wr.frozen? ⟨w.heap.size, k, none⟩ = false := blk_frozen hblk k
        have h1 : 2 * k + 2 ≤ s.size := by omega
        clear hblk hB
        go_wp2_with fail
        refine (HA.out k _ hlt).mono ?_
        rintro e w2 ⟨rfl, rfl⟩
        go_wp2_with fail
        exact ⟨⟨k + 1, by omega, by go_num, by rw [← five_set v k hlt]; exact blk_set HBK.out k _, HB.out.setCell (Nat.le_refl _) _⟩, by simp [intOf]; omega⟩
      · obtain rfl : k = 5 := by omega
        have c0 : wr.cell? ⟨w.heap.size, 0, none⟩ = some (.int .i64 (v 0)) := five_cell hblk 0 (by decide)
        have c1 : wr.cell? ⟨w.heap.size, 1, none⟩ = some (.int .i64 (v 1)) := five_cell hblk 1 (by decide)
        have c2 : wr.cell? ⟨w.heap.size, 2, none⟩ = some (.int .i64 (v 2)) := five_cell hblk 2 (by decide)
        have c3 : wr.cell? ⟨w.heap.size, 3, none⟩ = some (.int .i64 (v 3)) := five_cell hblk 3 (by decide)
        have c4 : wr.cell? ⟨w.heap.size, 4, none⟩ = some (.int .i64 (v 4)) := five_cell hblk 4 (by decide)
        clear hblk hB HBK HA
        generalize v 0 = a0 at *
        generalize v 1 = a1 at *
        generalize v 2 = a2 at *
        generalize v 3 = a3 at *
        generalize v 4 = a4 at *
        by_cases g0 : 1 ≤ a0
        · by_cases g1 : a0 ≤ 12
          · by_cases g2 : 1 ≤ a1
            · obtain ⟨j, hj, hj12⟩ : ∃ j : Nat, a0 - 1 = (j : Int) ∧ j < 12 := ⟨(a0 - 1).toNat, by omega, by omega⟩
              have gw : IntKind.i64.wrap (j : Int) = (j : Int) := IntWalk.i64_in _ (by omega)
              have gw2 : IntKind.i64.wrap (a0 - 1) = (j : Int) := by rw [hj]; exact gw
              have hday := day_at a0 j hj hj12
              have e0 : decide (1 ≤ a0) = true := decide_eq_true g0
              have e1 : decide (a0 ≤ 12) = true := decide_eq_true g1
              have e2 : decide (1 ≤ a1) = true := decide_eq_true g2
              have hj0 : (0 : Int) ≤ (j : Int) := by omega
              have hj1 : (j : Int) < 12 := by omega
              generalize daysL a0 = D at hday HF
              by_cases g3 : a1 ≤ D
              · have e3 : decide (a1 ≤ D) = true := decide_eq_true g3
                by_cases g4 : a2 < 24
                · have e4 : decide (a2 < 24) = true := decide_eq_true g4
                  by_cases g5 : a3 < 60
                  · have e5 : decide (a3 < 60) = true := decide_eq_true g5
                    by_cases g6 : a4 < 60
                    · have e6 : decide (a4 < 60) = true := decide_eq_true g6
                      have hR : R = true := by rw [HF.out]; simp [g0, g1, g2, g3, g4, g5, g6]
                      subst hR
                      go_wp2_with fail
                      go_quiet (fail)
                      go_wp2_with fail
                      go_ret
                      exact ⟨rfl, pw_below_drewN HB.out _⟩
                    · have e6 : decide (a4 < 60) = false := decide_eq_false g6
                      have hR : R = false := by rw [HF.out]; simp [g6]
                      subst hR
                      go_wp2_with fail
                      go_quiet (fail)
                      go_wp2_with fail
                      go_ret
                      exact ⟨rfl, pw_below_drewN HB.out _⟩
                  · have e5 : decide (a3 < 60) = false := decide_eq_false g5
                    have hR : R = false := by rw [HF.out]; simp [g5]
                    subst hR
                    go_wp2_with fail
                    go_quiet (fail)
                    go_wp2_with fail
                    go_ret
                    exact ⟨rfl, pw_below_drewN HB.out _⟩
                · have e4 : decide (a2 < 24) = false := decide_eq_false g4
                  have hR : R = false := by rw [HF.out]; simp [g4]
                  subst hR
                  go_wp2_with fail
                  go_quiet (fail)
                  go_wp2_with fail
                  go_ret
                  exact ⟨rfl, pw_below_drewN HB.out _⟩
              · have e3 : decide (a1 ≤ D) = false := decide_eq_false g3
                have hR : R = false := by rw [HF.out]; simp [g3]
                subst hR
                go_wp2_with fail
                go_quiet (fail)
                go_wp2_with fail
                go_ret
                exact ⟨rfl, pw_below_drewN HB.out _⟩
            · have hR : R = false := by rw [HF.out]; simp [g2]
              have d2 : decide (1 ≤ a1) = false := decide_eq_false g2
              subst hR
              go_wp2_with fail
              go_quiet (fail)
              go_wp2_with fail
              go_ret
              exact ⟨rfl, pw_below_drewN HB.out _⟩
          · have hR : R = false := by rw [HF.out]; simp [g1]
            have d1 : decide (a0 ≤ 12) = false := decide_eq_false g1
            subst hR
            go_wp2_with fail
            go_quiet (fail)
            go_wp2_with fail
            go_ret
            exact ⟨rfl, pw_below_drewN HB.out _⟩
        · have hR : R = false := by rw [HF.out]; simp [g0]
          have d0 : decide (1 ≤ a0) = false := decide_eq_false g0
          subst hR
          go_wp2_with fail
          go_quiet (fail)
          go_wp2_with fail
          go_ret
          exact ⟨rfl, pw_below_drewN HB.out _⟩
end Go.Proofs.Ytcgfbdleapjigaa.fieldw
