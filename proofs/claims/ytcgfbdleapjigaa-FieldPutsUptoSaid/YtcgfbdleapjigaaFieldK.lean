/- Walks of layer 4: Take. Conditions: as each theorem says. -/
import Derived.Test.YtcgfbdleapjigaaFieldJ
import Derived.Test.YtcgfbdleapjigaaFieldD
namespace Go.Proofs.Ytcgfbdleapjigaa.fieldw
open Go.RowKit Go.Proofs.Ytcgfbdleapjigaa.fieldp Go.Proofs.YtcgfbdleapjigaaW.PrintWords Go.Proofs.YtcgfbdleapjigaaW.PrintLast

theorem text_any (k n c : Int) (b : Nat) (l : List UInt8) (w : World) (hrd : Rd w b l 0) (hm : mayB k n c = true) :
    Calls Try.prog 31 #[.pointer (some ⟨b, 0, none⟩), .agg #[.int .i64 k, .int .i64 n, .int .i64 c]] w (nextPost w b (textL k n c l)) := by
  have h : 1 ≤ k ∧ k ≤ 5 ∧ 1 ≤ n ∧ n ≤ 64 ∧ 1 ≤ c ∧ c ≤ 3 := by simpa [mayB] using hm
  rcases (show k = 1 ∨ k = 2 ∨ k = 3 ∨ k = 4 ∨ k = 5 by omega) with rfl | rfl | rfl | rfl | rfl
  · exact text_n n c b l w hrd h.2.2.1 h.2.2.2.1
  · exact text_ll n c b l w hrd h.2.2.1 h.2.2.2.1
  · exact text_an n c b l w hrd h.2.2.1 h.2.2.2.1
  · exact text_b n c b l w hrd h.2.2.1 h.2.2.2.1
  · exact text_x n c b l w hrd h.2.2.1 h.2.2.2.1
theorem toldN_range (t : List UInt8) : 0 ≤ toldN t ∧ toldN t ≤ 2805 := by
  unfold toldN
  have h1 := (t.getD 0 0 - 48).toNat_lt
  have h2 := (t.getD 1 0 - 48).toNat_lt
  omega
theorem textL_len (k n c : Int) (l : List UInt8) (h0 : 1 ≤ n) (h1 : n ≤ 64) : ((textL k n c l).1.length : Int) ≤ 10000 := by
  unfold textL
  split
  · split
    · show (0 : Int) ≤ _; decide
    · have a := next_len (lettersC c) l 0 (n := 1) (by decide)
      have b := next_len (digitsC c) (nextL (lettersC c) 1 l 0).2.1 (nextL (lettersC c) 1 l 0).2.2 (n := n) (by omega)
      simp only [List.length_append]
      omega
  · split
    · split
      · show (0 : Int) ≤ _; decide
      · have a := toldN_range (nextL (digitsC c) 2 l 0).1
        have b := next_len (digitsC c) (nextL (digitsC c) 2 l 0).2.1 (if toldN (nextL (digitsC c) 2 l 0).1 < 1 ∨ n < toldN (nextL (digitsC c) 2 l 0).1 then 42 else 0) a.1
        omega
    · split
      · have := next_len (digitsC c) l 0 (n := n) (by omega); omega
      · split
        · have := next_len (lettersC c) l 0 (n := n) (by omega); omega
        · have := next_len (rawC c) l 0 (n := 2 * n) (by omega); omega

theorem next_rest (ck : CK) (n : Int) (l : List UInt8) (e : Int) : (nextL ck n l e).2.1.length ≤ l.length := by
  unfold nextL
  split
  · exact Nat.le_refl _
  · split
    · exact Nat.le_refl _
    · split
      · exact Nat.le_refl _
      · show (List.drop _ _).length ≤ _
        rw [List.length_drop]; omega
theorem textL_rest (k n c : Int) (l : List UInt8) : (textL k n c l).2.1.length ≤ l.length := by
  unfold textL
  split
  · split
    · exact Nat.le_refl _
    · exact Nat.le_trans (next_rest _ _ _ _) (next_rest _ _ _ _)
  · split
    · split
      · exact next_rest _ _ _ _
      · exact Nat.le_trans (next_rest _ _ _ _) (next_rest _ _ _ _)
    · split
      · exact next_rest _ _ _ _
      · split
        · exact next_rest _ _ _ _
        · exact next_rest _ _ _ _
theorem BytesAt.V {w W : World} {b cap : Nat} {l : List UInt8} (h : BytesAt W b l) (hb : w.heap.size ≤ b) (hcap : l.length ≤ cap) (hl : l.length ≤ 9223372036854775807) :
    Kd.V (Kd.int .u8) 5 W w.heap.size (fun k_ => (w.heap.size ≤ k_)) (.slice (some ⟨b, 0, none⟩) l.length cap) (nums8 l) := by
  have hnl : (nums8 l).length = l.length := by simp [nums8]
  refine ⟨some ⟨b, 0, none⟩, cap, by rw [hnl], by rw [hnl]; exact hcap, ?_⟩
  intro W' hW
  rw [hnl]
  have h' : BytesAt W' b l := by
    obtain ⟨C, fr, h1, h2, h3⟩ := h
    exact ⟨C, fr, (hW b hb (Array.getElem?_eq_some_iff.1 h1).1).trans h1, h2, h3⟩
  refine ⟨hnl, hl, fun _ => ⟨_, rfl, ?_⟩⟩
  intro j p hj
  have hj' : j < l.length := by rw [← hnl]; exact (List.getElem?_eq_some_iff.1 hj).1
  refine ⟨[.int .u8 p], rfl, rfl, ?_⟩
  intro i u hu
  match i, hu with
  | 0, hu =>
    have hu' : u = .int .u8 p := by simpa using hu.symm
    subst hu'
    have hp : p = (l[j].toNat : Int) := by
      have := (List.getElem?_eq_some_iff.1 hj).2
      simpa [nums8] using this.symm
    subst hp
    have := h'.cell j hj'
    rw [← this, show (⟨b, 0, none⟩ : Addr).add (j * (Kd.int .u8).sz + 0) = ⟨b, j, none⟩ from by
      show (⟨b, 0, none⟩ : Addr).add (j * 1 + 0) = _
      unfold Addr.add; simp; intro h; exact h.symm]
  | i + 1, hu => simp at hu
theorem V_drew2 {w W : World} {ok : Nat → Prop} {v : Value} {l : List Int} (h : Kd.V (Kd.int .u8) 5 W w.heap.size ok v l) : Kd.V (Kd.int .u8) 5 W.drew.drew w.heap.size ok v l := h
theorem strOf_len (l : List Int) : (strOfNums l).data.toList.length = l.length := by
  rw [strOfNums_data]; simp

/-- What Take answers. -/
def takeR (l0 : List Int) (k n c : Int) : ByteArray × List Int × Int :=
  if mayB k n c = true then
    if (textL k n c (strOfNums l0).data.toList).2.2 ≠ 0 then (⟨#[]⟩, [], (textL k n c (strOfNums l0).data.toList).2.2)
    else if rightB k n (textL k n c (strOfNums l0).data.toList).1 = true then (⟨(textL k n c (strOfNums l0).data.toList).1.toArray⟩, nums8 (textL k n c (strOfNums l0).data.toList).2.1, 0)
    else (⟨#[]⟩, [], 42)
  else (⟨#[]⟩, [], 40)

set_option maxHeartbeats 4000000 in
set_option maxRecDepth 100000 in
theorem take_any (k n c : Int) (A0 : Option Addr) (c0 : Nat) (l0 : List Int) (w : World) (hr0 : Kd.C (Kd.int .u8) w A0 l0.length l0) :
    Calls Try.prog 17 #[.slice A0 l0.length c0, .agg #[.int .i64 k, .int .i64 n, .int .i64 c]] w fun e w' => ∃ v1_ : Value, e = .returned (.tuple #[.string (takeR l0 k n c).1, v1_, .int .i64 (takeR l0 k n c).2.2]) ∧ Kd.V (Kd.int .u8) 5 w' w.heap.size (fun k_ => (w.heap.size ≤ k_)) v1_ (takeR l0 k n c).2.1 ∧ Below w.heap.size w w' := by
  have HM := Lib.hid (may_any k n c)
  have HR0 := Aside0.mk hr0
  clear hr0
  cases hm : mayB k n c with
  | false =>
    have e : takeR l0 k n c = (⟨#[]⟩, [], 40) := by simp [takeR, hm]
    rw [e]
    rw [hm] at HM
    clear e hm
    go_enter Try.func17, Try.ntmps17
    go_wp2_with fail
    refine (HM.out _).mono ?_
    rintro e w1 ⟨rfl, hb1⟩
    have HB := Lib.hid (((Below.refl w.heap.size w).alloc (Nat.le_refl _) _).trans (hb1.mono (by simp)))
    clear hb1
    go_wp2_with fail
    go_ret3
    exact ⟨_, rfl, Kd.V_nil _ _ _ _ _, HB.out⟩
  | true =>
    have hn : 1 ≤ n ∧ n ≤ 64 := by simp [mayB] at hm; omega
    have hlen := textL_len k n c (strOfNums l0).data.toList hn.1 hn.2
    have hR := fun w s (hs : s.size ≤ 100000000) => right_any k n c s w hs hn.1 hn.2
    have HRT := Lib.hid hR
    clear hR
    have HF := Lib.hid (show takeR l0 k n c = if (textL k n c (strOfNums l0).data.toList).2.2 ≠ 0 then (⟨#[]⟩, [], (textL k n c (strOfNums l0).data.toList).2.2)
      else if rightB k n (textL k n c (strOfNums l0).data.toList).1 = true then (⟨(textL k n c (strOfNums l0).data.toList).1.toArray⟩, nums8 (textL k n c (strOfNums l0).data.toList).2.1, 0)
      else (⟨#[]⟩, [], 42) by simp [takeR, hm])
    have HT := Lib.hid (fun b w hrd => text_any k n c b (strOfNums l0).data.toList w hrd hm)
    generalize takeR l0 k n c = R at HF ⊢
    have hrest := textL_rest k n c (strOfNums l0).data.toList
    generalize textL k n c (strOfNums l0).data.toList = T at HF HT hlen hrest
    obtain ⟨t, l', e'⟩ := T
    simp only at HF HT hlen hrest
    rw [hm] at HM
    have hl63 : l'.length ≤ 9223372036854775807 := Nat.le_trans hrest (by have := HR0.out.2.1; rw [strOf_len]; exact this)
    clear hm hn hrest
    go_enter Try.func17, Try.ntmps17
    go_wp2_with fail
    refine (HM.out _).mono ?_
    rintro e w1 ⟨rfl, hb1⟩
    have hz1 : w.heap.size < w1.heap.size := by have := hb1.size; simp at this; omega
    have hcv := Kd.C_string (P := Try.prog) (c := c0) Try.underlying22 Try.underlying5 Try.underlying9 (Kd.C_below (Kd.C_below HR0.out ((Below.refl _ _).alloc (Nat.le_refl _) _)) hb1)
    obtain ⟨hc1, hf1⟩ := bcell hb1
    have HB1 := Aside0.mk (((Below.refl w.heap.size w).alloc (Nat.le_refl _) _).trans (hb1.mono (by simp)))
    clear hb1
    have hk0 : ∀ o : Obj, (w1.alloc o).cell? ⟨w.heap.size, 0, none⟩ = some (.int .i64 k) := fun o => by
      rw [((Below.refl _ _).alloc (Nat.le_refl _) _).cell (p := ⟨w.heap.size, 0, none⟩) hz1, hc1 _ _ (by simp)]; go_simp
    have hk1 : ∀ o : Obj, (w1.alloc o).cell? ⟨w.heap.size, 1, none⟩ = some (.int .i64 n) := fun o => by
      rw [((Below.refl _ _).alloc (Nat.le_refl _) _).cell (p := ⟨w.heap.size, 1, none⟩) hz1, hc1 _ _ (by simp)]; go_simp
    have hk2 : ∀ o : Obj, (w1.alloc o).cell? ⟨w.heap.size, 2, none⟩ = some (.int .i64 c) := fun o => by
      rw [((Below.refl _ _).alloc (Nat.le_refl _) _).cell (p := ⟨w.heap.size, 2, none⟩) hz1, hc1 _ _ (by simp)]; go_simp
    have HK := Aside0.mk (And.intro hk0 (And.intro hk1 hk2))
    clear hk0 hk1 hk2
    go_wp2_with fail
    refine (HT.out _ _ (by show (w1.heap.push _)[w1.heap.size]? = _; simp)).mono ?_
    rintro e w3 ⟨rfl, hrd3, ht3⟩
    have hk0 : w3.cell? ⟨w.heap.size, 0, none⟩ = some (.int .i64 k) := ht3.cell (by show w.heap.size ≠ w1.heap.size; omega) (HK.out.1 _)
    have hk1 : w3.cell? ⟨w.heap.size, 1, none⟩ = some (.int .i64 n) := ht3.cell (by show w.heap.size ≠ w1.heap.size; omega) (HK.out.2.1 _)
    have hk2 : w3.cell? ⟨w.heap.size, 2, none⟩ = some (.int .i64 c) := ht3.cell (by show w.heap.size ≠ w1.heap.size; omega) (HK.out.2.2 _)
    have hr0 : w3.cell? ⟨w1.heap.size, 0, none⟩ = some (.string ⟨l'.toArray⟩) := blk_cell hrd3 0
    have hr1 : w3.cell? ⟨w1.heap.size, 1, none⟩ = some (.int .i64 e') := blk_cell hrd3 1
    have HB3 := Aside0.mk ((HB1.out.alloc (by omega) _).trans (ht3.below (by simp; omega) (by omega)))
    clear hrd3 ht3 hc1 hf1 hcv
    obtain ⟨D, hD⟩ : ∃ D : ByteArray, D = ⟨t.toArray⟩ := ⟨_, rfl⟩
    have hDs : D.size ≤ 100000000 := by rw [hD, size_arr]; omega
    have hDl : D.data.toList = t := by rw [hD]
    simp only [← hD] at HF ⊢
    have HDL := Lib.hid hDl
    clear hD hDl
    by_cases he : e' = 0
    · subst he
      have hRc := fun w => HRT.out w D hDs
      rw [HDL.out] at hRc
      have HRc := Lib.hid hRc
      clear hRc
      generalize rightB k n t = rb at HF HRc
      cases rb with
      | false =>
        have hRe : R = (⟨#[]⟩, [], 42) := by rw [HF.out]; simp
        subst hRe
        clear HF
        go_wp2_with fail
        refine (HRc.out _).mono ?_
        rintro e w4 ⟨rfl, hb4⟩
        have HB4 := Aside0.mk (HB3.out.trans (hb4.mono HB3.out.size))
        clear hb4
        go_wp2_with fail
        go_ret3
        exact ⟨_, rfl, Kd.V_nil _ _ _ _ _, HB4.out⟩
      | true =>
        have hRe : R = (D, nums8 l', 0) := by rw [HF.out]; simp
        subst hRe
        clear HF
        go_wp2_with fail
        refine (HRc.out _).mono ?_
        rintro e w4 ⟨rfl, hb4⟩
        have hr0' : w4.cell? ⟨w1.heap.size, 0, none⟩ = some (.string ⟨l'.toArray⟩) := (hb4.cell (World.block_lt_of_cell? w3 _ hr0)).trans hr0
        have HB4 := Aside0.mk (HB3.out.trans (hb4.mono HB3.out.size))
        clear hb4 hk0 hk1 hk2 hr0 hr1
        obtain ⟨S, hS⟩ : ∃ S : ByteArray, S = ⟨l'.toArray⟩ := ⟨_, rfl⟩
        rw [← hS] at hr0'
        have HS := Lib.hid hS
        clear hS
        have hcv := fun W => run_bytes_of_string (P := Try.prog) W 9 22 5 S Try.underlying9 Try.underlying22 Try.underlying5
        go_wp2_with fail
        go_region
        have hVV := (BytesAt.fresh w4 S (grownCap w4.drew S.size 0 5)).V (w := w) (cap := grownCap w4.drew S.size 0 5) HB4.out.size (by rw [size_list]; exact grownCap_ge _ _ _ _) (by rw [HS.out]; exact hl63)
        have HV := Aside0.mk hVV
        clear hVV hcv
        go_wp2_with fail
        go_ret3
        exact ⟨_, rfl, by have := HV.out; rw [size_list, HS.out] at this; rw [HS.out]; exact V_drew2 this, ((HB4.out.alloc HB4.out.size _).drew).drew⟩
    · have hne : (e' != 0) = true := by simpa using he
      have hRe : R = (⟨#[]⟩, [], e') := by rw [HF.out, if_pos he]
      subst hRe
      clear HF he
      go_wp2_with fail
      go_quiet (fail)
      go_wp2_with fail
      go_ret3
      exact ⟨_, rfl, Kd.V_nil _ _ _ _ _, pw_below_drewN HB3.out _⟩
end Go.Proofs.Ytcgfbdleapjigaa.fieldw
