/- Walks of layer 4: what reads a text. Conditions: as each theorem says. -/
import Derived.Test.YtcgfbdleapjigaaFieldH
import Derived.Test.YtcgfbdleapjigaaFieldGZ
namespace Go.Proofs.Ytcgfbdleapjigaa.fieldw
open Go.RowKit Go.Proofs.Ytcgfbdleapjigaa.fieldp Go.Proofs.YtcgfbdleapjigaaW.PrintWords Go.Proofs.YtcgfbdleapjigaaW.PrintLast

/-- Two digits as a number. -/
def toldN (t : List UInt8) : Int := 10 * ((t.getD 0 0 - 48).toNat : Int) + ((t.getD 1 0 - 48).toNat : Int)
/-- What a form's bytes say, what is left, what is wrong. -/
def textL (k n c : Int) (l : List UInt8) : List UInt8 × List UInt8 × Int :=
  if k = 5 then
    if (l.length : Int) < (lettersC c).size 1 + (digitsC c).size n then ([], l, 43)
    else ((nextL (lettersC c) 1 l 0).1 ++ (nextL (digitsC c) n (nextL (lettersC c) 1 l 0).2.1 (nextL (lettersC c) 1 l 0).2.2).1, (nextL (digitsC c) n (nextL (lettersC c) 1 l 0).2.1 (nextL (lettersC c) 1 l 0).2.2).2)
  else if k = 2 then
    if (nextL (digitsC c) 2 l 0).2.2 ≠ 0 then ([], (nextL (digitsC c) 2 l 0).2)
    else nextL (digitsC c) (toldN (nextL (digitsC c) 2 l 0).1) (nextL (digitsC c) 2 l 0).2.1 (if toldN (nextL (digitsC c) 2 l 0).1 < 1 ∨ n < toldN (nextL (digitsC c) 2 l 0).1 then 42 else 0)
  else if k = 1 then nextL (digitsC c) n l 0
  else if k = 3 then nextL (lettersC c) n l 0
  else nextL (rawC c) (2 * n) l 0

theorem digits_ok (c : Int) : takeOkC (digitsC c) := by
  unfold digitsC
  split
  · exact Nat.le_refl _
  · split
    · trivial
    · show eb10.size ≤ tenB.size
      decide
theorem raws_ok (c : Int) : takeOkC (rawC c) := by
  unfold rawC
  split
  · show highB.size ≤ lowB.size
    decide
  · trivial
theorem letters_okT (c : Int) : takeOkC (lettersC c) := by
  unfold lettersC
  split
  · exact Nat.le_refl _
  · split
    · exact Nat.le_refl _
    · show ebcB.size ≤ signsB.size
      decide
theorem CodeAt.form {w : World} {lo : Nat} {v : Value} {ck : CK} (h : CodeAt w lo v ck) : ∃ g0 q0 g1 g2 q2, v = .agg #[.func (.func g0) #[] q0, .func (.func g1) #[] #[], .func (.func g2) #[] q2] := by
  cases ck with
  | plain f t =>
    obtain ⟨a, b, e, _⟩ := h
    exact ⟨_, _, _, _, _, e⟩
  | packed d =>
    obtain ⟨a, e, _⟩ := h
    exact ⟨_, _, _, _, _, e⟩
theorem CodeAt.touch {w w' : World} {lo b : Nat} {v : Value} {c : CK} (h : CodeAt w lo v c) (hb : b < lo) (ht : Touch b w w') : CodeAt w' lo v c := by
  cases c with
  | plain f t =>
    obtain ⟨a, b', e, h1, h2, h3, h4⟩ := h
    exact ⟨a, b', e, ht.cell (by show a ≠ b; omega) h1, ht.cell (by show b' ≠ b; omega) h2, h3, h4⟩
  | packed d =>
    obtain ⟨a, e, h1, h2⟩ := h
    exact ⟨a, e, ht.cell (by show a ≠ b; omega) h1, h2⟩
theorem thr (w2 : World) (o1 o2 o3 : Obj) : Below w2.heap.size w2 (((w2.alloc o1).alloc o2).alloc o3) :=
  (((Below.refl _ _).alloc (Nat.le_refl _) _).alloc (by simp) _).alloc (by simp; omega) _

theorem inRow_at {row : List UInt8} {i : Nat} (h : i < row.length) : inRow row (row.getD i 0) = true := by
  unfold inRow
  rw [decide_eq_true_iff]
  intro e
  apply Lib.indexByte_none e i
  rw [List.getD_eq_getElem?_getD, List.getElem?_eq_getElem h]
  rfl
theorem turnL_all (fr tt : List UInt8) (hft : fr.length ≤ tt.length) : ∀ (l a : List UInt8), turnL fr tt l = some a → a.all (inRow tt) = true
  | [], a, h => by simp [turnL] at h; subst h; rfl
  | c :: l, a, h => by
    simp only [turnL] at h
    split at h
    · cases h
    · rename_i hne
      cases e : turnL fr tt l with
      | none => rw [e] at h; cases h
      | some b =>
        rw [e] at h
        simp only [Option.map_some, Option.some.injEq] at h
        subst h
        have hi : (Lib.indexByte fr c).toNat < fr.length := by
          have h1 := Lib.indexByte_ge fr c
          have h2 := (Lib.indexByte_some (l := fr) (c := c) (o := (Lib.indexByte fr c).toNat) (by omega)).1
          exact (List.getElem?_eq_some_iff.1 h2).1
        simp only [List.all_cons, Bool.and_eq_true]
        exact ⟨inRow_at (by omega), turnL_all fr tt hft l b e⟩
theorem digits_take {c n : Int} {l t : List UInt8} (hn : 0 ≤ n) (hl : (l.length : Int) = (digitsC c).size n) (h : (digitsC c).take l n = some t) : t.all (inRow tenL) = true ∧ (t.length : Int) = n := by
  unfold digitsC at hl h
  split at h
  · rename_i h1
    rw [if_pos h1] at hl
    have hl' : (l.length : Int) = n := hl
    have h' : turnL tenL tenL l = some t := h
    exact ⟨turnL_all _ _ (Nat.le_refl _) _ _ h', by rw [turnL_length _ _ _ _ h']; exact hl'⟩
  · rename_i h1
    rw [if_neg h1] at hl
    split at h
    · have h' : takePacked tenL l n.toNat = some t := h
      unfold takePacked at h'
      have : ofB t tenL n.toNat = true := by
        split at h'
        · split at h'
          · split at h'
            · cases h'; assumption
            · cases h'
          · cases h'
        · split at h'
          · cases h'; assumption
          · cases h'
      obtain ⟨a, b⟩ := ofB_all this
      exact ⟨a, by omega⟩
    · rename_i h2
      rw [if_neg h2] at hl
      have hl' : (l.length : Int) = n := hl
      have h' : turnL eb10.data.toList tenL l = some t := h
      exact ⟨turnL_all _ _ (by decide) _ _ h', by rw [turnL_length _ _ _ _ h']; exact hl'⟩
theorem size_nonneg (ck : CK) {n : Int} (h : 0 ≤ n) : 0 ≤ ck.size n := by
  cases ck with
  | plain f t => exact h
  | packed d => show 0 ≤ (n + 1) / 2; omega
set_option maxRecDepth 100000 in
theorem ten_val {x : UInt8} (h : inRow tenL x = true) : ∃ i : Nat, i ≤ 9 ∧ x = UInt8.ofNat (48 + i) := by
  have : ∀ i : Fin 256, inRow tenL (UInt8.ofNat i.1) = true → 48 ≤ i.1 ∧ i.1 ≤ 57 := by decide
  have h2 := this ⟨x.toNat, x.toNat_lt⟩ (by rw [UInt8.ofNat_toNat]; exact h)
  refine ⟨x.toNat - 48, by have := h2.2; simp only at this; omega, ?_⟩
  have h3 := h2.1
  simp only at h3
  rw [show 48 + (x.toNat - 48) = x.toNat by omega, UInt8.ofNat_toNat]
theorem toldN_at (i j : Nat) (hi : i ≤ 9) (hj : j ≤ 9) : toldN [UInt8.ofNat (48 + i), UInt8.ofNat (48 + j)] = 10 * (i : Int) + (j : Int) := by
  have : ∀ i j : Fin 10, toldN [UInt8.ofNat (48 + i.1), UInt8.ofNat (48 + j.1)] = 10 * (i.1 : Int) + (j.1 : Int) := by decide
  exact this ⟨i, by omega⟩ ⟨j, by omega⟩
theorem nat_at (i : Nat) (hi : i ≤ 9) : ((UInt8.ofNat (48 + i)).toNat : Int) = 48 + (i : Int) := by
  rw [UInt8.toNat_ofNat_of_lt' (by show 48 + i < 256; omega)]
  omega
theorem next_digits {c n : Int} {l : List UInt8} (hn : 0 ≤ n) (h : (nextL (digitsC c) n l 0).2.2 = 0) : (nextL (digitsC c) n l 0).1.all (inRow tenL) = true ∧ ((nextL (digitsC c) n l 0).1.length : Int) = n := by
  unfold nextL at h ⊢
  have hs := size_nonneg (digitsC c) hn
  rw [if_neg (by decide)] at h ⊢
  split at h
  · cases h
  · rename_i hlt
    rw [if_neg hlt]
    cases e : (digitsC c).take (l.take ((digitsC c).size n).toNat) n with
    | none => rw [e] at h; cases h
    | some t =>
      exact digits_take hn (by rw [List.length_take]; omega) e

set_option maxHeartbeats 4000000 in
set_option maxRecDepth 100000 in
theorem text_n (n c : Int) (b : Nat) (l : List UInt8) (w : World) (hrd : Rd w b l 0) (hn0 : 1 ≤ n) (hn1 : n ≤ 64) :
    Calls Try.prog 31 #[.pointer (some ⟨b, 0, none⟩), .agg #[.int .i64 1, .int .i64 n, .int .i64 c]] w (nextPost w b (textL 1 n c l)) := by
  have e : textL 1 n c l = nextL (digitsC c) n l 0 := by simp [textL]
  rw [e]
  clear e
  have HC := Lib.hid (codes_any 1 n c)
  have HRD := Aside0.mk hrd
  have hblt : b < w.heap.size := (Array.getElem?_eq_some_iff.1 hrd).1
  clear hrd
  go_enter Try.func31, Try.ntmps31
  go_wp2_with fail
  refine (HC.out _).mono ?_
  rintro e w2 ⟨vl, vd, vr, rfl, hcl, hcd, hcr, hb2⟩
  have hz2 : w.heap.size < w2.heap.size := by have := hb2.size; simp at this; omega
  have HRD2 := Aside0.mk (show Rd w2 b l 0 from blk_below (blk_alloc HRD.out _) hb2)
  obtain ⟨x0, x1, x2, x3, x4, rfl⟩ := hcl.form
  obtain ⟨y0, y1, y2, y3, y4, rfl⟩ := hcr.form
  obtain ⟨z0, z1, z2, z3, z4, rfl⟩ := hcd.form
  have hk0 : w2.cell? ⟨w.heap.size, 0, none⟩ = some (.int .i64 1) := by rw [hb2.cell (p := ⟨w.heap.size, 0, none⟩) (by simp)]; go_simp
  have hk1 : w2.cell? ⟨w.heap.size, 1, none⟩ = some (.int .i64 n) := by rw [hb2.cell (p := ⟨w.heap.size, 1, none⟩) (by simp)]; go_simp
  have hk0' := fun o1 o2 o3 => keep3 hk0 o1 o2 o3
  have hk1' := fun o1 o2 o3 => keep3 hk1 o1 o2 o3
  have HT2 := Aside0.mk (Touch.of_below (((Below.refl w.heap.size w).alloc (Nat.le_refl _) _).trans (hb2.mono (by simp))) b)
  have HCL := Aside0.mk hcl
  have HCD := Aside0.mk hcd
  have HCR := Aside0.mk hcr
  clear hb2 hcl hcd hcr hk0 hk1
  go_wp2_with fail
  refine (next_any (HCD.out.below (thr _ _ _ _)) (digits_ok c) b l 0 n (show Rd _ b l 0 from blk_below HRD2.out (thr _ _ _ _)) (by omega) (by omega)).mono ?_
  rintro e w3 ⟨rfl, hrd3, ht3⟩
  have HRD3 := Aside0.mk hrd3
  have HT3 := Aside0.mk (HT2.out.trans ((Touch.of_below (thr _ _ _ _) b).trans ht3))
  clear hrd3 ht3
  go_wp2_with fail
  go_ret
  exact ⟨rfl, HRD3.out, HT3.out⟩
set_option maxHeartbeats 4000000 in
set_option maxRecDepth 100000 in
theorem text_an (n c : Int) (b : Nat) (l : List UInt8) (w : World) (hrd : Rd w b l 0) (hn0 : 1 ≤ n) (hn1 : n ≤ 64) :
    Calls Try.prog 31 #[.pointer (some ⟨b, 0, none⟩), .agg #[.int .i64 3, .int .i64 n, .int .i64 c]] w (nextPost w b (textL 3 n c l)) := by
  have e : textL 3 n c l = nextL (lettersC c) n l 0 := by simp [textL]
  rw [e]
  clear e
  have HC := Lib.hid (codes_any 3 n c)
  have HRD := Aside0.mk hrd
  have hblt : b < w.heap.size := (Array.getElem?_eq_some_iff.1 hrd).1
  clear hrd
  go_enter Try.func31, Try.ntmps31
  go_wp2_with fail
  refine (HC.out _).mono ?_
  rintro e w2 ⟨vl, vd, vr, rfl, hcl, hcd, hcr, hb2⟩
  have hz2 : w.heap.size < w2.heap.size := by have := hb2.size; simp at this; omega
  have HRD2 := Aside0.mk (show Rd w2 b l 0 from blk_below (blk_alloc HRD.out _) hb2)
  obtain ⟨x0, x1, x2, x3, x4, rfl⟩ := hcl.form
  obtain ⟨y0, y1, y2, y3, y4, rfl⟩ := hcr.form
  obtain ⟨z0, z1, z2, z3, z4, rfl⟩ := hcd.form
  have hk0 : w2.cell? ⟨w.heap.size, 0, none⟩ = some (.int .i64 3) := by rw [hb2.cell (p := ⟨w.heap.size, 0, none⟩) (by simp)]; go_simp
  have hk1 : w2.cell? ⟨w.heap.size, 1, none⟩ = some (.int .i64 n) := by rw [hb2.cell (p := ⟨w.heap.size, 1, none⟩) (by simp)]; go_simp
  have hk0' := fun o1 o2 o3 => keep3 hk0 o1 o2 o3
  have hk1' := fun o1 o2 o3 => keep3 hk1 o1 o2 o3
  have HT2 := Aside0.mk (Touch.of_below (((Below.refl w.heap.size w).alloc (Nat.le_refl _) _).trans (hb2.mono (by simp))) b)
  have HCL := Aside0.mk hcl
  have HCD := Aside0.mk hcd
  have HCR := Aside0.mk hcr
  clear hb2 hcl hcd hcr hk0 hk1
  go_wp2_with fail
  refine (next_any (HCL.out.below (thr _ _ _ _)) (letters_okT c) b l 0 n (show Rd _ b l 0 from blk_below HRD2.out (thr _ _ _ _)) (by omega) (by omega)).mono ?_
  rintro e w3 ⟨rfl, hrd3, ht3⟩
  have HRD3 := Aside0.mk hrd3
  have HT3 := Aside0.mk (HT2.out.trans ((Touch.of_below (thr _ _ _ _) b).trans ht3))
  clear hrd3 ht3
  go_wp2_with fail
  go_ret
  exact ⟨rfl, HRD3.out, HT3.out⟩
set_option maxHeartbeats 4000000 in
set_option maxRecDepth 100000 in
theorem text_b (n c : Int) (b : Nat) (l : List UInt8) (w : World) (hrd : Rd w b l 0) (hn0 : 1 ≤ n) (hn1 : n ≤ 64) :
    Calls Try.prog 31 #[.pointer (some ⟨b, 0, none⟩), .agg #[.int .i64 4, .int .i64 n, .int .i64 c]] w (nextPost w b (textL 4 n c l)) := by
  have e : textL 4 n c l = nextL (rawC c) (2 * n) l 0 := by simp [textL]
  rw [e]
  clear e
  have HC := Lib.hid (codes_any 4 n c)
  have HRD := Aside0.mk hrd
  have hblt : b < w.heap.size := (Array.getElem?_eq_some_iff.1 hrd).1
  clear hrd
  go_enter Try.func31, Try.ntmps31
  go_wp2_with fail
  refine (HC.out _).mono ?_
  rintro e w2 ⟨vl, vd, vr, rfl, hcl, hcd, hcr, hb2⟩
  have hz2 : w.heap.size < w2.heap.size := by have := hb2.size; simp at this; omega
  have HRD2 := Aside0.mk (show Rd w2 b l 0 from blk_below (blk_alloc HRD.out _) hb2)
  obtain ⟨x0, x1, x2, x3, x4, rfl⟩ := hcl.form
  obtain ⟨y0, y1, y2, y3, y4, rfl⟩ := hcr.form
  obtain ⟨z0, z1, z2, z3, z4, rfl⟩ := hcd.form
  have hk0 : w2.cell? ⟨w.heap.size, 0, none⟩ = some (.int .i64 4) := by rw [hb2.cell (p := ⟨w.heap.size, 0, none⟩) (by simp)]; go_simp
  have hk1 : w2.cell? ⟨w.heap.size, 1, none⟩ = some (.int .i64 n) := by rw [hb2.cell (p := ⟨w.heap.size, 1, none⟩) (by simp)]; go_simp
  have hk0' := fun o1 o2 o3 => keep3 hk0 o1 o2 o3
  have hk1' := fun o1 o2 o3 => keep3 hk1 o1 o2 o3
  have HT2 := Aside0.mk (Touch.of_below (((Below.refl w.heap.size w).alloc (Nat.le_refl _) _).trans (hb2.mono (by simp))) b)
  have HCL := Aside0.mk hcl
  have HCD := Aside0.mk hcd
  have HCR := Aside0.mk hcr
  clear hb2 hcl hcd hcr hk0 hk1
  go_wp2_with fail
  refine (next_any (HCR.out.below (thr _ _ _ _)) (raws_ok c) b l 0 (2 * n) (show Rd _ b l 0 from blk_below HRD2.out (thr _ _ _ _)) (by omega) (by omega)).mono ?_
  rintro e w3 ⟨rfl, hrd3, ht3⟩
  have HRD3 := Aside0.mk hrd3
  have HT3 := Aside0.mk (HT2.out.trans ((Touch.of_below (thr _ _ _ _) b).trans ht3))
  clear hrd3 ht3
  go_wp2_with fail
  go_ret
  exact ⟨rfl, HRD3.out, HT3.out⟩
set_option maxHeartbeats 4000000 in
set_option maxRecDepth 100000 in
theorem text_ll (n c : Int) (b : Nat) (l : List UInt8) (w : World) (hrd : Rd w b l 0) (_hn0 : 1 ≤ n) (_hn1 : n ≤ 64) :
    Calls Try.prog 31 #[.pointer (some ⟨b, 0, none⟩), .agg #[.int .i64 2, .int .i64 n, .int .i64 c]] w (nextPost w b (textL 2 n c l)) := by
  have HE : Hid (textL 2 n c l = if (nextL (digitsC c) 2 l 0).2.2 ≠ 0 then ([], (nextL (digitsC c) 2 l 0).2)
    else nextL (digitsC c) (toldN (nextL (digitsC c) 2 l 0).1) (nextL (digitsC c) 2 l 0).2.1 (if toldN (nextL (digitsC c) 2 l 0).1 < 1 ∨ n < toldN (nextL (digitsC c) 2 l 0).1 then 42 else 0)) := Lib.hid (by simp [textL])
  generalize textL 2 n c l = R at HE ⊢
  have HC := Lib.hid (codes_any 2 n c)
  have HRD := Aside0.mk hrd
  have hblt : b < w.heap.size := (Array.getElem?_eq_some_iff.1 hrd).1
  clear hrd
  go_enter Try.func31, Try.ntmps31
  go_wp2_with fail
  refine (HC.out _).mono ?_
  rintro e w2 ⟨vl, vd, vr, rfl, hcl, hcd, hcr, hb2⟩
  have hz2 : w.heap.size < w2.heap.size := by have := hb2.size; simp at this; omega
  have HRD2 := Aside0.mk (show Rd w2 b l 0 from blk_below (blk_alloc HRD.out _) hb2)
  obtain ⟨x0, x1, x2, x3, x4, rfl⟩ := hcl.form
  obtain ⟨y0, y1, y2, y3, y4, rfl⟩ := hcr.form
  obtain ⟨z0, z1, z2, z3, z4, rfl⟩ := hcd.form
  have hk0 : w2.cell? ⟨w.heap.size, 0, none⟩ = some (.int .i64 2) := by rw [hb2.cell (p := ⟨w.heap.size, 0, none⟩) (by simp)]; go_simp
  have hk1 : w2.cell? ⟨w.heap.size, 1, none⟩ = some (.int .i64 n) := by rw [hb2.cell (p := ⟨w.heap.size, 1, none⟩) (by simp)]; go_simp
  have hk0' := fun o1 o2 o3 => keep3 hk0 o1 o2 o3
  have hk1' := fun o1 o2 o3 => keep3 hk1 o1 o2 o3
  have HT2 := Aside0.mk (Touch.of_below (((Below.refl w.heap.size w).alloc (Nat.le_refl _) _).trans (hb2.mono (by simp))) b)
  have HCL := Aside0.mk hcl
  have HCD := Aside0.mk hcd
  have HCR := Aside0.mk hcr
  clear hb2 hcl hcd hcr hk0 hk1
  go_wp2_with fail
  refine (next_any (HCD.out.below (thr _ _ _ _)) (digits_ok c) b l 0 2 (show Rd _ b l 0 from blk_below HRD2.out (thr _ _ _ _)) (by omega) (by omega)).mono ?_
  rintro e w3 ⟨rfl, hrd3, ht3⟩
  have hd := fun h => next_digits (c := c) (n := 2) (l := l) (by decide) h
  generalize nextL (digitsC c) 2 l 0 = a at hd HE hrd3 ⊢
  obtain ⟨t, l', e'⟩ := a
  simp only at hd hrd3 ⊢
  have HRD3 := Aside0.mk hrd3
  have hr31 : w3.cell? ⟨b, 1, none⟩ = some (.int .i64 e') := blk_cell hrd3 1
  have hrf1 : w3.frozen? ⟨b, 1, none⟩ = false := blk_frozen hrd3 1
  have HT3 := Aside0.mk (HT2.out.trans ((Touch.of_below (thr _ _ _ _) b).trans ht3))
  have hf1 : w3.cell? ⟨w.heap.size, 1, none⟩ = some (.int .i64 n) := ht3.cell (by show w.heap.size ≠ b; omega) (hk1' _ _ _)
  have hbx0 : w3.cell? ⟨w2.heap.size + 1, 0, none⟩ = some (.func (.func z0) #[] z1) := ht3.cell (by show w2.heap.size + 1 ≠ b; omega) (by go_simp)
  have hbx1 : w3.cell? ⟨w2.heap.size + 1, 1, none⟩ = some (.func (.func z2) #[] #[]) := ht3.cell (by show w2.heap.size + 1 ≠ b; omega) (by go_simp)
  have hbx2 : w3.cell? ⟨w2.heap.size + 1, 2, none⟩ = some (.func (.func z3) #[] z4) := ht3.cell (by show w2.heap.size + 1 ≠ b; omega) (by go_simp)
  have HCD3 := Aside0.mk ((HCD.out.below (thr _ _ _ _)).touch (b := b) (by simp; omega) ht3)
  clear ht3 hrd3 hk0' hk1'
  by_cases he : e' = 0
  · subst he
    obtain ⟨hall, hlen⟩ := hd rfl
    have hlen' : t.length = 2 := by omega
    obtain ⟨x, y, rfl⟩ : ∃ x y, t = [x, y] := by
      match t, hlen' with
      | [x, y], _ => exact ⟨x, y, rfl⟩
    clear hd hlen hlen'
    simp only [List.all_cons, List.all_nil, Bool.and_true, Bool.and_eq_true] at hall
    obtain ⟨i, hi, rfl⟩ := ten_val hall.1
    obtain ⟨j, hj, rfl⟩ := ten_val hall.2
    clear hall
    rw [toldN_at i j hi hj] at HE
    have hx := nat_at i hi
    have hy := nat_at j hj
    generalize UInt8.ofNat (48 + i) = x at *
    generalize UInt8.ofNat (48 + j) = y at *
    have hw1 : IntKind.u8.wrap ((x.toNat : Int) - 48) = (i : Int) := by rw [hx, show (48 + (i : Int) - 48) = (i : Int) by omega]; exact IntWalk.u8_in _ (by omega)
    have hw2 : IntKind.u8.wrap ((y.toNat : Int) - 48) = (j : Int) := by rw [hy, show (48 + (j : Int) - 48) = (j : Int) by omega]; exact IntWalk.u8_in _ (by omega)
    have hw3 : IntKind.i64.wrap ((i : Int) * 10) = (i : Int) * 10 := IntWalk.i64_in _ (by omega)
    have hw4 : IntKind.i64.wrap ((i : Int) * 10 + (j : Int)) = (i : Int) * 10 + (j : Int) := IntWalk.i64_in _ (by omega)
    have hw5 : IntKind.i64.wrap (i : Int) = (i : Int) := IntWalk.i64_in _ (by omega)
    have hw6 : IntKind.i64.wrap (j : Int) = (j : Int) := IntWalk.i64_in _ (by omega)
    go_wp2_with fail
    go_region
    have hV : ((((⟨#[x, y]⟩ : ByteArray)[0]'(show 0 < 2 by decide)).toNat : Int) - (48 : Int)) % (256 : Int) * (10 : Int) + ((((⟨#[x, y]⟩ : ByteArray)[1]'(show 1 < 2 by decide)).toNat : Int) - (48 : Int)) % (256 : Int) = 10 * (i : Int) + (j : Int) := by
      show ((x.toNat : Int) - 48) % 256 * 10 + ((y.toNat : Int) - 48) % 256 = _
      omega
    rw [hV]
    clear hV hw1 hw2 hw3 hw4 hw5 hw6
    have hm0 : 0 ≤ 10 * (i : Int) + (j : Int) := by omega
    have hm1 : 10 * (i : Int) + (j : Int) ≤ 99 := by omega
    generalize 10 * (i : Int) + (j : Int) = m at *
    clear hx hy
    by_cases hb1 : m < 1
    · have hR : R = nextL (digitsC c) m l' 42 := by rw [HE.out]; simp [hb1]
      subst hR
      go_wp2_with fail
      refine (next_any (HCD3.out.touch (b := b) (by simp; omega) ((Touch.set w3 1 (.int .i64 42)).trans (Touch.of_below (Below.refl _ _).drew b))) (digits_ok c) b l' 42 m (blk_drew (blk_set HRD3.out 1 (.int .i64 42))) (by omega) (by omega)).mono ?_
      rintro e w4 ⟨rfl, hrd4, ht4⟩
      have HRD4 := Aside0.mk hrd4
      have HT4 := Aside0.mk (HT3.out.trans (((Touch.set w3 1 (.int .i64 42)).trans (Touch.of_below (Below.refl _ _).drew b)).trans ht4))
      clear hrd4 ht4
      go_wp2_with fail
      go_ret
      exact ⟨rfl, HRD4.out, HT4.out⟩
    · by_cases hb2 : n < m
      · have hR : R = nextL (digitsC c) m l' 42 := by rw [HE.out]; simp [hb2]
        subst hR
        go_wp2_with fail
        refine (next_any (HCD3.out.touch (b := b) (by simp; omega) ((Touch.set w3 1 (.int .i64 42)).trans (Touch.of_below (Below.refl _ _).drew b))) (digits_ok c) b l' 42 m (blk_drew (blk_set HRD3.out 1 (.int .i64 42))) (by omega) (by omega)).mono ?_
        rintro e w4 ⟨rfl, hrd4, ht4⟩
        have HRD4 := Aside0.mk hrd4
        have HT4 := Aside0.mk (HT3.out.trans (((Touch.set w3 1 (.int .i64 42)).trans (Touch.of_below (Below.refl _ _).drew b)).trans ht4))
        clear hrd4 ht4
        go_wp2_with fail
        go_ret
        exact ⟨rfl, HRD4.out, HT4.out⟩
      · have hR : R = nextL (digitsC c) m l' 0 := by rw [HE.out]; simp [hb1, hb2]
        subst hR
        go_wp2_with fail
        refine (next_any (HCD3.out.touch (b := b) (by simp; omega) (Touch.of_below (Below.refl _ _).drew b)) (digits_ok c) b l' 0 m (blk_drew HRD3.out) (by omega) (by omega)).mono ?_
        rintro e w4 ⟨rfl, hrd4, ht4⟩
        have HRD4 := Aside0.mk hrd4
        have HT4 := Aside0.mk (HT3.out.trans ((Touch.of_below (Below.refl _ _).drew b).trans ht4))
        clear hrd4 ht4
        go_wp2_with fail
        go_ret
        exact ⟨rfl, HRD4.out, HT4.out⟩
  · have hne : (e' != 0) = true := by simpa using he
    have hR : R = ([], (l', e')) := by rw [HE.out, if_pos he]
    subst hR
    clear hd he HE
    go_wp2_with fail
    go_ret
    exact ⟨rfl, HRD3.out, HT3.out⟩
end Go.Proofs.Ytcgfbdleapjigaa.fieldw
