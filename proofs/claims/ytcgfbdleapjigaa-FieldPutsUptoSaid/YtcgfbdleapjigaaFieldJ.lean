/- Walks of layer 4: what reads a text of kind X. Conditions: as the theorem says. -/
import Derived.Test.YtcgfbdleapjigaaFieldI
namespace Go.Proofs.Ytcgfbdleapjigaa.fieldw
open Go.RowKit Go.Proofs.Ytcgfbdleapjigaa.fieldp Go.Proofs.YtcgfbdleapjigaaW.PrintWords Go.Proofs.YtcgfbdleapjigaaW.PrintLast

theorem size_range (ck : CK) {n : Int} (h : 0 ≤ n) (h1 : n ≤ 1000) : 0 ≤ ck.size n ∧ ck.size n ≤ 1000 := by
  cases ck with
  | plain f t => exact ⟨h, h1⟩
  | packed d => exact ⟨by show 0 ≤ (n + 1) / 2; omega, by show (n + 1) / 2 ≤ 1000; omega⟩

theorem join_arr (a b : List UInt8) : (⟨(a ++ b).toArray⟩ : ByteArray) = ⟨a.toArray⟩ ++ ⟨b.toArray⟩ := by
  have : ((⟨a.toArray⟩ : ByteArray) ++ ⟨b.toArray⟩).data = (a ++ b).toArray := by simp
  cases h : (⟨a.toArray⟩ : ByteArray) ++ ⟨b.toArray⟩ with
  | mk d => rw [h] at this; simp only at this; rw [this]
theorem take_len {ck : CK} {n : Int} {l t : List UInt8} (hn : 0 ≤ n) (hl : (l.length : Int) = ck.size n) (h : ck.take l n = some t) : (t.length : Int) = n := by
  cases ck with
  | plain f u =>
    have h' : turnL u.data.toList f.data.toList l = some t := h
    have hl' : (l.length : Int) = n := hl
    rw [turnL_length _ _ _ _ h']; exact hl'
  | packed d =>
    have h' : takePacked d.data.toList l n.toNat = some t := h
    unfold takePacked at h'
    have : ofB t d.data.toList n.toNat = true := by
      split at h'
      · split at h'
        · split at h'
          · cases h'; assumption
          · cases h'
        · cases h'
      · split at h'
        · cases h'; assumption
        · cases h'
    have := (ofB_all this).2
    omega
theorem next_len (ck : CK) {n : Int} (l : List UInt8) (e : Int) (hn : 0 ≤ n) : ((nextL ck n l e).1.length : Int) ≤ n := by
  unfold nextL
  split
  · exact hn
  · split
    · exact hn
    · rename_i hlt
      have hs := size_nonneg ck hn
      cases h : ck.take (l.take (ck.size n).toNat) n with
      | none => exact hn
      | some t =>
        have := take_len hn (by rw [List.length_take]; omega) h
        exact Int.le_of_eq this

set_option maxHeartbeats 4000000 in
set_option maxRecDepth 100000 in
theorem text_x (n c : Int) (b : Nat) (l : List UInt8) (w : World) (hrd : Rd w b l 0) (hn0 : 1 ≤ n) (hn1 : n ≤ 64) :
    Calls Try.prog 31 #[.pointer (some ⟨b, 0, none⟩), .agg #[.int .i64 5, .int .i64 n, .int .i64 c]] w (nextPost w b (textL 5 n c l)) := by
  have HE : Hid (textL 5 n c l = if (l.length : Int) < (lettersC c).size 1 + (digitsC c).size n then ([], l, 43)
    else ((nextL (lettersC c) 1 l 0).1 ++ (nextL (digitsC c) n (nextL (lettersC c) 1 l 0).2.1 (nextL (lettersC c) 1 l 0).2.2).1, (nextL (digitsC c) n (nextL (lettersC c) 1 l 0).2.1 (nextL (lettersC c) 1 l 0).2.2).2)) := Lib.hid (by simp [textL])
  generalize textL 5 n c l = R at HE ⊢
  have hn1a := next_len (lettersC c) l 0 (n := 1) (by decide)
  have hn2a := next_len (digitsC c) (nextL (lettersC c) 1 l 0).2.1 (nextL (lettersC c) 1 l 0).2.2 (n := n) (by omega)
  have hc1 := fun (W : World) (lo : Nat) (v : Value) (hc : CodeAt W lo v (lettersC c)) (hr : Rd W b l 0) => next_any hc (letters_okT c) b l 0 1 hr (by decide) (by decide)
  have hc2 := fun (W : World) (lo : Nat) (v : Value) (hc : CodeAt W lo v (digitsC c)) (hr : Rd W b (nextL (lettersC c) 1 l 0).2.1 (nextL (lettersC c) 1 l 0).2.2) => next_any hc (digits_ok c) b (nextL (lettersC c) 1 l 0).2.1 (nextL (lettersC c) 1 l 0).2.2 n hr (by omega) (by omega)
  generalize nextL (lettersC c) 1 l 0 = a1 at HE hn1a hn2a hc1 hc2
  obtain ⟨t1, l1, e1⟩ := a1
  simp only at HE hn1a hn2a hc1 hc2
  generalize nextL (digitsC c) n l1 e1 = a2 at HE hn2a hc2
  obtain ⟨t2, l2, e2⟩ := a2
  simp only at HE hn2a hc2
  obtain ⟨S1, hS1⟩ : ∃ S : ByteArray, S = ⟨t1.toArray⟩ := ⟨_, rfl⟩
  obtain ⟨S2, hS2⟩ : ∃ S : ByteArray, S = ⟨t2.toArray⟩ := ⟨_, rfl⟩
  have HS1 := Aside0.mk (show S1.size ≤ 1 ∧ S1 = ⟨t1.toArray⟩ from ⟨by rw [hS1, size_arr]; omega, hS1⟩)
  have HS2 := Aside0.mk (show S2.size ≤ 64 ∧ S2 = ⟨t2.toArray⟩ from ⟨by rw [hS2, size_arr]; omega, hS2⟩)
  have HC1 := Lib.hid (show ∀ (W : World) (lo : Nat) (v : Value), CodeAt W lo v (lettersC c) → Rd W b l 0 → Calls Try.prog 48 #[.pointer (some ⟨b, 0, none⟩), v, .int .i64 1] W (fun e w' => e = .returned (.string S1) ∧ Rd w' b l1 e1 ∧ Touch b W w') from by rw [hS1]; exact hc1)
  have HC2 := Lib.hid (show ∀ (W : World) (lo : Nat) (v : Value), CodeAt W lo v (digitsC c) → Rd W b l1 e1 → Calls Try.prog 48 #[.pointer (some ⟨b, 0, none⟩), v, .int .i64 n] W (fun e w' => e = .returned (.string S2) ∧ Rd w' b l2 e2 ∧ Touch b W w') from by rw [hS2]; exact hc2)
  clear hS1 hS2 hc1 hc2 hn1a hn2a
  have hs1 : 0 ≤ (lettersC c).size 1 ∧ (lettersC c).size 1 ≤ 1000 := size_range _ (by decide) (by decide)
  have hs2 : 0 ≤ (digitsC c).size n ∧ (digitsC c).size n ≤ 1000 := size_range _ (by omega) (by omega)
  have HC := Lib.hid (codes_any 5 n c)
  have HRD := Aside0.mk hrd
  have hblt : b < w.heap.size := (Array.getElem?_eq_some_iff.1 hrd).1
  clear hrd
  go_enter Try.func31, Try.ntmps31
  go_wp2_with fail
  refine (HC.out _).mono ?_
  rintro e w2 ⟨vl, vd, vr, rfl, hcl, hcd, hcr, hb2⟩
  have hz2 : w.heap.size < w2.heap.size := by have := hb2.size; simp at this; omega
  have HRD2 := Aside0.mk (show Rd w2 b l 0 from blk_below (blk_alloc HRD.out _) hb2)
  obtain ⟨x0, x1, x2, x3, x4, rfl, hex2, -, hxs, -⟩ := hcl.takes (letters_okT c)
  obtain ⟨y0, y1, y2, y3, y4, rfl⟩ := hcr.form
  obtain ⟨z0, z1, z2, z3, z4, rfl, hez2, -, hzs, -⟩ := hcd.takes (digits_ok c)
  have HX2 := Lib.hid hex2
  have HZ2 := Lib.hid hez2
  have HXS := Lib.hid (hxs 1 (by decide) (by decide))
  have HZS := Lib.hid (hzs n (by omega) (by omega))
  clear hex2 hez2 hxs hzs
  generalize (lettersC c).size 1 = k1 at HXS hs1 HE
  generalize (digitsC c).size n = k2 at HZS hs2 HE
  have hsum : IntKind.i64.wrap (k1 + k2) = k1 + k2 := IntWalk.i64_in _ (by omega)
  have hk0 : w2.cell? ⟨w.heap.size, 0, none⟩ = some (.int .i64 5) := by rw [hb2.cell (p := ⟨w.heap.size, 0, none⟩) (by simp)]; go_simp
  have hk1 : w2.cell? ⟨w.heap.size, 1, none⟩ = some (.int .i64 n) := by rw [hb2.cell (p := ⟨w.heap.size, 1, none⟩) (by simp)]; go_simp
  have hk0' := fun o1 o2 o3 => keep3 hk0 o1 o2 o3
  have hk1' := fun o1 o2 o3 => keep3 hk1 o1 o2 o3
  have HT2 := Aside0.mk (Touch.of_below (((Below.refl w.heap.size w).alloc (Nat.le_refl _) _).trans (hb2.mono (by simp))) b)
  have HCL := Aside0.mk hcl
  have HCD := Aside0.mk hcd
  have HCR := Aside0.mk hcr
  clear hb2 hcl hcd hcr hk0 hk1
  have hr0 : w2.cell? ⟨b, 0, none⟩ = some (.string ⟨l.toArray⟩) := blk_cell HRD2.out 0
  have hr0' := fun o1 o2 o3 => keep3 hr0 o1 o2 o3
  have hsl : (⟨l.toArray⟩ : ByteArray).size = l.length := size_arr l
  go_wp2_with fail
  go_region_held3 (fun w' => w'.cell? ⟨w2.heap.size, 1, none⟩ = some (.func (.func x2) #[] #[]) ∧ w'.cell? ⟨w2.heap.size + 1, 1, none⟩ = some (.func (.func z2) #[] #[]) ∧ w'.cell? ⟨b, 0, none⟩ = some (.string ⟨l.toArray⟩)) (go_keep)
    (first | (rw [HX2.out, Oper.upon_enter]; refine (HXS.out _).mono ?_; rintro e_ w3 ⟨rfl, rfl⟩) | (rw [HZ2.out, Oper.upon_enter]; refine (HZS.out _).mono ?_; rintro e_ w3 ⟨rfl, rfl⟩))
  all_goals
    by_cases hlt : (l.length : Int) < k1 + k2
    · have hR : R = ([], l, 43) := by rw [HE.out, if_pos hlt]
      subst hR
      have hrf1 : w2.frozen? ⟨b, 1, none⟩ = false := blk_frozen HRD2.out 1
      have hbl2 : b < w2.heap.size := by omega
      have hbl3 : b < w2.heap.size + 1 := by omega
      have hbl4 : b < w2.heap.size + 1 + 1 := by omega
      have hr12 : w2.cell? ⟨b, 1, none⟩ = some (.int .i64 0) := blk_cell HRD2.out 1
      clear HE
      go_wp2_with fail
      go_ret
      exact ⟨rfl, blk_drew (blk_alloc (blk_alloc (blk_alloc (blk_set HRD2.out 1 _) _) _) _), HT2.out.trans ((Touch.set w2 1 _).trans (Touch.of_below (thr _ _ _ _).drew b))⟩
    · have hR : R = (t1 ++ t2, l2, e2) := by rw [HE.out, if_neg hlt]
      subst hR
      have HW := Aside0.mk (show ∀ o1 o2 o3 : Obj, Rd ((((w2.alloc o1).alloc o2).alloc o3).drew.drew) b l 0 from fun o1 o2 o3 => blk_below HRD2.out ((thr _ _ _ _).drew.drew))
      have HWL := Aside0.mk (show ∀ o1 o2 o3 : Obj, CodeAt ((((w2.alloc o1).alloc o2).alloc o3).drew.drew) _ _ (lettersC c) from fun o1 o2 o3 => HCL.out.below ((thr _ _ _ _).drew.drew))
      have HWD := Aside0.mk (show ∀ o1 o2 o3 : Obj, CodeAt ((((w2.alloc o1).alloc o2).alloc o3).drew.drew) _ _ (digitsC c) from fun o1 o2 o3 => HCD.out.below ((thr _ _ _ _).drew.drew))
      have hs1 : S1.size ≤ 1 := HS1.out.1
      have hs2 : S2.size ≤ 64 := HS2.out.1
      have hss : ¬ 9223372036854775807 < S1.size + S2.size := by omega
      clear HE
      go_wp2_with fail
      go_region_held3 (fun w' => w'.cell? ⟨w2.heap.size, 0, none⟩ = some (.func (.func x0) #[] x1) ∧ w'.cell? ⟨w2.heap.size, 1, none⟩ = some (.func (.func x2) #[] #[]) ∧ w'.cell? ⟨w2.heap.size, 2, none⟩ = some (.func (.func x3) #[] x4) ∧ w'.cell? ⟨w2.heap.size + 1, 0, none⟩ = some (.func (.func z0) #[] z1) ∧ w'.cell? ⟨w2.heap.size + 1, 1, none⟩ = some (.func (.func z2) #[] #[]) ∧ w'.cell? ⟨w2.heap.size + 1, 2, none⟩ = some (.func (.func z3) #[] z4)) (go_keep)
        (first | (go_at_call 48; (with_reducible refine (HC1.out _ _ _ (HWL.out _ _ _) (HW.out _ _ _)).mono ?_); rintro e_ w4 ⟨rfl, hrd4, ht4⟩; have g00 : w4.cell? ⟨w2.heap.size, 0, none⟩ = some (.func (.func x0) #[] x1) := ht4.cell (by show w2.heap.size ≠ b; omega) (by go_simp); have g01 : w4.cell? ⟨w2.heap.size, 1, none⟩ = some (.func (.func x2) #[] #[]) := ht4.cell (by show w2.heap.size ≠ b; omega) (by go_simp); have g02 : w4.cell? ⟨w2.heap.size, 2, none⟩ = some (.func (.func x3) #[] x4) := ht4.cell (by show w2.heap.size ≠ b; omega) (by go_simp); have g10 : w4.cell? ⟨w2.heap.size + 1, 0, none⟩ = some (.func (.func z0) #[] z1) := ht4.cell (by show w2.heap.size + 1 ≠ b; omega) (by go_simp); have g11 : w4.cell? ⟨w2.heap.size + 1, 1, none⟩ = some (.func (.func z2) #[] #[]) := ht4.cell (by show w2.heap.size + 1 ≠ b; omega) (by go_simp); have g12 : w4.cell? ⟨w2.heap.size + 1, 2, none⟩ = some (.func (.func z3) #[] z4) := ht4.cell (by show w2.heap.size + 1 ≠ b; omega) (by go_simp); have HCD4 := Aside0.mk ((HWD.out _ _ _).touch (b := b) (by simp; omega) ht4); have HT4 := Aside0.mk (HT2.out.trans ((Touch.of_below ((thr _ _ _ _).drew.drew) b).trans ht4)); have HRD4 := Aside0.mk hrd4; clear ht4 hrd4) | (go_at_call 48; (with_reducible refine (HC2.out _ _ _ HCD4.out HRD4.out).mono ?_); rintro e_ w5 ⟨rfl, hrd5, ht5⟩; have k00 : w5.cell? ⟨w2.heap.size, 0, none⟩ = some (.func (.func x0) #[] x1) := ht5.cell (by show w2.heap.size ≠ b; omega) g00; have k01 : w5.cell? ⟨w2.heap.size, 1, none⟩ = some (.func (.func x2) #[] #[]) := ht5.cell (by show w2.heap.size ≠ b; omega) g01; have k02 : w5.cell? ⟨w2.heap.size, 2, none⟩ = some (.func (.func x3) #[] x4) := ht5.cell (by show w2.heap.size ≠ b; omega) g02; have k10 : w5.cell? ⟨w2.heap.size + 1, 0, none⟩ = some (.func (.func z0) #[] z1) := ht5.cell (by show w2.heap.size + 1 ≠ b; omega) g10; have k11 : w5.cell? ⟨w2.heap.size + 1, 1, none⟩ = some (.func (.func z2) #[] #[]) := ht5.cell (by show w2.heap.size + 1 ≠ b; omega) g11; have k12 : w5.cell? ⟨w2.heap.size + 1, 2, none⟩ = some (.func (.func z3) #[] z4) := ht5.cell (by show w2.heap.size + 1 ≠ b; omega) g12; have HT5 := Aside0.mk (HT4.out.trans ht5); have HRD5 := Aside0.mk hrd5; clear ht5 hrd5))
      go_wp2_with fail
      go_ret
      exact ⟨by rw [show (⟨(t1 ++ t2).toArray⟩ : ByteArray) = S1 ++ S2 from by rw [HS1.out.2, HS2.out.2]; exact join_arr t1 t2]; rfl, HRD5.out, HT5.out⟩

end Go.Proofs.Ytcgfbdleapjigaa.fieldw
