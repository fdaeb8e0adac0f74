/- Functions of the program as Lean functions, and that the Go code computes them. Written by a program of this session (wip/tools/mkprint.py, over the print of the kit), which takes some contracts from the session itself. Conditions: as each theorem says. -/
import Derived.Test.YtcgfbdleapjigaaPFieldAmountsx0
import Derived.Test.YtcgfbdleapjigaaPFieldAmountsx1
namespace Go.Proofs.Ytcgfbdleapjigaa.PFieldAmounts
open Go.RowKit Go.Proofs.YtcgfbdleapjigaaW.PrintWords Go.Proofs.YtcgfbdleapjigaaW.PrintLast Go.Proofs.YtcgfbdleapjigaaW.PrintMore
attribute [local go_sem] max2_int min2_int max_two min_two max_three min_three max_four min_four   -- for this text's walks alone
set_option linter.unusedVariables false
set_option linter.unusedSimpArgs false

/-! ### groatlaw04_FieldAmounts: function 11 -/
def groatlaw04_FieldAmounts.j0 : Nat → Int → Int → Int → Bool → ByteArray → Int → ByteArray → Int → Bool → Option (Bool)
 | 0, _, _, _, _, _, _, _, _, _ => none
 | k + 1, x0, x1, x2, x7, x8, x9, x10, x11, x37 => if x37 = true then (if x7 = true then (if x9 = 0 then (if x11 = 0 then (some true) else (some (x10.toList == ([] : List UInt8)))) else (if x8.toList = ([] : List UInt8) then (if x11 = 0 then (some true) else (some (x10.toList == ([] : List UInt8)))) else (some false))) else (some false)) else ((field_Amount.f x8).bind fun bt116 => (if x2 < 18 then (if 1 + x8.size ≤ 9223372036854775807 then ((field_Amount.f ((⟨#[48]⟩ : ByteArray) ++ x8)).bind fun bt118 => (if ((Op.bytesLess x8.toList x10.toList) == (decide (x0 < x1))) = true then (if ((x8.toList == x10.toList) == (x0 == x1)) = true then (if bt116.1 = x0 then (if bt118.1 = x0 then (some (bt118.2 == 0)) else (some false)) else (some false)) else (some false)) else (some false))) else (none)) else (if ((Op.bytesLess x8.toList x10.toList) == (decide (x0 < x1))) = true then (if ((x8.toList == x10.toList) == (x0 == x1)) = true then (if bt116.1 = x0 then (some (bt116.2 == 0)) else (some false)) else (some false)) else (some false))))
def groatlaw04_FieldAmounts.f (k : Nat) (a0 : Int) (a1 : Int) (a2 : Int) : Option (Bool) := (groatlaw04_shown.f).bind fun t111 => ((field_Digits.f a0 a2).bind fun bt112 => ((field_Digits.f a1 a2).bind fun bt114 => (if t111 = true then (if bt112.2 = 0 then (groatlaw04_FieldAmounts.j0 k a0 a1 a2 t111 bt112.1 bt112.2 bt114.1 bt114.2 (bt114.2 != 0)) else (groatlaw04_FieldAmounts.j0 k a0 a1 a2 t111 bt112.1 bt112.2 bt114.1 bt114.2 true)) else (groatlaw04_FieldAmounts.j0 k a0 a1 a2 t111 bt112.1 bt112.2 bt114.1 bt114.2 true))))
theorem groatlaw04_FieldAmounts.mono_l : ∀ k, (∀ y0 y1 y2 y3 y4 y5 y6 y7 y8, LeO (groatlaw04_FieldAmounts.j0 k y0 y1 y2 y3 y4 y5 y6 y7 y8) (groatlaw04_FieldAmounts.j0 (k + 1) y0 y1 y2 y3 y4 y5 y6 y7 y8))
 | 0 => fun _ _ _ _ _ _ _ _ _ r h => by simp [groatlaw04_FieldAmounts.j0] at h
 | k + 1 => by
  have ih0 := groatlaw04_FieldAmounts.mono_l k
  ·intro y0 y1 y2 y3 y4 y5 y6 y7 y8
   unfold groatlaw04_FieldAmounts.j0
   repeat' first
   | (with_reducible exact ih0 _ _ _ _ _ _ _ _ _)
   | (with_reducible exact LeO.refl _)
   | (with_reducible exact LeO.none _)
   | (with_reducible refine LeO.ite ?_ ?_)
   | (with_reducible refine LeO.bind ?_ (fun _ => ?_))
   | exact ih0 _ _ _ _ _ _ _ _ _
   | exact LeO.none _
   | refine LeO.ite ?_ ?_
   | refine LeO.bind ?_ (fun _ => ?_)
theorem groatlaw04_FieldAmounts.mono : ∀ a0 a1 a2 k, LeO (groatlaw04_FieldAmounts.f k a0 a1 a2) (groatlaw04_FieldAmounts.f (k + 1) a0 a1 a2) := by
 intro a0 a1 a2 k
 have ih0 := groatlaw04_FieldAmounts.mono_l k
 unfold groatlaw04_FieldAmounts.f
 repeat' first
   | (with_reducible exact ih0 _ _ _ _ _ _ _ _ _)
   | (with_reducible exact LeO.refl _)
   | (with_reducible exact LeO.none _)
   | (with_reducible refine LeO.ite ?_ ?_)
   | (with_reducible refine LeO.bind ?_ (fun _ => ?_))
   | exact ih0 _ _ _ _ _ _ _ _ _
   | exact LeO.none _
   | refine LeO.ite ?_ ?_
   | refine LeO.bind ?_ (fun _ => ?_)
set_option maxHeartbeats 8000000 in
set_option maxRecDepth 100000 in
theorem groatlaw04_FieldAmounts.calls (k : Nat) (a0 : Int) (a1 : Int) (a2 : Int) (r : Bool) (w : World) (h : groatlaw04_FieldAmounts.f k a0 a1 a2 = some r) :
  Calls Try.prog 11 #[.int .i64 a0, .int .i64 a1, .int .i64 a2] w fun e w' => e = .returned (.bool r) ∧ Below w.heap.size w w' := by
 have HB := Aside0.mk (Below.refl w.heap.size w)
 have H : ((groatlaw04_shown.f).bind fun t111 => ((field_Digits.f a0 a2).bind fun bt112 => ((field_Digits.f a1 a2).bind fun bt114 => (if t111 = true then (if bt112.2 = 0 then (groatlaw04_FieldAmounts.j0 k a0 a1 a2 t111 bt112.1 bt112.2 bt114.1 bt114.2 (bt114.2 != 0)) else (groatlaw04_FieldAmounts.j0 k a0 a1 a2 t111 bt112.1 bt112.2 bt114.1 bt114.2 true)) else (groatlaw04_FieldAmounts.j0 k a0 a1 a2 t111 bt112.1 bt112.2 bt114.1 bt114.2 true))))) = some r := h
 clear h
 replace H := Option.bind_eq_some_iff.mp H
 obtain ⟨t111, A40, H⟩ := H
 replace H : ((field_Digits.f a0 a2).bind fun bt112 => ((field_Digits.f a1 a2).bind fun bt114 => (if t111 = true then (if bt112.2 = 0 then (groatlaw04_FieldAmounts.j0 k a0 a1 a2 t111 bt112.1 bt112.2 bt114.1 bt114.2 (bt114.2 != 0)) else (groatlaw04_FieldAmounts.j0 k a0 a1 a2 t111 bt112.1 bt112.2 bt114.1 bt114.2 true)) else (groatlaw04_FieldAmounts.j0 k a0 a1 a2 t111 bt112.1 bt112.2 bt114.1 bt114.2 true)))) = some r := H
 have A4 := Aside0.mk A40
 clear A40
 replace H := Option.bind_eq_some_iff.mp H
 obtain ⟨⟨t112, t113⟩, A50, H⟩ := H
 replace H : ((field_Digits.f a1 a2).bind fun bt114 => (if t111 = true then (if t113 = 0 then (groatlaw04_FieldAmounts.j0 k a0 a1 a2 t111 t112 t113 bt114.1 bt114.2 (bt114.2 != 0)) else (groatlaw04_FieldAmounts.j0 k a0 a1 a2 t111 t112 t113 bt114.1 bt114.2 true)) else (groatlaw04_FieldAmounts.j0 k a0 a1 a2 t111 t112 t113 bt114.1 bt114.2 true))) = some r := H
 have A5 := Aside0.mk A50
 clear A50
 replace H := Option.bind_eq_some_iff.mp H
 obtain ⟨⟨t114, t115⟩, A60, H⟩ := H
 replace H : (if t111 = true then (if t113 = 0 then (groatlaw04_FieldAmounts.j0 k a0 a1 a2 t111 t112 t113 t114 t115 (t115 != 0)) else (groatlaw04_FieldAmounts.j0 k a0 a1 a2 t111 t112 t113 t114 t115 true)) else (groatlaw04_FieldAmounts.j0 k a0 a1 a2 t111 t112 t113 t114 t115 true)) = some r := H
 have A6 := Aside0.mk A60
 clear A60
 have HC7 := Aside0.mk H
 clear H
 go_enter Try.func11, Try.ntmps11
 go_upto_region 4 with (first | ((with_reducible refine gate_callee (f := 12) rfl ?_); refine goesL_ (some 15) rfl rfl Try.func12 (by kernel_rfl) rfl #[] rfl (by (try simp only [List.map_toArray, List.map_cons, List.map_nil]); first | done | rfl | (simp only [List.length_drop, List.length_take]; rfl)) ?_; (with_reducible refine (groatlaw04_shown.calls  t111 _ A4.out).mono ?_); rintro e w8 ⟨rfl, hb⟩; refine ⟨_, rfl, ?_⟩; have n0_ := Aside0.mk (below_step (by repeat (first | (with_reducible first | exact HB.out | apply below_alloc | apply pw_below_drewN | apply below_drew1) | exact HB.out)) hb); clear HB; have HB := n0_; clear n0_; (try clear hb); (try clear hb2); (try clear hk); (try clear hi)) | ((with_reducible refine gate_callee (f := 21) rfl ?_); refine goesL_ (some 19) rfl rfl Try.func21 (by kernel_rfl) rfl #[.int .i64 a0, .int .i64 a2] rfl (by (try simp only [List.map_toArray, List.map_cons, List.map_nil]); first | done | rfl | (simp only [List.length_drop, List.length_take]; rfl)) ?_; (with_reducible refine (field_Digits.calls a0 a2 t112 t113 _ A5.out).mono ?_); rintro e w9 ⟨rfl, hb⟩; refine ⟨_, rfl, ?_⟩; have n0_ := Aside0.mk (below_step (by repeat (first | (with_reducible first | exact HB.out | apply below_alloc | apply pw_below_drewN | apply below_drew1) | exact HB.out)) hb); clear HB; have HB := n0_; clear n0_; (try clear hb); (try clear hb2); (try clear hk); (try clear hi)) | ((with_reducible refine gate_callee (f := 21) rfl ?_); refine goesL_ (some 25) rfl rfl Try.func21 (by kernel_rfl) rfl #[.int .i64 a1, .int .i64 a2] rfl (by (try simp only [List.map_toArray, List.map_cons, List.map_nil]); first | done | rfl | (simp only [List.length_drop, List.length_take]; rfl)) ?_; (with_reducible refine (field_Digits.calls a1 a2 t114 t115 _ A6.out).mono ?_); rintro e w10 ⟨rfl, hb⟩; refine ⟨_, rfl, ?_⟩; have n0_ := Aside0.mk (below_step (by repeat (first | (with_reducible first | exact HB.out | apply below_alloc | apply pw_below_drewN | apply below_drew1) | exact HB.out)) hb); clear HB; have HB := n0_; clear n0_; (try clear hb); (try clear hb2); (try clear hk); (try clear hi)))
 (try simp only [Act.put, List.setIfInBounds_toArray, List.set_cons_zero, List.set_cons_succ])
 go_cut [37] (fun v37 wc => ∃ (kq : Nat) (x37_6 : Bool), v37 = .bool x37_6 ∧ Aside0 (groatlaw04_FieldAmounts.j0 kq a0 a1 a2 t111 t112 t113 t114 t115 x37_6 = some r) ∧ Aside0 (kq ≤ k) ∧ Aside0 (Below w.heap.size w wc))
 case first =>
  have H := HC7.out
  clear HC7
  by_cases c11 : t111 = true
  ·subst c11
   have H1 : (if t113 = 0 then (groatlaw04_FieldAmounts.j0 k a0 a1 a2 true t112 t113 t114 t115 (t115 != 0)) else (groatlaw04_FieldAmounts.j0 k a0 a1 a2 true t112 t113 t114 t115 true)) = some r := by rw [if_pos rfl] at H; exact H
   clear H
   have H := H1
   clear H1
   by_cases c12 : t113 = 0
   ·rw [if_pos c12] at H
    have c12b0 : (t113 == 0) = true := beq_iff_eq.mpr c12
    have c12b1 : (t113 != 0) = false := bne_eq_false_iff_eq.mpr c12
    clear c12
    (first | rw [c12b0] | (simp only [i64_w, i32_w]; rw [c12b0]) | skip)
    have H' := Aside0.mk H
    clear H
    go_wp2
    go_meet
    case rel => exact ⟨_, ((t115 != 0)), (by first | rfl | (simp; done) | (simp only [i64_w, i32_w]; done) | (simp [*]; done)), H', ⟨by first | omega | exact Nat.le_refl _⟩, ⟨by repeat (first | (with_reducible first | exact HB.out | apply below_alloc | apply pw_below_drewN | apply below_drew1) | exact HB.out)⟩⟩
   ·rw [if_neg c12] at H
    have c12b0 : (t113 == 0) = false := beq_eq_false_iff_ne.mpr c12
    have c12b1 : (t113 != 0) = true := bne_iff_ne.mpr c12
    (first | rw [c12b0] | (simp only [i64_w, i32_w]; rw [c12b0]) | skip)
    have H' := Aside0.mk H
    clear H
    go_wp2
    go_meet
    case rel => exact ⟨_, (true), (by first | rfl | (simp; done) | (simp only [i64_w, i32_w]; done) | (simp [*]; done)), H', ⟨by first | omega | exact Nat.le_refl _⟩, ⟨by repeat (first | (with_reducible first | exact HB.out | apply below_alloc | apply pw_below_drewN | apply below_drew1) | exact HB.out)⟩⟩
  ·replace c11 := Bool.eq_false_iff.mpr c11
   subst c11
   have H1 : (groatlaw04_FieldAmounts.j0 k a0 a1 a2 false t112 t113 t114 t115 true) = some r := by rw [if_neg (show ¬ (false = true) by decide)] at H; exact H
   clear H
   have H := H1
   clear H1
   have H' := Aside0.mk H
   clear H
   go_wp2
   go_meet
   case rel => exact ⟨_, (true), (by first | rfl | (simp; done) | (simp only [i64_w, i32_w]; done) | (simp [*]; done)), H', ⟨by first | omega | exact Nat.le_refl _⟩, ⟨by repeat (first | (with_reducible first | exact HB.out | apply below_alloc | apply pw_below_drewN | apply below_drew1) | exact HB.out)⟩⟩
 case rest =>
  clear HC7
  try clear c1
  try clear c2
  try clear p2
  try clear c11
  try clear c12
  try clear c12b0
  try clear c12b1
  obtain ⟨kq, x37_6, rfl, HA, HJ6, HB⟩ := hcut
  cases kq with
  | zero => exact absurd HA.out (by simp [groatlaw04_FieldAmounts.j0])
  | succ kj6 =>
   have H := HA.out
   clear HA
   simp only [groatlaw04_FieldAmounts.j0] at H
   by_cases c13 : x37_6 = true
   ·subst c13
    have H1 : (if t111 = true then (if t113 = 0 then (if t115 = 0 then (some true) else (some (t114.toList == ([] : List UInt8)))) else (if t112.toList = ([] : List UInt8) then (if t115 = 0 then (some true) else (some (t114.toList == ([] : List UInt8)))) else (some false))) else (some false)) = some r := by rw [if_pos rfl] at H; exact H
    clear H
    have H := H1
    clear H1
    by_cases c14 : t111 = true
    ·subst c14
     have H1 : (if t113 = 0 then (if t115 = 0 then (some true) else (some (t114.toList == ([] : List UInt8)))) else (if t112.toList = ([] : List UInt8) then (if t115 = 0 then (some true) else (some (t114.toList == ([] : List UInt8)))) else (some false))) = some r := by rw [if_pos rfl] at H; exact H
     clear H
     have H := H1
     clear H1
     by_cases c15 : t113 = 0
     ·rw [if_pos c15] at H
      have c15b0 : (t113 == 0) = true := beq_iff_eq.mpr c15
      have c15b1 : (t113 != 0) = false := bne_eq_false_iff_eq.mpr c15
      clear c15
      by_cases c16 : t115 = 0
      ·rw [if_pos c16] at H
       have c16b0 : (t115 == 0) = true := beq_iff_eq.mpr c16
       have c16b1 : (t115 != 0) = false := bne_eq_false_iff_eq.mpr c16
       clear c16
       obtain rfl := Option.some.inj H
       go_wp2
       go_ret
       exact ⟨by first | rfl | (simp [errW_none, errW_some] <;> rfl) | (simp [*, errW_none, errW_some] <;> rfl), by repeat (first | (with_reducible first | exact HB.out | apply below_alloc | apply pw_below_drewN | apply below_drew1) | exact HB.out)⟩
      ·rw [if_neg c16] at H
       have c16b0 : (t115 == 0) = false := beq_eq_false_iff_ne.mpr c16
       have c16b1 : (t115 != 0) = true := bne_iff_ne.mpr c16
       obtain rfl := Option.some.inj H
       go_wp2
       go_ret
       exact ⟨by first | rfl | (simp [errW_none, errW_some] <;> rfl) | (simp [*, errW_none, errW_some] <;> rfl), by repeat (first | (with_reducible first | exact HB.out | apply below_alloc | apply pw_below_drewN | apply below_drew1) | exact HB.out)⟩
     ·rw [if_neg c15] at H
      have c15b0 : (t113 == 0) = false := beq_eq_false_iff_ne.mpr c15
      have c15b1 : (t113 != 0) = true := bne_iff_ne.mpr c15
      by_cases c17 : t112.toList = ([] : List UInt8)
      ·rw [if_pos c17] at H
       have c17b0 : (t112.toList == ([] : List UInt8)) = true := beq_iff_eq.mpr c17
       have c17b1 : (t112.toList != ([] : List UInt8)) = false := bne_eq_false_iff_eq.mpr c17
       clear c17
       by_cases c18 : t115 = 0
       ·rw [if_pos c18] at H
        have c18b0 : (t115 == 0) = true := beq_iff_eq.mpr c18
        have c18b1 : (t115 != 0) = false := bne_eq_false_iff_eq.mpr c18
        clear c18
        obtain rfl := Option.some.inj H
        go_wp2
        go_ret
        exact ⟨by first | rfl | (simp [errW_none, errW_some] <;> rfl) | (simp [*, errW_none, errW_some] <;> rfl), by repeat (first | (with_reducible first | exact HB.out | apply below_alloc | apply pw_below_drewN | apply below_drew1) | exact HB.out)⟩
       ·rw [if_neg c18] at H
        have c18b0 : (t115 == 0) = false := beq_eq_false_iff_ne.mpr c18
        have c18b1 : (t115 != 0) = true := bne_iff_ne.mpr c18
        obtain rfl := Option.some.inj H
        go_wp2
        go_ret
        exact ⟨by first | rfl | (simp [errW_none, errW_some] <;> rfl) | (simp [*, errW_none, errW_some] <;> rfl), by repeat (first | (with_reducible first | exact HB.out | apply below_alloc | apply pw_below_drewN | apply below_drew1) | exact HB.out)⟩
      ·rw [if_neg c17] at H
       have c17b0 : (t112.toList == ([] : List UInt8)) = false := beq_eq_false_iff_ne.mpr c17
       have c17b1 : (t112.toList != ([] : List UInt8)) = true := bne_iff_ne.mpr c17
       obtain rfl := Option.some.inj H
       go_wp2
       go_ret
       exact ⟨by first | rfl | (simp [errW_none, errW_some] <;> rfl) | (simp [*, errW_none, errW_some] <;> rfl), by repeat (first | (with_reducible first | exact HB.out | apply below_alloc | apply pw_below_drewN | apply below_drew1) | exact HB.out)⟩
    ·replace c14 := Bool.eq_false_iff.mpr c14
     subst c14
     have H1 : (some false) = some r := by rw [if_neg (show ¬ (false = true) by decide)] at H; exact H
     clear H
     have H := H1
     clear H1
     obtain rfl := Option.some.inj H
     go_wp2
     go_ret
     exact ⟨by first | rfl | (simp [errW_none, errW_some] <;> rfl) | (simp [*, errW_none, errW_some] <;> rfl), by repeat (first | (with_reducible first | exact HB.out | apply below_alloc | apply pw_below_drewN | apply below_drew1) | exact HB.out)⟩
   ·replace c13 := Bool.eq_false_iff.mpr c13
    subst c13
    have H1 : ((field_Amount.f t112).bind fun bt116 => (if a2 < 18 then (if 1 + t112.size ≤ 9223372036854775807 then ((field_Amount.f ((⟨#[48]⟩ : ByteArray) ++ t112)).bind fun bt118 => (if ((Op.bytesLess t112.toList t114.toList) == (decide (a0 < a1))) = true then (if ((t112.toList == t114.toList) == (a0 == a1)) = true then (if bt116.1 = a0 then (if bt118.1 = a0 then (some (bt118.2 == 0)) else (some false)) else (some false)) else (some false)) else (some false))) else (none)) else (if ((Op.bytesLess t112.toList t114.toList) == (decide (a0 < a1))) = true then (if ((t112.toList == t114.toList) == (a0 == a1)) = true then (if bt116.1 = a0 then (some (bt116.2 == 0)) else (some false)) else (some false)) else (some false)))) = some r := by rw [if_neg (show ¬ (false = true) by decide)] at H; exact H
    clear H
    have H := H1
    clear H1
    replace H := Option.bind_eq_some_iff.mp H
    obtain ⟨⟨t116, t117⟩, A190, H⟩ := H
    replace H : (if a2 < 18 then (if 1 + t112.size ≤ 9223372036854775807 then ((field_Amount.f ((⟨#[48]⟩ : ByteArray) ++ t112)).bind fun bt118 => (if ((Op.bytesLess t112.toList t114.toList) == (decide (a0 < a1))) = true then (if ((t112.toList == t114.toList) == (a0 == a1)) = true then (if t116 = a0 then (if bt118.1 = a0 then (some (bt118.2 == 0)) else (some false)) else (some false)) else (some false)) else (some false))) else (none)) else (if ((Op.bytesLess t112.toList t114.toList) == (decide (a0 < a1))) = true then (if ((t112.toList == t114.toList) == (a0 == a1)) = true then (if t116 = a0 then (some (t117 == 0)) else (some false)) else (some false)) else (some false))) = some r := H
    have A19 := Aside0.mk A190
    clear A190
    by_cases c20 : a2 < 18
    ·rw [if_pos c20] at H
     have c20b0 : decide (a2 < 18) = true := decide_eq_true c20
     clear c20
     by_cases c21 : 1 + t112.size ≤ 9223372036854775807
     ·rw [if_pos c21] at H
      have c21b0 := eq_true c21
      have c21b1 : decide (1 + t112.size ≤ 9223372036854775807) = true := decide_eq_true c21
      try have c21b2 : (9223372036854775807 < 1 + t112.size) = False := eq_false (Nat.not_lt.2 c21)
      try (have c21b3 := c21; simp only [ByteArray.size_append, ByteArray.size_extract, Nat.min_self] at c21b3; replace c21b3 := eq_false (Nat.not_lt.2 c21b3))
      replace H := Option.bind_eq_some_iff.mp H
      obtain ⟨⟨t118, t119⟩, A220, H⟩ := H
      replace H : (if ((Op.bytesLess t112.toList t114.toList) == (decide (a0 < a1))) = true then (if ((t112.toList == t114.toList) == (a0 == a1)) = true then (if t116 = a0 then (if t118 = a0 then (some (t119 == 0)) else (some false)) else (some false)) else (some false)) else (some false)) = some r := H
      have A22 := Aside0.mk A220
      clear A220
      by_cases c23 : ((Op.bytesLess t112.toList t114.toList) == (decide (a0 < a1))) = true
      ·rw [if_pos c23] at H
       have c23b0 : ((Op.bytesLess t112.toList t114.toList) == (decide (a0 < a1))) = true := c23
       (try (have c23b1 : decide ((Op.bytesLess t112.toList t114.toList) = (decide (a0 < a1))) = true := by simpa using c23))
       (try (have c23b2 : ((Op.bytesLess t112.toList t114.toList) == (decide (a0 < a1))) = true := by simpa using c23))
       clear c23
       by_cases c24 : ((t112.toList == t114.toList) == (a0 == a1)) = true
       ·rw [if_pos c24] at H
        have c24b0 : ((t112.toList == t114.toList) == (a0 == a1)) = true := c24
        (try (have c24b1 : decide ((t112.toList == t114.toList) = (a0 == a1)) = true := by simpa using c24))
        (try (have c24b2 : ((t112.toList == t114.toList) == (a0 == a1)) = true := by simpa using c24))
        clear c24
        by_cases c25 : t116 = a0
        ·rw [if_pos c25] at H
         have c25b0 : (t116 == a0) = true := beq_iff_eq.mpr c25
         have c25b1 : (t116 != a0) = false := bne_eq_false_iff_eq.mpr c25
         clear c25
         by_cases c26 : t118 = a0
         ·rw [if_pos c26] at H
          have c26b0 : (t118 == a0) = true := beq_iff_eq.mpr c26
          have c26b1 : (t118 != a0) = false := bne_eq_false_iff_eq.mpr c26
          clear c26
          obtain rfl := Option.some.inj H
          go_wp2_with (first | ((with_reducible refine gate_callee (f := 19) rfl ?_); refine goesL_ (some 57) rfl rfl Try.func19 (by kernel_rfl) rfl #[.string t112] rfl (by (try simp only [List.map_toArray, List.map_cons, List.map_nil]); first | done | rfl | (simp only [List.length_drop, List.length_take]; rfl)) ?_; (with_reducible refine (field_Amount.calls t112 t116 t117 _ A19.out).mono ?_); rintro e w' ⟨rfl, ⟨nd, rfl⟩⟩; refine ⟨_, rfl, ?_⟩) | ((with_reducible refine gate_callee (f := 19) rfl ?_); refine goesL_ (some 66) rfl rfl Try.func19 (by kernel_rfl) rfl #[.string ((⟨#[48]⟩ : ByteArray) ++ t112)] rfl (by (try simp only [List.map_toArray, List.map_cons, List.map_nil]); first | done | rfl | (simp only [List.length_drop, List.length_take]; rfl)) ?_; (with_reducible refine (field_Amount.calls ((⟨#[48]⟩ : ByteArray) ++ t112) t118 t119 _ A22.out).mono ?_); rintro e w' ⟨rfl, ⟨nd, rfl⟩⟩; refine ⟨_, rfl, ?_⟩))
          go_ret
          exact ⟨by first | rfl | (simp [errW_none, errW_some] <;> rfl) | (simp [*, errW_none, errW_some] <;> rfl), by repeat (first | (with_reducible first | exact HB.out | apply below_alloc | apply pw_below_drewN | apply below_drew1) | exact HB.out)⟩
         ·rw [if_neg c26] at H
          have c26b0 : (t118 == a0) = false := beq_eq_false_iff_ne.mpr c26
          have c26b1 : (t118 != a0) = true := bne_iff_ne.mpr c26
          obtain rfl := Option.some.inj H
          go_wp2_with (first | ((with_reducible refine gate_callee (f := 19) rfl ?_); refine goesL_ (some 57) rfl rfl Try.func19 (by kernel_rfl) rfl #[.string t112] rfl (by (try simp only [List.map_toArray, List.map_cons, List.map_nil]); first | done | rfl | (simp only [List.length_drop, List.length_take]; rfl)) ?_; (with_reducible refine (field_Amount.calls t112 t116 t117 _ A19.out).mono ?_); rintro e w' ⟨rfl, ⟨nd, rfl⟩⟩; refine ⟨_, rfl, ?_⟩) | ((with_reducible refine gate_callee (f := 19) rfl ?_); refine goesL_ (some 66) rfl rfl Try.func19 (by kernel_rfl) rfl #[.string ((⟨#[48]⟩ : ByteArray) ++ t112)] rfl (by (try simp only [List.map_toArray, List.map_cons, List.map_nil]); first | done | rfl | (simp only [List.length_drop, List.length_take]; rfl)) ?_; (with_reducible refine (field_Amount.calls ((⟨#[48]⟩ : ByteArray) ++ t112) t118 t119 _ A22.out).mono ?_); rintro e w' ⟨rfl, ⟨nd, rfl⟩⟩; refine ⟨_, rfl, ?_⟩))
          go_ret
          exact ⟨by first | rfl | (simp [errW_none, errW_some] <;> rfl) | (simp [*, errW_none, errW_some] <;> rfl), by repeat (first | (with_reducible first | exact HB.out | apply below_alloc | apply pw_below_drewN | apply below_drew1) | exact HB.out)⟩
        ·rw [if_neg c25] at H
         have c25b0 : (t116 == a0) = false := beq_eq_false_iff_ne.mpr c25
         have c25b1 : (t116 != a0) = true := bne_iff_ne.mpr c25
         obtain rfl := Option.some.inj H
         go_wp2_with (first | ((with_reducible refine gate_callee (f := 19) rfl ?_); refine goesL_ (some 57) rfl rfl Try.func19 (by kernel_rfl) rfl #[.string t112] rfl (by (try simp only [List.map_toArray, List.map_cons, List.map_nil]); first | done | rfl | (simp only [List.length_drop, List.length_take]; rfl)) ?_; (with_reducible refine (field_Amount.calls t112 t116 t117 _ A19.out).mono ?_); rintro e w' ⟨rfl, ⟨nd, rfl⟩⟩; refine ⟨_, rfl, ?_⟩) | ((with_reducible refine gate_callee (f := 19) rfl ?_); refine goesL_ (some 66) rfl rfl Try.func19 (by kernel_rfl) rfl #[.string ((⟨#[48]⟩ : ByteArray) ++ t112)] rfl (by (try simp only [List.map_toArray, List.map_cons, List.map_nil]); first | done | rfl | (simp only [List.length_drop, List.length_take]; rfl)) ?_; (with_reducible refine (field_Amount.calls ((⟨#[48]⟩ : ByteArray) ++ t112) t118 t119 _ A22.out).mono ?_); rintro e w' ⟨rfl, ⟨nd, rfl⟩⟩; refine ⟨_, rfl, ?_⟩))
         go_ret
         exact ⟨by first | rfl | (simp [errW_none, errW_some] <;> rfl) | (simp [*, errW_none, errW_some] <;> rfl), by repeat (first | (with_reducible first | exact HB.out | apply below_alloc | apply pw_below_drewN | apply below_drew1) | exact HB.out)⟩
       ·rw [if_neg c24] at H
        have c24b0 : ((t112.toList == t114.toList) == (a0 == a1)) = false := by simpa using c24
        (try (have c24b1 : decide ((t112.toList == t114.toList) = (a0 == a1)) = false := by simpa using c24))
        (try (have c24b2 : ((t112.toList == t114.toList) == (a0 == a1)) = false := by simpa using c24))
        (try (have c24b3 : ¬ ((t112.toList == t114.toList) = (a0 == a1)) := by simpa using c24))
        clear c24
        obtain rfl := Option.some.inj H
        go_wp2_with (first | ((with_reducible refine gate_callee (f := 19) rfl ?_); refine goesL_ (some 57) rfl rfl Try.func19 (by kernel_rfl) rfl #[.string t112] rfl (by (try simp only [List.map_toArray, List.map_cons, List.map_nil]); first | done | rfl | (simp only [List.length_drop, List.length_take]; rfl)) ?_; (with_reducible refine (field_Amount.calls t112 t116 t117 _ A19.out).mono ?_); rintro e w' ⟨rfl, ⟨nd, rfl⟩⟩; refine ⟨_, rfl, ?_⟩) | ((with_reducible refine gate_callee (f := 19) rfl ?_); refine goesL_ (some 66) rfl rfl Try.func19 (by kernel_rfl) rfl #[.string ((⟨#[48]⟩ : ByteArray) ++ t112)] rfl (by (try simp only [List.map_toArray, List.map_cons, List.map_nil]); first | done | rfl | (simp only [List.length_drop, List.length_take]; rfl)) ?_; (with_reducible refine (field_Amount.calls ((⟨#[48]⟩ : ByteArray) ++ t112) t118 t119 _ A22.out).mono ?_); rintro e w' ⟨rfl, ⟨nd, rfl⟩⟩; refine ⟨_, rfl, ?_⟩))
        go_ret
        exact ⟨by first | rfl | (simp [errW_none, errW_some] <;> rfl) | (simp [*, errW_none, errW_some] <;> rfl), by repeat (first | (with_reducible first | exact HB.out | apply below_alloc | apply pw_below_drewN | apply below_drew1) | exact HB.out)⟩
      ·rw [if_neg c23] at H
       have c23b0 : ((Op.bytesLess t112.toList t114.toList) == (decide (a0 < a1))) = false := by simpa using c23
       (try (have c23b1 : decide ((Op.bytesLess t112.toList t114.toList) = (decide (a0 < a1))) = false := by simpa using c23))
       (try (have c23b2 : ((Op.bytesLess t112.toList t114.toList) == (decide (a0 < a1))) = false := by simpa using c23))
       (try (have c23b3 : ¬ ((Op.bytesLess t112.toList t114.toList) = (decide (a0 < a1))) := by simpa using c23))
       clear c23
       obtain rfl := Option.some.inj H
       go_wp2_with (first | ((with_reducible refine gate_callee (f := 19) rfl ?_); refine goesL_ (some 57) rfl rfl Try.func19 (by kernel_rfl) rfl #[.string t112] rfl (by (try simp only [List.map_toArray, List.map_cons, List.map_nil]); first | done | rfl | (simp only [List.length_drop, List.length_take]; rfl)) ?_; (with_reducible refine (field_Amount.calls t112 t116 t117 _ A19.out).mono ?_); rintro e w' ⟨rfl, ⟨nd, rfl⟩⟩; refine ⟨_, rfl, ?_⟩) | ((with_reducible refine gate_callee (f := 19) rfl ?_); refine goesL_ (some 66) rfl rfl Try.func19 (by kernel_rfl) rfl #[.string ((⟨#[48]⟩ : ByteArray) ++ t112)] rfl (by (try simp only [List.map_toArray, List.map_cons, List.map_nil]); first | done | rfl | (simp only [List.length_drop, List.length_take]; rfl)) ?_; (with_reducible refine (field_Amount.calls ((⟨#[48]⟩ : ByteArray) ++ t112) t118 t119 _ A22.out).mono ?_); rintro e w' ⟨rfl, ⟨nd, rfl⟩⟩; refine ⟨_, rfl, ?_⟩))
       go_ret
       exact ⟨by first | rfl | (simp [errW_none, errW_some] <;> rfl) | (simp [*, errW_none, errW_some] <;> rfl), by repeat (first | (with_reducible first | exact HB.out | apply below_alloc | apply pw_below_drewN | apply below_drew1) | exact HB.out)⟩
     ·rw [if_neg c21] at H
      exact absurd H (by simp)
    ·rw [if_neg c20] at H
     have c20b0 : decide (a2 < 18) = false := decide_eq_false c20
     clear c20
     by_cases c27 : ((Op.bytesLess t112.toList t114.toList) == (decide (a0 < a1))) = true
     ·rw [if_pos c27] at H
      have c27b0 : ((Op.bytesLess t112.toList t114.toList) == (decide (a0 < a1))) = true := c27
      (try (have c27b1 : decide ((Op.bytesLess t112.toList t114.toList) = (decide (a0 < a1))) = true := by simpa using c27))
      (try (have c27b2 : ((Op.bytesLess t112.toList t114.toList) == (decide (a0 < a1))) = true := by simpa using c27))
      clear c27
      by_cases c28 : ((t112.toList == t114.toList) == (a0 == a1)) = true
      ·rw [if_pos c28] at H
       have c28b0 : ((t112.toList == t114.toList) == (a0 == a1)) = true := c28
       (try (have c28b1 : decide ((t112.toList == t114.toList) = (a0 == a1)) = true := by simpa using c28))
       (try (have c28b2 : ((t112.toList == t114.toList) == (a0 == a1)) = true := by simpa using c28))
       clear c28
       by_cases c29 : t116 = a0
       ·rw [if_pos c29] at H
        have c29b0 : (t116 == a0) = true := beq_iff_eq.mpr c29
        have c29b1 : (t116 != a0) = false := bne_eq_false_iff_eq.mpr c29
        clear c29
        obtain rfl := Option.some.inj H
        go_wp2_with (first | ((with_reducible refine gate_callee (f := 19) rfl ?_); refine goesL_ (some 57) rfl rfl Try.func19 (by kernel_rfl) rfl #[.string t112] rfl (by (try simp only [List.map_toArray, List.map_cons, List.map_nil]); first | done | rfl | (simp only [List.length_drop, List.length_take]; rfl)) ?_; (with_reducible refine (field_Amount.calls t112 t116 t117 _ A19.out).mono ?_); rintro e w' ⟨rfl, ⟨nd, rfl⟩⟩; refine ⟨_, rfl, ?_⟩))
        go_ret
        exact ⟨by first | rfl | (simp [errW_none, errW_some] <;> rfl) | (simp [*, errW_none, errW_some] <;> rfl), by repeat (first | (with_reducible first | exact HB.out | apply below_alloc | apply pw_below_drewN | apply below_drew1) | exact HB.out)⟩
       ·rw [if_neg c29] at H
        have c29b0 : (t116 == a0) = false := beq_eq_false_iff_ne.mpr c29
        have c29b1 : (t116 != a0) = true := bne_iff_ne.mpr c29
        obtain rfl := Option.some.inj H
        go_wp2_with (first | ((with_reducible refine gate_callee (f := 19) rfl ?_); refine goesL_ (some 57) rfl rfl Try.func19 (by kernel_rfl) rfl #[.string t112] rfl (by (try simp only [List.map_toArray, List.map_cons, List.map_nil]); first | done | rfl | (simp only [List.length_drop, List.length_take]; rfl)) ?_; (with_reducible refine (field_Amount.calls t112 t116 t117 _ A19.out).mono ?_); rintro e w' ⟨rfl, ⟨nd, rfl⟩⟩; refine ⟨_, rfl, ?_⟩))
        go_ret
        exact ⟨by first | rfl | (simp [errW_none, errW_some] <;> rfl) | (simp [*, errW_none, errW_some] <;> rfl), by repeat (first | (with_reducible first | exact HB.out | apply below_alloc | apply pw_below_drewN | apply below_drew1) | exact HB.out)⟩
      ·rw [if_neg c28] at H
       have c28b0 : ((t112.toList == t114.toList) == (a0 == a1)) = false := by simpa using c28
       (try (have c28b1 : decide ((t112.toList == t114.toList) = (a0 == a1)) = false := by simpa using c28))
       (try (have c28b2 : ((t112.toList == t114.toList) == (a0 == a1)) = false := by simpa using c28))
       (try (have c28b3 : ¬ ((t112.toList == t114.toList) = (a0 == a1)) := by simpa using c28))
       clear c28
       obtain rfl := Option.some.inj H
       go_wp2_with (first | ((with_reducible refine gate_callee (f := 19) rfl ?_); refine goesL_ (some 57) rfl rfl Try.func19 (by kernel_rfl) rfl #[.string t112] rfl (by (try simp only [List.map_toArray, List.map_cons, List.map_nil]); first | done | rfl | (simp only [List.length_drop, List.length_take]; rfl)) ?_; (with_reducible refine (field_Amount.calls t112 t116 t117 _ A19.out).mono ?_); rintro e w' ⟨rfl, ⟨nd, rfl⟩⟩; refine ⟨_, rfl, ?_⟩))
       go_ret
       exact ⟨by first | rfl | (simp [errW_none, errW_some] <;> rfl) | (simp [*, errW_none, errW_some] <;> rfl), by repeat (first | (with_reducible first | exact HB.out | apply below_alloc | apply pw_below_drewN | apply below_drew1) | exact HB.out)⟩
     ·rw [if_neg c27] at H
      have c27b0 : ((Op.bytesLess t112.toList t114.toList) == (decide (a0 < a1))) = false := by simpa using c27
      (try (have c27b1 : decide ((Op.bytesLess t112.toList t114.toList) = (decide (a0 < a1))) = false := by simpa using c27))
      (try (have c27b2 : ((Op.bytesLess t112.toList t114.toList) == (decide (a0 < a1))) = false := by simpa using c27))
      (try (have c27b3 : ¬ ((Op.bytesLess t112.toList t114.toList) = (decide (a0 < a1))) := by simpa using c27))
      clear c27
      obtain rfl := Option.some.inj H
      go_wp2_with (first | ((with_reducible refine gate_callee (f := 19) rfl ?_); refine goesL_ (some 57) rfl rfl Try.func19 (by kernel_rfl) rfl #[.string t112] rfl (by (try simp only [List.map_toArray, List.map_cons, List.map_nil]); first | done | rfl | (simp only [List.length_drop, List.length_take]; rfl)) ?_; (with_reducible refine (field_Amount.calls t112 t116 t117 _ A19.out).mono ?_); rintro e w' ⟨rfl, ⟨nd, rfl⟩⟩; refine ⟨_, rfl, ?_⟩))
      go_ret
      exact ⟨by first | rfl | (simp [errW_none, errW_some] <;> rfl) | (simp [*, errW_none, errW_some] <;> rfl), by repeat (first | (with_reducible first | exact HB.out | apply below_alloc | apply pw_below_drewN | apply below_drew1) | exact HB.out)⟩

/-- THE ONE PURE STATEMENT of groatlaw04_FieldAmounts: yours. -/
def groatlaw04_FieldAmounts.Pure : Prop := ∀ (a0 : Int) (a1 : Int) (a2 : Int), (Lit.int .i64 a0).wf = true → (Lit.int .i64 a1).wf = true → (Lit.int .i64 a2).wf = true → ∃ k, groatlaw04_FieldAmounts.f k a0 a1 a2 = some true
theorem groatlaw04_FieldAmounts.walk (P : groatlaw04_FieldAmounts.Pure) (a0 : Int) (a1 : Int) (a2 : Int) (w : World) (w0 : (Lit.int .i64 a0).wf = true) (w1 : (Lit.int .i64 a1).wf = true) (w2 : (Lit.int .i64 a2).wf = true) :
  Calls Try.prog 11 #[.int .i64 a0, .int .i64 a1, .int .i64 a2] w fun e w' => e = .returned (.bool true) ∧ Below w.heap.size w w' := by
 obtain ⟨k, h⟩ := P a0 a1 a2 w0 w1 w2
 refine (groatlaw04_FieldAmounts.calls k a0 a1 a2 true w h).mono ?_
 rintro e w' ⟨rfl, hd⟩
 exact ⟨rfl, hd⟩

end Go.Proofs.Ytcgfbdleapjigaa.PFieldAmounts
