/- Functions of the program as Lean functions, and that the Go code computes them. Written by a program of this session (wip/tools/mkprint.py, over the print of the kit), which takes some contracts from the session itself. Conditions: as each theorem says. -/
import Derived.Test.YtcgfbdleapjigaaPFieldNumbersx0
import Derived.Test.YtcgfbdleapjigaaPFieldNumbersx1
import Derived.Test.YtcgfbdleapjigaaPFieldNumbersx2
namespace Go.Proofs.Ytcgfbdleapjigaa.PFieldNumbers
open Go.RowKit Go.Proofs.YtcgfbdleapjigaaW.PrintWords Go.Proofs.YtcgfbdleapjigaaW.PrintLast Go.Proofs.YtcgfbdleapjigaaW.PrintMore
attribute [local go_sem] max2_int min2_int max_two min_two max_three min_three max_four min_four   -- for this text's walks alone
set_option linter.unusedVariables false
set_option linter.unusedSimpArgs false

/-! ### groatlaw04_FieldNumbers: function 7 -/
def groatlaw04_FieldNumbers.j0 : Nat → Int → Int → ByteArray → Int → Bool → Option (Bool)
 | 0, _, _, _, _, _ => none
 | k + 1, x1, x2, x12, x13, x69 => if x69 = true then (some false) else (if x13 = 0 then ((field_Amount.f x12).bind fun bt142 => (if bt142.2 = 0 then (if bt142.1 = x1 then (some ((x12.size : Int) == x2)) else (some false)) else (some false))) else (some true))
def groatlaw04_FieldNumbers.f (k : Nat) (a0 : ByteArray) (a1 : Int) (a2 : Int) : Option (Bool) := (groatlaw04_shown.f).bind fun t131 => ((field_Amount.f a0).bind fun bt132 => ((groatref04_Amount.f k a0).bind fun bt134 => ((field_Digits.f a1 a2).bind fun bt136 => ((groatref04_Digits.f k a1 a2).bind fun bt138 => (if t131 = true then (if bt132.1 = bt134.1 then (if bt132.2 = bt134.2 then (if bt136.1.toList = bt138.1.toList then (if bt136.2 = bt138.2 then ((field_When.f a0).bind fun t140 => ((groatref04_When.f k a0).bind fun t141 => (groatlaw04_FieldNumbers.j0 k a1 a2 bt136.1 bt136.2 (t140 != t141)))) else (groatlaw04_FieldNumbers.j0 k a1 a2 bt136.1 bt136.2 true)) else (groatlaw04_FieldNumbers.j0 k a1 a2 bt136.1 bt136.2 true)) else (groatlaw04_FieldNumbers.j0 k a1 a2 bt136.1 bt136.2 true)) else (groatlaw04_FieldNumbers.j0 k a1 a2 bt136.1 bt136.2 true)) else (groatlaw04_FieldNumbers.j0 k a1 a2 bt136.1 bt136.2 true))))))
theorem groatlaw04_FieldNumbers.mono_l : ∀ k, (∀ y0 y1 y2 y3 y4, LeO (groatlaw04_FieldNumbers.j0 k y0 y1 y2 y3 y4) (groatlaw04_FieldNumbers.j0 (k + 1) y0 y1 y2 y3 y4))
 | 0 => fun _ _ _ _ _ r h => by simp [groatlaw04_FieldNumbers.j0] at h
 | k + 1 => by
  have ih0 := groatlaw04_FieldNumbers.mono_l k
  ·intro y0 y1 y2 y3 y4
   unfold groatlaw04_FieldNumbers.j0
   repeat' first
   | (with_reducible exact ih0 _ _ _ _ _)
   | (with_reducible exact groatref04_Amount.mono _ _)
   | (with_reducible exact groatref04_Digits.mono _ _ _)
   | (with_reducible exact groatref04_When.mono _ _)
   | (with_reducible exact LeO.refl _)
   | (with_reducible exact LeO.none _)
   | (with_reducible refine LeO.ite ?_ ?_)
   | (with_reducible refine LeO.bind ?_ (fun _ => ?_))
   | exact ih0 _ _ _ _ _
   | exact groatref04_Amount.mono _ _
   | exact groatref04_Digits.mono _ _ _
   | exact groatref04_When.mono _ _
   | exact LeO.none _
   | refine LeO.ite ?_ ?_
   | refine LeO.bind ?_ (fun _ => ?_)
theorem groatlaw04_FieldNumbers.mono : ∀ a0 a1 a2 k, LeO (groatlaw04_FieldNumbers.f k a0 a1 a2) (groatlaw04_FieldNumbers.f (k + 1) a0 a1 a2) := by
 intro a0 a1 a2 k
 have ih0 := groatlaw04_FieldNumbers.mono_l k
 unfold groatlaw04_FieldNumbers.f
 repeat' first
   | (with_reducible exact ih0 _ _ _ _ _)
   | (with_reducible exact groatref04_Amount.mono _ _)
   | (with_reducible exact groatref04_Digits.mono _ _ _)
   | (with_reducible exact groatref04_When.mono _ _)
   | (with_reducible exact LeO.refl _)
   | (with_reducible exact LeO.none _)
   | (with_reducible refine LeO.ite ?_ ?_)
   | (with_reducible refine LeO.bind ?_ (fun _ => ?_))
   | exact ih0 _ _ _ _ _
   | exact groatref04_Amount.mono _ _
   | exact groatref04_Digits.mono _ _ _
   | exact groatref04_When.mono _ _
   | exact LeO.none _
   | refine LeO.ite ?_ ?_
   | refine LeO.bind ?_ (fun _ => ?_)
set_option maxHeartbeats 8000000 in
set_option maxRecDepth 100000 in
theorem groatlaw04_FieldNumbers.calls (k : Nat) (a0 : ByteArray) (a1 : Int) (a2 : Int) (r : Bool) (w : World) (h : groatlaw04_FieldNumbers.f k a0 a1 a2 = some r) :
  Calls Try.prog 7 #[.string a0, .int .i64 a1, .int .i64 a2] w fun e w' => e = .returned (.bool r) ∧ Below w.heap.size w w' := by
 have HB := Aside0.mk (Below.refl w.heap.size w)
 have H : ((groatlaw04_shown.f).bind fun t131 => ((field_Amount.f a0).bind fun bt132 => ((groatref04_Amount.f k a0).bind fun bt134 => ((field_Digits.f a1 a2).bind fun bt136 => ((groatref04_Digits.f k a1 a2).bind fun bt138 => (if t131 = true then (if bt132.1 = bt134.1 then (if bt132.2 = bt134.2 then (if bt136.1.toList = bt138.1.toList then (if bt136.2 = bt138.2 then ((field_When.f a0).bind fun t140 => ((groatref04_When.f k a0).bind fun t141 => (groatlaw04_FieldNumbers.j0 k a1 a2 bt136.1 bt136.2 (t140 != t141)))) else (groatlaw04_FieldNumbers.j0 k a1 a2 bt136.1 bt136.2 true)) else (groatlaw04_FieldNumbers.j0 k a1 a2 bt136.1 bt136.2 true)) else (groatlaw04_FieldNumbers.j0 k a1 a2 bt136.1 bt136.2 true)) else (groatlaw04_FieldNumbers.j0 k a1 a2 bt136.1 bt136.2 true)) else (groatlaw04_FieldNumbers.j0 k a1 a2 bt136.1 bt136.2 true))))))) = some r := h
 clear h
 replace H := Option.bind_eq_some_iff.mp H
 obtain ⟨t131, A40, H⟩ := H
 replace H : ((field_Amount.f a0).bind fun bt132 => ((groatref04_Amount.f k a0).bind fun bt134 => ((field_Digits.f a1 a2).bind fun bt136 => ((groatref04_Digits.f k a1 a2).bind fun bt138 => (if t131 = true then (if bt132.1 = bt134.1 then (if bt132.2 = bt134.2 then (if bt136.1.toList = bt138.1.toList then (if bt136.2 = bt138.2 then ((field_When.f a0).bind fun t140 => ((groatref04_When.f k a0).bind fun t141 => (groatlaw04_FieldNumbers.j0 k a1 a2 bt136.1 bt136.2 (t140 != t141)))) else (groatlaw04_FieldNumbers.j0 k a1 a2 bt136.1 bt136.2 true)) else (groatlaw04_FieldNumbers.j0 k a1 a2 bt136.1 bt136.2 true)) else (groatlaw04_FieldNumbers.j0 k a1 a2 bt136.1 bt136.2 true)) else (groatlaw04_FieldNumbers.j0 k a1 a2 bt136.1 bt136.2 true)) else (groatlaw04_FieldNumbers.j0 k a1 a2 bt136.1 bt136.2 true)))))) = some r := H
 have A4 := Aside0.mk A40
 clear A40
 replace H := Option.bind_eq_some_iff.mp H
 obtain ⟨⟨t132, t133⟩, A50, H⟩ := H
 replace H : ((groatref04_Amount.f k a0).bind fun bt134 => ((field_Digits.f a1 a2).bind fun bt136 => ((groatref04_Digits.f k a1 a2).bind fun bt138 => (if t131 = true then (if t132 = bt134.1 then (if t133 = bt134.2 then (if bt136.1.toList = bt138.1.toList then (if bt136.2 = bt138.2 then ((field_When.f a0).bind fun t140 => ((groatref04_When.f k a0).bind fun t141 => (groatlaw04_FieldNumbers.j0 k a1 a2 bt136.1 bt136.2 (t140 != t141)))) else (groatlaw04_FieldNumbers.j0 k a1 a2 bt136.1 bt136.2 true)) else (groatlaw04_FieldNumbers.j0 k a1 a2 bt136.1 bt136.2 true)) else (groatlaw04_FieldNumbers.j0 k a1 a2 bt136.1 bt136.2 true)) else (groatlaw04_FieldNumbers.j0 k a1 a2 bt136.1 bt136.2 true)) else (groatlaw04_FieldNumbers.j0 k a1 a2 bt136.1 bt136.2 true))))) = some r := H
 have A5 := Aside0.mk A50
 clear A50
 replace H := Option.bind_eq_some_iff.mp H
 obtain ⟨⟨t134, t135⟩, A60, H⟩ := H
 replace H : ((field_Digits.f a1 a2).bind fun bt136 => ((groatref04_Digits.f k a1 a2).bind fun bt138 => (if t131 = true then (if t132 = t134 then (if t133 = t135 then (if bt136.1.toList = bt138.1.toList then (if bt136.2 = bt138.2 then ((field_When.f a0).bind fun t140 => ((groatref04_When.f k a0).bind fun t141 => (groatlaw04_FieldNumbers.j0 k a1 a2 bt136.1 bt136.2 (t140 != t141)))) else (groatlaw04_FieldNumbers.j0 k a1 a2 bt136.1 bt136.2 true)) else (groatlaw04_FieldNumbers.j0 k a1 a2 bt136.1 bt136.2 true)) else (groatlaw04_FieldNumbers.j0 k a1 a2 bt136.1 bt136.2 true)) else (groatlaw04_FieldNumbers.j0 k a1 a2 bt136.1 bt136.2 true)) else (groatlaw04_FieldNumbers.j0 k a1 a2 bt136.1 bt136.2 true)))) = some r := H
 have A6 := Aside0.mk A60
 clear A60
 replace H := Option.bind_eq_some_iff.mp H
 obtain ⟨⟨t136, t137⟩, A70, H⟩ := H
 replace H : ((groatref04_Digits.f k a1 a2).bind fun bt138 => (if t131 = true then (if t132 = t134 then (if t133 = t135 then (if t136.toList = bt138.1.toList then (if t137 = bt138.2 then ((field_When.f a0).bind fun t140 => ((groatref04_When.f k a0).bind fun t141 => (groatlaw04_FieldNumbers.j0 k a1 a2 t136 t137 (t140 != t141)))) else (groatlaw04_FieldNumbers.j0 k a1 a2 t136 t137 true)) else (groatlaw04_FieldNumbers.j0 k a1 a2 t136 t137 true)) else (groatlaw04_FieldNumbers.j0 k a1 a2 t136 t137 true)) else (groatlaw04_FieldNumbers.j0 k a1 a2 t136 t137 true)) else (groatlaw04_FieldNumbers.j0 k a1 a2 t136 t137 true))) = some r := H
 have A7 := Aside0.mk A70
 clear A70
 replace H := Option.bind_eq_some_iff.mp H
 obtain ⟨⟨t138, t139⟩, A80, H⟩ := H
 replace H : (if t131 = true then (if t132 = t134 then (if t133 = t135 then (if t136.toList = t138.toList then (if t137 = t139 then ((field_When.f a0).bind fun t140 => ((groatref04_When.f k a0).bind fun t141 => (groatlaw04_FieldNumbers.j0 k a1 a2 t136 t137 (t140 != t141)))) else (groatlaw04_FieldNumbers.j0 k a1 a2 t136 t137 true)) else (groatlaw04_FieldNumbers.j0 k a1 a2 t136 t137 true)) else (groatlaw04_FieldNumbers.j0 k a1 a2 t136 t137 true)) else (groatlaw04_FieldNumbers.j0 k a1 a2 t136 t137 true)) else (groatlaw04_FieldNumbers.j0 k a1 a2 t136 t137 true)) = some r := H
 have A8 := Aside0.mk A80
 clear A80
 have HC9 := Aside0.mk H
 clear H
 go_enter Try.func7, Try.ntmps7
 go_upto_region 6 with (first | ((with_reducible refine gate_callee (f := 12) rfl ?_); refine goesL_ (some 18) rfl rfl Try.func12 (by kernel_rfl) rfl #[] rfl (by (try simp only [List.map_toArray, List.map_cons, List.map_nil]); first | done | rfl | (simp only [List.length_drop, List.length_take]; rfl)) ?_; (with_reducible refine (groatlaw04_shown.calls  t131 _ A4.out).mono ?_); rintro e w10 ⟨rfl, hb⟩; refine ⟨_, rfl, ?_⟩; have n0_ := Aside0.mk (below_step (by repeat (first | (with_reducible first | exact HB.out | apply below_alloc | apply pw_below_drewN | apply below_drew1) | exact HB.out)) hb); clear HB; have HB := n0_; clear n0_; (try clear hb); (try clear hb2); (try clear hk); (try clear hi)) | ((with_reducible refine gate_callee (f := 19) rfl ?_); refine goesL_ (some 21) rfl rfl Try.func19 (by kernel_rfl) rfl #[.string a0] rfl (by (try simp only [List.map_toArray, List.map_cons, List.map_nil]); first | done | rfl | (simp only [List.length_drop, List.length_take]; rfl)) ?_; (with_reducible refine (field_Amount.calls a0 t132 t133 _ A5.out).mono ?_); rintro e w' ⟨rfl, ⟨nd, rfl⟩⟩; refine ⟨_, rfl, ?_⟩) | ((with_reducible refine gate_callee (f := 20) rfl ?_); refine goesL_ (some 26) rfl rfl Try.func20 (by kernel_rfl) rfl #[.string a0] rfl (by (try simp only [List.map_toArray, List.map_cons, List.map_nil]); first | done | rfl | (simp only [List.length_drop, List.length_take]; rfl)) ?_; (with_reducible refine (groatref04_Amount.calls k a0 t134 t135 _ A6.out).mono ?_); rintro e w' ⟨rfl, ⟨nd, rfl⟩⟩; refine ⟨_, rfl, ?_⟩) | ((with_reducible refine gate_callee (f := 21) rfl ?_); refine goesL_ (some 32) rfl rfl Try.func21 (by kernel_rfl) rfl #[.int .i64 a1, .int .i64 a2] rfl (by (try simp only [List.map_toArray, List.map_cons, List.map_nil]); first | done | rfl | (simp only [List.length_drop, List.length_take]; rfl)) ?_; (with_reducible refine (field_Digits.calls a1 a2 t136 t137 _ A7.out).mono ?_); rintro e w11 ⟨rfl, hb⟩; refine ⟨_, rfl, ?_⟩; have n0_ := Aside0.mk (below_step (by repeat (first | (with_reducible first | exact HB.out | apply below_alloc | apply pw_below_drewN | apply below_drew1) | exact HB.out)) hb); clear HB; have HB := n0_; clear n0_; (try clear hb); (try clear hb2); (try clear hk); (try clear hi)) | ((with_reducible refine gate_callee (f := 22) rfl ?_); refine goesL_ (some 38) rfl rfl Try.func22 (by kernel_rfl) rfl #[.int .i64 a1, .int .i64 a2] rfl (by (try simp only [List.map_toArray, List.map_cons, List.map_nil]); first | done | rfl | (simp only [List.length_drop, List.length_take]; rfl)) ?_; (with_reducible refine (groatref04_Digits.calls k a1 a2 t138 t139 _ A8.out).mono ?_); rintro e w12 ⟨rfl, hb⟩; refine ⟨_, rfl, ?_⟩; have n0_ := Aside0.mk (below_step (by repeat (first | (with_reducible first | exact HB.out | apply below_alloc | apply pw_below_drewN | apply below_drew1) | exact HB.out)) hb); clear HB; have HB := n0_; clear n0_; (try clear hb); (try clear hb2); (try clear hk); (try clear hi)))
 (try simp only [Act.put, List.setIfInBounds_toArray, List.set_cons_zero, List.set_cons_succ])
 go_cut [69] (fun v69 wc => ∃ (kq : Nat) (x69_8 : Bool), v69 = .bool x69_8 ∧ Aside0 (groatlaw04_FieldNumbers.j0 kq a1 a2 t136 t137 x69_8 = some r) ∧ Aside0 (kq ≤ k) ∧ Aside0 (Below w.heap.size w wc))
 case first =>
  have H := HC9.out
  clear HC9
  by_cases c13 : t131 = true
  ·subst c13
   have H1 : (if t132 = t134 then (if t133 = t135 then (if t136.toList = t138.toList then (if t137 = t139 then ((field_When.f a0).bind fun t140 => ((groatref04_When.f k a0).bind fun t141 => (groatlaw04_FieldNumbers.j0 k a1 a2 t136 t137 (t140 != t141)))) else (groatlaw04_FieldNumbers.j0 k a1 a2 t136 t137 true)) else (groatlaw04_FieldNumbers.j0 k a1 a2 t136 t137 true)) else (groatlaw04_FieldNumbers.j0 k a1 a2 t136 t137 true)) else (groatlaw04_FieldNumbers.j0 k a1 a2 t136 t137 true)) = some r := by rw [if_pos rfl] at H; exact H
   clear H
   have H := H1
   clear H1
   by_cases c14 : t132 = t134
   ·rw [if_pos c14] at H
    have c14b0 : (t132 == t134) = true := beq_iff_eq.mpr c14
    have c14b1 : (t132 != t134) = false := bne_eq_false_iff_eq.mpr c14
    clear c14
    (first | rw [c14b0] | (simp only [i64_w, i32_w]; rw [c14b0]) | skip)
    by_cases c15 : t133 = t135
    ·rw [if_pos c15] at H
     have c15b0 : (t133 == t135) = true := beq_iff_eq.mpr c15
     have c15b1 : (t133 != t135) = false := bne_eq_false_iff_eq.mpr c15
     clear c15
     by_cases c16 : t136.toList = t138.toList
     ·rw [if_pos c16] at H
      have c16b0 : (t136.toList == t138.toList) = true := beq_iff_eq.mpr c16
      have c16b1 : (t136.toList != t138.toList) = false := bne_eq_false_iff_eq.mpr c16
      clear c16
      by_cases c17 : t137 = t139
      ·rw [if_pos c17] at H
       have c17b0 : (t137 == t139) = true := beq_iff_eq.mpr c17
       have c17b1 : (t137 != t139) = false := bne_eq_false_iff_eq.mpr c17
       clear c17
       replace H := Option.bind_eq_some_iff.mp H
       obtain ⟨t140, A180, H⟩ := H
       replace H : ((groatref04_When.f k a0).bind fun t141 => (groatlaw04_FieldNumbers.j0 k a1 a2 t136 t137 (t140 != t141))) = some r := H
       have A18 := Aside0.mk A180
       clear A180
       replace H := Option.bind_eq_some_iff.mp H
       obtain ⟨t141, A190, H⟩ := H
       replace H : (groatlaw04_FieldNumbers.j0 k a1 a2 t136 t137 (t140 != t141)) = some r := H
       have A19 := Aside0.mk A190
       clear A190
       have H' := Aside0.mk H
       clear H
       go_wp2_with (first | (go_at_call 23; (with_reducible refine (field_When.calls a0 t140 _ A18.out).mono ?_); rintro e w20 ⟨rfl, hb⟩; have n0_ := Aside0.mk (below_step (by repeat (first | (with_reducible first | exact HB.out | apply below_alloc | apply pw_below_drewN | apply below_drew1) | exact HB.out)) hb); clear HB; have HB := n0_; clear n0_; (try clear hb); (try clear hb2); (try clear hk); (try clear hi)) | (go_at_call 24; (with_reducible refine (groatref04_When.calls k a0 t141 _ A19.out).mono ?_); rintro e w21 ⟨rfl, hb⟩; have n0_ := Aside0.mk (below_step (by repeat (first | (with_reducible first | exact HB.out | apply below_alloc | apply pw_below_drewN | apply below_drew1) | exact HB.out)) hb); clear HB; have HB := n0_; clear n0_; (try clear hb); (try clear hb2); (try clear hk); (try clear hi)))
       go_meet
       case rel => exact ⟨_, ((t140 != t141)), (by first | rfl | (simp; done) | (simp only [i64_w, i32_w] <;> rfl) | ((try simp); simp only [i64_w, i32_w]; done) | (simp [*]; done)), H', ⟨by first | omega | exact Nat.le_refl _⟩, ⟨by repeat (first | (with_reducible first | exact HB.out | apply below_alloc | apply pw_below_drewN | apply below_drew1) | exact HB.out)⟩⟩
      ·rw [if_neg c17] at H
       have c17b0 : (t137 == t139) = false := beq_eq_false_iff_ne.mpr c17
       have c17b1 : (t137 != t139) = true := bne_iff_ne.mpr c17
       have H' := Aside0.mk H
       clear H
       go_wp2
       go_meet
       case rel => exact ⟨_, (true), (by first | rfl | (simp; done) | (simp only [i64_w, i32_w] <;> rfl) | ((try simp); simp only [i64_w, i32_w]; done) | (simp [*]; done)), H', ⟨by first | omega | exact Nat.le_refl _⟩, ⟨by repeat (first | (with_reducible first | exact HB.out | apply below_alloc | apply pw_below_drewN | apply below_drew1) | exact HB.out)⟩⟩
     ·rw [if_neg c16] at H
      have c16b0 : (t136.toList == t138.toList) = false := beq_eq_false_iff_ne.mpr c16
      have c16b1 : (t136.toList != t138.toList) = true := bne_iff_ne.mpr c16
      have H' := Aside0.mk H
      clear H
      go_wp2
      go_meet
      case rel => exact ⟨_, (true), (by first | rfl | (simp; done) | (simp only [i64_w, i32_w] <;> rfl) | ((try simp); simp only [i64_w, i32_w]; done) | (simp [*]; done)), H', ⟨by first | omega | exact Nat.le_refl _⟩, ⟨by repeat (first | (with_reducible first | exact HB.out | apply below_alloc | apply pw_below_drewN | apply below_drew1) | exact HB.out)⟩⟩
    ·rw [if_neg c15] at H
     have c15b0 : (t133 == t135) = false := beq_eq_false_iff_ne.mpr c15
     have c15b1 : (t133 != t135) = true := bne_iff_ne.mpr c15
     have H' := Aside0.mk H
     clear H
     go_wp2
     go_meet
     case rel => exact ⟨_, (true), (by first | rfl | (simp; done) | (simp only [i64_w, i32_w] <;> rfl) | ((try simp); simp only [i64_w, i32_w]; done) | (simp [*]; done)), H', ⟨by first | omega | exact Nat.le_refl _⟩, ⟨by repeat (first | (with_reducible first | exact HB.out | apply below_alloc | apply pw_below_drewN | apply below_drew1) | exact HB.out)⟩⟩
   ·rw [if_neg c14] at H
    have c14b0 : (t132 == t134) = false := beq_eq_false_iff_ne.mpr c14
    have c14b1 : (t132 != t134) = true := bne_iff_ne.mpr c14
    (first | rw [c14b0] | (simp only [i64_w, i32_w]; rw [c14b0]) | skip)
    have H' := Aside0.mk H
    clear H
    go_wp2
    go_meet
    case rel => exact ⟨_, (true), (by first | rfl | (simp; done) | (simp only [i64_w, i32_w] <;> rfl) | ((try simp); simp only [i64_w, i32_w]; done) | (simp [*]; done)), H', ⟨by first | omega | exact Nat.le_refl _⟩, ⟨by repeat (first | (with_reducible first | exact HB.out | apply below_alloc | apply pw_below_drewN | apply below_drew1) | exact HB.out)⟩⟩
  ·replace c13 := Bool.eq_false_iff.mpr c13
   subst c13
   have H1 : (groatlaw04_FieldNumbers.j0 k a1 a2 t136 t137 true) = some r := by rw [if_neg (show ¬ (false = true) by decide)] at H; exact H
   clear H
   have H := H1
   clear H1
   have H' := Aside0.mk H
   clear H
   go_wp2
   go_meet
   case rel => exact ⟨_, (true), (by first | rfl | (simp; done) | (simp only [i64_w, i32_w] <;> rfl) | ((try simp); simp only [i64_w, i32_w]; done) | (simp [*]; done)), H', ⟨by first | omega | exact Nat.le_refl _⟩, ⟨by repeat (first | (with_reducible first | exact HB.out | apply below_alloc | apply pw_below_drewN | apply below_drew1) | exact HB.out)⟩⟩
 case rest =>
  clear HC9
  try clear c1
  try clear c2
  try clear p2
  try clear c7
  try clear c12
  try clear c13
  try clear c14
  try clear c14b0
  try clear c14b1
  try clear c15
  try clear c15b0
  try clear c15b1
  try clear c16
  try clear c16b0
  try clear c16b1
  try clear c17
  try clear c17b0
  try clear c17b1
  try clear c19
  try clear c20
  try clear c21
  obtain ⟨kq, x69_8, rfl, HA, HJ8, HB⟩ := hcut
  cases kq with
  | zero => exact absurd HA.out (by simp [groatlaw04_FieldNumbers.j0])
  | succ kj8 =>
   have H := HA.out
   clear HA
   simp only [groatlaw04_FieldNumbers.j0] at H
   by_cases c22 : x69_8 = true
   ·subst c22
    have H1 : (some false) = some r := by rw [if_pos rfl] at H; exact H
    clear H
    have H := H1
    clear H1
    obtain rfl := Option.some.inj H
    go_wp2
    go_ret
    exact ⟨by first | rfl | (simp [errW_none, errW_some] <;> rfl) | (simp [*, errW_none, errW_some] <;> rfl), by repeat (first | (with_reducible first | exact HB.out | apply below_alloc | apply pw_below_drewN | apply below_drew1) | exact HB.out)⟩
   ·replace c22 := Bool.eq_false_iff.mpr c22
    subst c22
    have H1 : (if t137 = 0 then ((field_Amount.f t136).bind fun bt142 => (if bt142.2 = 0 then (if bt142.1 = a1 then (some ((t136.size : Int) == a2)) else (some false)) else (some false))) else (some true)) = some r := by rw [if_neg (show ¬ (false = true) by decide)] at H; exact H
    clear H
    have H := H1
    clear H1
    by_cases c23 : t137 = 0
    ·rw [if_pos c23] at H
     have c23b0 : (t137 == 0) = true := beq_iff_eq.mpr c23
     have c23b1 : (t137 != 0) = false := bne_eq_false_iff_eq.mpr c23
     clear c23
     replace H := Option.bind_eq_some_iff.mp H
     obtain ⟨⟨t142, t143⟩, A240, H⟩ := H
     replace H : (if t143 = 0 then (if t142 = a1 then (some ((t136.size : Int) == a2)) else (some false)) else (some false)) = some r := H
     have A24 := Aside0.mk A240
     clear A240
     by_cases c25 : t143 = 0
     ·rw [if_pos c25] at H
      have c25b0 : (t143 == 0) = true := beq_iff_eq.mpr c25
      have c25b1 : (t143 != 0) = false := bne_eq_false_iff_eq.mpr c25
      clear c25
      by_cases c26 : t142 = a1
      ·rw [if_pos c26] at H
       have c26b0 : (t142 == a1) = true := beq_iff_eq.mpr c26
       have c26b1 : (t142 != a1) = false := bne_eq_false_iff_eq.mpr c26
       clear c26
       obtain rfl := Option.some.inj H
       go_wp2_with (first | ((with_reducible refine gate_callee (f := 19) rfl ?_); refine goesL_ (some 74) rfl rfl Try.func19 (by kernel_rfl) rfl #[.string t136] rfl (by (try simp only [List.map_toArray, List.map_cons, List.map_nil]); first | done | rfl | (simp only [List.length_drop, List.length_take]; rfl)) ?_; (with_reducible refine (field_Amount.calls t136 t142 t143 _ A24.out).mono ?_); rintro e w' ⟨rfl, ⟨nd, rfl⟩⟩; refine ⟨_, rfl, ?_⟩))
       go_ret
       exact ⟨by first | rfl | (simp [errW_none, errW_some] <;> rfl) | (simp [*, errW_none, errW_some] <;> rfl), by repeat (first | (with_reducible first | exact HB.out | apply below_alloc | apply pw_below_drewN | apply below_drew1) | exact HB.out)⟩
      ·rw [if_neg c26] at H
       have c26b0 : (t142 == a1) = false := beq_eq_false_iff_ne.mpr c26
       have c26b1 : (t142 != a1) = true := bne_iff_ne.mpr c26
       obtain rfl := Option.some.inj H
       go_wp2_with (first | ((with_reducible refine gate_callee (f := 19) rfl ?_); refine goesL_ (some 74) rfl rfl Try.func19 (by kernel_rfl) rfl #[.string t136] rfl (by (try simp only [List.map_toArray, List.map_cons, List.map_nil]); first | done | rfl | (simp only [List.length_drop, List.length_take]; rfl)) ?_; (with_reducible refine (field_Amount.calls t136 t142 t143 _ A24.out).mono ?_); rintro e w' ⟨rfl, ⟨nd, rfl⟩⟩; refine ⟨_, rfl, ?_⟩))
       go_ret
       exact ⟨by first | rfl | (simp [errW_none, errW_some] <;> rfl) | (simp [*, errW_none, errW_some] <;> rfl), by repeat (first | (with_reducible first | exact HB.out | apply below_alloc | apply pw_below_drewN | apply below_drew1) | exact HB.out)⟩
     ·rw [if_neg c25] at H
      have c25b0 : (t143 == 0) = false := beq_eq_false_iff_ne.mpr c25
      have c25b1 : (t143 != 0) = true := bne_iff_ne.mpr c25
      obtain rfl := Option.some.inj H
      go_wp2_with (first | ((with_reducible refine gate_callee (f := 19) rfl ?_); refine goesL_ (some 74) rfl rfl Try.func19 (by kernel_rfl) rfl #[.string t136] rfl (by (try simp only [List.map_toArray, List.map_cons, List.map_nil]); first | done | rfl | (simp only [List.length_drop, List.length_take]; rfl)) ?_; (with_reducible refine (field_Amount.calls t136 t142 t143 _ A24.out).mono ?_); rintro e w' ⟨rfl, ⟨nd, rfl⟩⟩; refine ⟨_, rfl, ?_⟩))
      go_ret
      exact ⟨by first | rfl | (simp [errW_none, errW_some] <;> rfl) | (simp [*, errW_none, errW_some] <;> rfl), by repeat (first | (with_reducible first | exact HB.out | apply below_alloc | apply pw_below_drewN | apply below_drew1) | exact HB.out)⟩
    ·rw [if_neg c23] at H
     have c23b0 : (t137 == 0) = false := beq_eq_false_iff_ne.mpr c23
     have c23b1 : (t137 != 0) = true := bne_iff_ne.mpr c23
     obtain rfl := Option.some.inj H
     go_wp2
     go_ret
     exact ⟨by first | rfl | (simp [errW_none, errW_some] <;> rfl) | (simp [*, errW_none, errW_some] <;> rfl), by repeat (first | (with_reducible first | exact HB.out | apply below_alloc | apply pw_below_drewN | apply below_drew1) | exact HB.out)⟩

/-- THE ONE PURE STATEMENT of groatlaw04_FieldNumbers: yours. -/
def groatlaw04_FieldNumbers.Pure : Prop := ∀ (a0 : ByteArray) (a1 : Int) (a2 : Int), a0.size ≤ 140737488351232 → (Lit.int .i64 a1).wf = true → (Lit.int .i64 a2).wf = true → ∃ k, groatlaw04_FieldNumbers.f k a0 a1 a2 = some true
theorem groatlaw04_FieldNumbers.walk (P : groatlaw04_FieldNumbers.Pure) (a0 : ByteArray) (a1 : Int) (a2 : Int) (w : World) (w0 : a0.size ≤ 140737488351232) (w1 : (Lit.int .i64 a1).wf = true) (w2 : (Lit.int .i64 a2).wf = true) :
  Calls Try.prog 7 #[.string a0, .int .i64 a1, .int .i64 a2] w fun e w' => e = .returned (.bool true) ∧ Below w.heap.size w w' := by
 obtain ⟨k, h⟩ := P a0 a1 a2 w0 w1 w2
 refine (groatlaw04_FieldNumbers.calls k a0 a1 a2 true w h).mono ?_
 rintro e w' ⟨rfl, hd⟩
 exact ⟨rfl, hd⟩

end Go.Proofs.Ytcgfbdleapjigaa.PFieldNumbers
