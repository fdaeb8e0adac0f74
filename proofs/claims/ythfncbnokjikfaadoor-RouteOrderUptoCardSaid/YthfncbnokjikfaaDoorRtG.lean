/- Layer 11's statements: the head of each. Conditions: as each theorem says. -/
import Derived.Test.YthfncbnokjikfaaDoorRtF
namespace Go.Proofs.YthfncbnokjikfaaDoor.routew
open Go.RowKit
open Go.Proofs.YthfncbnokjikfaaDoor.routep
open Go.Proofs.YthfncbnokjikfaaDoor.mapfn
open Go.Proofs.YthfncbnokjikfaaDoor.buf
theorem ints_lit {W : World} {H : Nat} {zs : List Int} {t : TypeId} {fr : Nat × Nat} (h : W.heap[H]? = some (.cells (zs.map (Value.int .i64)).toArray t fr)) (hz : zs.length ≤ maxLen) : IntsAt W (.slice (some ⟨H, 0, none⟩) zs.length zs.length) zs :=
  ⟨hz, .inr ⟨H, 0, zs.length, rfl, (Array.getElem?_eq_some_iff.1 h).1, Nat.le_refl _, fun i hi => by rw [cells_at h]; simp [hi]⟩⟩
/-- What a step of a table leaves. -/
structure Stp (b : Nat) (w w' : World) : Prop where
  turn : Turn [b] w w'
  old : ∀ o, w.cell? ⟨b, o, none⟩ = none
theorem Stp.ints {b : Nat} {w w' : World} (h : Stp b w w') {v : Value} {zs : List Int} (hi : IntsAt w v zs) : IntsAt w' v zs := hi.turned h.turn h.old
theorem Stp.cell {b : Nat} {w w' : World} (h : Stp b w w') {x i : Nat} {u : Value} (hc : w.cell? ⟨x, i, none⟩ = some u) : w'.cell? ⟨x, i, none⟩ = some u := h.turn.cellKept h.old hc
theorem Stp.base {b : Nat} {w0 w w' : World} (h : Stp b w w') (hb : Below w0.heap.size w0 w) (hn : w0.heap.size ≤ b) : Below w0.heap.size w0 w' := Below.turn hb hb.size h.turn hn
def rs0 (W : Nat) : List RtV := [⟨⟨#[52]⟩, [1], .slice (some ⟨W, 0, none⟩) 1 1⟩, ⟨⟨#[52, 53]⟩, [2, 1], .slice (some ⟨W + 1, 0, none⟩) 2 2⟩]
def tab0 : Tab := [([52], [1]), ([52, 53], [2, 1])]
def tab1 : Tab := [([52], [1])]
theorem new0 : newR 3 [] tab0 = (tab0, 0) := by decide +kernel
theorem find0 : find tab0 [52, 53, 49, 50] = some [2, 1] ∧ find tab0 [52, 54, 49, 50] = some [1] ∧ find tab0 [53] = none ∧ addE 3 tab0 [52, 53] [0] = 111 ∧ addE 3 tab0 [53] [3] = 112 ∧ (routep.get tab0 [52, 53]).isSome = true ∧ drop tab0 [52, 53] = tab1 ∧ (routep.get tab1 [52, 53]).isSome = false := by decide +kernel
theorem rows0 : Rows tab0 := by
  intro p hp
  simp [tab0] at hp
  rcases hp with rfl | rfl <;> simp
set_option maxRecDepth 100000 in
set_option maxHeartbeats 2000000 in
theorem shown_any (w : World) : Calls Tryd.prog 7 #[] w fun e w' => e = .returned (.bool true) ∧ Below w.heap.size w w' := by
  obtain ⟨W0, e0⟩ : ∃ W, ((w.alloc (.cells #[.int .i64 1] 3)).alloc (.cells #[.int .i64 2, .int .i64 1] 3)).alloc (.cells #[.string ⟨#[52]⟩, .slice (some ⟨w.heap.size, 0, none⟩) 1 1, .string ⟨#[52, 53]⟩, .slice (some ⟨w.heap.size + 1, 0, none⟩) 2 2] 25) = W := ⟨_, rfl⟩
  have b0 : Below w.heap.size w W0 := by rw [← e0]; exact (((Below.refl _ _).alloc (Nat.le_refl _) _).alloc (by simp) _).alloc (by simp; omega) _
  have k0 : W0.heap[w.heap.size]? = some (.cells ([1].map (Value.int .i64)).toArray 3 (0, 0)) := by
    rw [← e0, Below.heap_alloc _ _ _ (by simp; omega), Below.heap_alloc _ _ _ (by simp)]
    exact heap_alloc_last _ _
  have k1 : W0.heap[w.heap.size + 1]? = some (.cells ([2, 1].map (Value.int .i64)).toArray 3 (0, 0)) := by
    rw [← e0, Below.heap_alloc _ _ _ (by simp)]
    have := heap_alloc_last (w.alloc (.cells #[.int .i64 1] 3)) (.cells #[.int .i64 2, .int .i64 1] 3)
    simpa using this
  have k2 : W0.heap[w.heap.size + 1 + 1]? = some (.cells #[.string ⟨#[52]⟩, .slice (some ⟨w.heap.size, 0, none⟩) 1 1, .string ⟨#[52, 53]⟩, .slice (some ⟨w.heap.size + 1, 0, none⟩) 2 2] 25 (0, 0)) := by
    rw [← e0]
    have := heap_alloc_last ((w.alloc (.cells #[.int .i64 1] 3)).alloc (.cells #[.int .i64 2, .int .i64 1] 3)) (.cells #[.string ⟨#[52]⟩, .slice (some ⟨w.heap.size, 0, none⟩) 1 1, .string ⟨#[52, 53]⟩, .slice (some ⟨w.heap.size + 1, 0, none⟩) 2 2] 25)
    simpa using this
  have hin : RoutesIn W0 (some ⟨w.heap.size + 1 + 1, 0, none⟩) (rs0 w.heap.size) := by
    intro i hi
    have hi2 : i < 2 := hi
    refine ⟨_, _, rfl, (Array.getElem?_eq_some_iff.1 k2).1, ?_⟩
    match i, hi2 with
    | 0, _ => exact ⟨⟨show 1 ≤ maxLen by decide, show 1 ≤ 1048576 by decide, ints_lit (zs := [1]) k0 (by decide)⟩, cells_at k2 0, cells_at k2 1⟩
    | 1, _ => exact ⟨⟨show 2 ≤ maxLen by decide, show 2 ≤ 1048576 by decide, ints_lit (zs := [2, 1]) k1 (by decide)⟩, cells_at k2 2, cells_at k2 3⟩
  have HNEW := Lib.hid (new_in hin (show 2 ≤ 1048576 by decide) 2 (mem := 3) (by omega))
  have E0 := Lib.hid e0
  have B0 := Lib.hid b0
  clear e0 b0 k0 k1 k2 hin
  go_enter Tryd.func7, Tryd.ntmps7
  go_wp2_with fail
  rw [E0.out]
  refine HNEW.out.mono ?_
  rintro e w1 ⟨b1, ⟨h1, _⟩ | ⟨_, g, b, rfl, hT1, hg, hb⟩⟩
  · exact absurd (by rw [show tabOf (rs0 w.heap.size) = tab0 from rfl, new0]) h1
  have hT1' : TabAt w1 g b 3 tab0 := hT1
  have hbw1 := B0.out.trans (b1.mono B0.out.size)
  have hgb : w.heap.size ≤ b := by have := B0.out.size; omega
  have HGB := Lib.hid hgb
  have F1 := Lib.hid (find_any hT1' rows0 ⟨#[52, 53, 49, 50]⟩ (by decide))
  have T1 := Lib.hid hT1'
  have B1 := Lib.hid hbw1
  clear b1 hT1 hT1' hbw1 hgb hg hb HNEW E0 B0
  go_wp2_with fail
  refine F1.out.mono ?_
  rintro e w2 (⟨h, _⟩ | ⟨to, va, h, rfl, f2⟩)
  · exact absurd (h.symm.trans find0.1) (by simp)
  obtain rfl : to = [2, 1] := by have := h.symm.trans find0.1; simpa using this
  have T2 := Lib.hid (T1.out.below f2.1)
  have B2 := Lib.hid (B1.out.trans (f2.1.mono B1.out.size))
  have IA2 := Lib.hid f2.ints
  have F2 := Lib.hid (find_any T2.out rows0 ⟨#[52, 54, 49, 50]⟩ (by decide))
  clear h f2 T1 B1 F1
  go_wp2_with fail
  refine F2.out.mono ?_
  rintro e w3 (⟨h, _⟩ | ⟨to, vb, h, rfl, f3⟩)
  · exact absurd (h.symm.trans find0.2.1) (by simp)
  obtain rfl : to = [1] := by have := h.symm.trans find0.2.1; simpa using this
  have T3 := Lib.hid (T2.out.below f3.1)
  have B3 := Lib.hid (B2.out.trans (f3.1.mono B2.out.size))
  have IA3 := Lib.hid (IA2.out.below f3.1)
  have IB3 := Lib.hid f3.ints
  have F3 := Lib.hid (find_any T3.out rows0 ⟨#[53]⟩ (by decide))
  clear h f3 T2 B2 F2 IA2
  go_wp2_with fail
  refine F3.out.mono ?_
  rintro e w4 (⟨h, rfl, b4⟩ | ⟨to, v, h, _, _⟩)
  rotate_left
  · exact absurd (h.symm.trans find0.2.2.1) (by simp)
  have b4' : Below w3.heap.size w3 (w4.alloc (.cells #[.int .i64 0] 3)) := b4.trans ((Below.refl _ _).alloc (b4.size) _)
  have T4 := Lib.hid (T3.out.below b4')
  have B4 := Lib.hid (B3.out.trans (b4'.mono B3.out.size))
  have IA4 := Lib.hid (IA3.out.below b4')
  have IB4 := Lib.hid (IB3.out.below b4')
  have I4 := Lib.hid (ints_lit (W := w4.alloc (.cells #[.int .i64 0] 3)) (H := w4.heap.size) (zs := [0]) (heap_alloc_last _ _) (by decide))
  have F4 := Lib.hid (add_any T4.out (by decide) ⟨#[52, 53]⟩ (by decide) I4.out (by decide))
  clear h b4 b4' T3 B3 F3 IA3 IB3
  go_wp2_with fail
  refine F4.out.mono ?_
  rintro e w5 ⟨rfl, T5, t5⟩
  have s5 : Stp b _ w5 := ⟨t5, T4.out.nocell⟩
  rw [show addT 3 tab0 (ByteArray.mk #[52, 53]).data.toList [0] = tab0 by unfold addT; rw [if_neg (by rw [show addE 3 tab0 (ByteArray.mk #[52, 53]).data.toList [0] = 111 from find0.2.2.2.1]; decide)]] at T5
  rw [show addE 3 tab0 (ByteArray.mk #[52, 53]).data.toList [0] = 111 from find0.2.2.2.1]
  have b5 : Below w5.heap.size w5 (w5.alloc (.cells #[.int .i64 3] 3)) := (Below.refl _ _).alloc (Nat.le_refl _) _
  have T6 := Lib.hid (T5.below b5)
  have B6 := Lib.hid ((s5.base B4.out HGB.out).trans (b5.mono (s5.base B4.out HGB.out).size))
  have IA6 := Lib.hid ((s5.ints IA4.out).below b5)
  have IB6 := Lib.hid ((s5.ints IB4.out).below b5)
  have I6 := Lib.hid (ints_lit (W := w5.alloc (.cells #[.int .i64 3] 3)) (H := w5.heap.size) (zs := [3]) (heap_alloc_last _ _) (by decide))
  have F6 := Lib.hid (add_any T6.out (by decide) ⟨#[53]⟩ (by decide) I6.out (by decide))
  clear s5 t5 T5 b5 T4 B4 IA4 IB4 I4 F4
  go_wp2_with fail
  refine F6.out.mono ?_
  rintro e w7 ⟨rfl, T7, t7⟩
  have s7 : Stp b _ w7 := ⟨t7, T6.out.nocell⟩
  rw [show addT 3 tab0 (ByteArray.mk #[53]).data.toList [3] = tab0 by unfold addT; rw [if_neg (by rw [show addE 3 tab0 (ByteArray.mk #[53]).data.toList [3] = 112 from find0.2.2.2.2.1]; decide)]] at T7
  rw [show addE 3 tab0 (ByteArray.mk #[53]).data.toList [3] = 112 from find0.2.2.2.2.1]
  have B7 := Lib.hid (s7.base B6.out HGB.out)
  have IA7 := Lib.hid (s7.ints IA6.out)
  have IB7 := Lib.hid (s7.ints IB6.out)
  have F7 := Lib.hid (drop_any T7 (by decide) ⟨#[52, 53]⟩ (by decide))
  have TT7 := Lib.hid T7
  clear s7 t7 T7 T6 B6 IA6 IB6 I6 F6
  go_wp2_with fail
  refine F7.out.mono ?_
  rintro e w8 ⟨rfl, T8, t8⟩
  have s8 : Stp b _ w8 := ⟨t8, TT7.out.nocell⟩
  rw [show drop tab0 (ByteArray.mk #[52, 53]).data.toList = tab1 from find0.2.2.2.2.2.2.1] at T8
  rw [show (routep.get tab0 (ByteArray.mk #[52, 53]).data.toList).isSome = true from find0.2.2.2.2.2.1, if_pos rfl]
  have B8 := Lib.hid (s8.base B7.out HGB.out)
  have IA8 := Lib.hid (s8.ints IA7.out)
  have IB8 := Lib.hid (s8.ints IB7.out)
  have F8 := Lib.hid (drop_any T8 (by decide) ⟨#[52, 53]⟩ (by decide))
  have TT8 := Lib.hid T8
  clear s8 t8 T8 TT7 B7 IA7 IB7 F7
  go_wp2_with fail
  refine F8.out.mono ?_
  rintro e w9 ⟨rfl, T9, t9⟩
  have s9 : Stp b _ w9 := ⟨t9, TT8.out.nocell⟩
  rw [show (routep.get tab1 (ByteArray.mk #[52, 53]).data.toList).isSome = false from find0.2.2.2.2.2.2.2, if_neg (by decide)]
  have B9 := Lib.hid (s9.base B8.out HGB.out)
  have ia := s9.ints IA8.out
  have ib := s9.ints IB8.out
  obtain ⟨pa, ca, rfl⟩ := ia.shape
  obtain ⟨pb, cb, rfl⟩ := ib.shape
  obtain ⟨ba, oa, rfl, a0⟩ := ia.get 0 (by decide)
  obtain ⟨ba', oa', ea, a1⟩ := ia.get 1 (by decide)
  obtain ⟨rfl, rfl⟩ : ba = ba' ∧ oa = oa' := by simpa using ea
  obtain ⟨bb, ob, rfl, c0⟩ := ib.get 0 (by decide)
  have a0' : w9.cell? ⟨ba, oa, none⟩ = some (.int .i64 2) := a0
  have a1' : w9.cell? ⟨ba, oa + 1, none⟩ = some (.int .i64 1) := a1
  have c0' : w9.cell? ⟨bb, ob, none⟩ = some (.int .i64 1) := c0
  clear s9 t9 T9 TT8 B8 IA8 IB8 F8 ia ib ea a0 a1 c0
  go_wp2_with fail
  go_ret
  exact ⟨rfl, B9.out⟩
end Go.Proofs.YthfncbnokjikfaaDoor.routew
