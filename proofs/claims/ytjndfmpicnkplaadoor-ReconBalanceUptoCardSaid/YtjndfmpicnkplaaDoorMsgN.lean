/- Layer 5: told: an error's number; Check of any message. Conditions: as each theorem says. -/
import Derived.Test.YtjndfmpicnkplaaDoorMsgM
namespace Go.Proofs.YtjndfmpicnkplaaDoor.msgw
open Go.RowKit
open Go.Proofs.YtjndfmpicnkplaaDoor.msgp
open Go.Proofs.YtjndfmpicnkplaaDoor.buf
theorem as_after (n : Int) (t : Nat) (w : World) (old : Value) (h : w.cell? ⟨t, 0, none⟩ = some old) : (((((w.alloc (.cells #[.pointer (some ⟨t, 0, none⟩)] 100)).alloc (.cells #[.pointer (some ⟨5, 100, none⟩), .pointer (some ⟨w.heap.size, 0, none⟩), .int .u64 150] 130)).alloc (.cells #[.pointer (some ⟨5, 100, none⟩), .pointer (some ⟨w.heap.size, 0, none⟩), .int .u64 150] 130)).alloc (.cells #[.int .i64 n] 97)).setCell ⟨t, 0, none⟩ (.int .i64 n)).cell? ⟨t, 0, none⟩ = some (.int .i64 n) ∧ Turn [t] w (((((w.alloc (.cells #[.pointer (some ⟨t, 0, none⟩)] 100)).alloc (.cells #[.pointer (some ⟨5, 100, none⟩), .pointer (some ⟨w.heap.size, 0, none⟩), .int .u64 150] 130)).alloc (.cells #[.pointer (some ⟨5, 100, none⟩), .pointer (some ⟨w.heap.size, 0, none⟩), .int .u64 150] 130)).alloc (.cells #[.int .i64 n] 97)).setCell ⟨t, 0, none⟩ (.int .i64 n)) := by
  have ht : Turn [t] w ((((w.alloc (.cells #[.pointer (some ⟨t, 0, none⟩)] 100)).alloc (.cells #[.pointer (some ⟨5, 100, none⟩), .pointer (some ⟨w.heap.size, 0, none⟩), .int .u64 150] 130)).alloc (.cells #[.pointer (some ⟨5, 100, none⟩), .pointer (some ⟨w.heap.size, 0, none⟩), .int .u64 150] 130)).alloc (.cells #[.int .i64 n] 97)) := ((((Turn.refl [t] w).alloc _).alloc _).alloc _).alloc _
  have b : Below w.heap.size w ((((w.alloc (.cells #[.pointer (some ⟨t, 0, none⟩)] 100)).alloc (.cells #[.pointer (some ⟨5, 100, none⟩), .pointer (some ⟨w.heap.size, 0, none⟩), .int .u64 150] 130)).alloc (.cells #[.pointer (some ⟨5, 100, none⟩), .pointer (some ⟨w.heap.size, 0, none⟩), .int .u64 150] 130)).alloc (.cells #[.int .i64 n] 97)) := ((((Below.refl _ _).alloc (Nat.le_refl _) _).alloc (by simp) _).alloc (by simp; omega) _).alloc (by simp; omega) _
  exact ⟨World.cell?_setCell_same _ _ _ (b.keptCell h), ht.set (.inl (by simp)) _ _⟩
theorem as_wrong2 (n : Int) (t : Nat) (old : Value) (w : World) (hg : ErrT w) (ht0 : w.cell? ⟨t, 0, none⟩ = some old) (hf0 : w.frozen? ⟨t, 0, none⟩ = false) :
    Calls Tryd.prog 44 #[.iface 97 (.int .i64 n), .iface 100 (.pointer (some ⟨t, 0, none⟩))] w fun e w' => e = .returned (.bool true) ∧ w'.cell? ⟨t, 0, none⟩ = some (.int .i64 n) ∧ Turn [t] w w' :=
  (as_wrong n t old w hg ht0 hf0).mono fun e w' h => by
    obtain ⟨rfl, rfl⟩ := h
    exact ⟨rfl, as_after n t w old ht0⟩
theorem as_field2 (b : Nat) (n : Int) (t : Nat) (old : Value) (w : World) (h1 : w.cell? ⟨b, 1, none⟩ = some (.iface 97 (.int .i64 n))) (hg : ErrT w) (ht0 : w.cell? ⟨t, 0, none⟩ = some old) (hf0 : w.frozen? ⟨t, 0, none⟩ = false) :
    Calls Tryd.prog 44 #[.iface 104 (.pointer (some ⟨b, 0, none⟩)), .iface 100 (.pointer (some ⟨t, 0, none⟩))] w fun e w' => e = .returned (.bool true) ∧ w'.cell? ⟨t, 0, none⟩ = some (.int .i64 n) ∧ Turn [t] w w' :=
  (as_field b n t old w h1 hg ht0 hf0).mono fun e w' h => by
    obtain ⟨rfl, rfl⟩ := h
    exact ⟨rfl, as_after n t w old ht0⟩
/-- The number of what is wrong. -/
def erN : Er → Int
  | .plain n => n
  | .field _ n => n
theorem told_any {w : World} (hg : ErrT w) {v : Value} {er : Er} (h : ErrAt w v (some er)) : Calls Tryd.prog 28 #[v] w fun e w' => e = .returned (.int .i64 (erN er)) ∧ Below w.heap.size w w' := by
  have b0 : Below w.heap.size w (w.alloc (.cells #[.int .i64 0] 97)) := (Below.refl _ _).alloc (Nat.le_refl _) _
  have HG := Lib.hid (hg.below b0)
  have k0 := heap_alloc_last w (.cells #[.int .i64 0] 97)
  have HK := Lib.hid (show (w.alloc (.cells #[.int .i64 0] 97)).cell? ⟨w.heap.size, 0, none⟩ = some (.int .i64 0) from cells_at k0 0)
  have HZ := Lib.hid (frozen_at k0 0)
  have HB := Lib.hid b0
  clear k0 hg
  cases er with
  | plain n =>
    obtain rfl : v = .iface 97 (.int .i64 n) := h
    clear b0
    show Calls _ _ _ _ fun e w' => e = .returned (.int .i64 n) ∧ _
    have HI := Lib.hid (is_wrong n (w.alloc (.cells #[.int .i64 0] 97)))
    have HA := Lib.hid (as_wrong2 n w.heap.size _ _ HG.out HK.out HZ.out)
    by_cases h43 : n = 43
    · subst h43
      go_enter Tryd.func28, Tryd.ntmps28
      go_wp2_with fail
      refine HI.out.mono ?_
      rintro e w1 ⟨rfl, rfl⟩
      go_wp2_with fail
      go_ret
      exact ⟨rfl, HB.out⟩
    · have hd : decide (n = 43) = false := decide_eq_false h43
      go_enter Tryd.func28, Tryd.ntmps28
      go_wp2_with fail
      refine HI.out.mono ?_
      rintro e w1 ⟨rfl, rfl⟩
      go_wp2_with fail
      refine HA.out.mono ?_
      rintro e w1 ⟨rfl, hc, ht⟩
      have HB2 := Lib.hid (HB.out.trans (ht.below (HB.out.size) (fun k hk => by obtain rfl := List.mem_singleton.1 hk; exact Nat.le_refl _)))
      clear ht HA HI
      go_wp2_with fail
      go_ret
      exact ⟨rfl, HB2.out⟩
  | field no n =>
    obtain ⟨b, rfl, hb⟩ := h
    have h1 := b0.keptCell (cells_at hb 1)
    have H1 := Lib.hid (show (w.alloc (.cells #[.int .i64 0] 97)).cell? ⟨b, 1, none⟩ = some (.iface 97 (.int .i64 n)) from h1)
    clear b0 h1 hb
    show Calls _ _ _ _ fun e w' => e = .returned (.int .i64 n) ∧ _
    have HI := Lib.hid (is_field b n _ H1.out)
    have HA := Lib.hid (as_field2 b n w.heap.size _ _ H1.out HG.out HK.out HZ.out)
    by_cases h43 : n = 43
    · subst h43
      go_enter Tryd.func28, Tryd.ntmps28
      go_wp2_with fail
      refine HI.out.mono ?_
      rintro e w1 ⟨rfl, rfl⟩
      go_wp2_with fail
      go_ret
      exact ⟨rfl, HB.out⟩
    · have hd : decide (n = 43) = false := decide_eq_false h43
      go_enter Tryd.func28, Tryd.ntmps28
      go_wp2_with fail
      refine HI.out.mono ?_
      rintro e w1 ⟨rfl, rfl⟩
      go_wp2_with fail
      refine HA.out.mono ?_
      rintro e w1 ⟨rfl, hc, ht⟩
      have HB2 := Lib.hid (HB.out.trans (ht.below (HB.out.size) (fun k hk => by obtain rfl := List.mem_singleton.1 hk; exact Nat.le_refl _)))
      clear ht HA HI
      go_wp2_with fail
      go_ret
      exact ⟨rfl, HB2.out⟩
end Go.Proofs.YtjndfmpicnkplaaDoor.msgw
