/- Layer 5: which dialect; Form. Conditions: as each theorem says. -/
import Derived.Test.YtjndfmpicnkplaaDoorMsgI
namespace Go.Proofs.YtjndfmpicnkplaaDoor.msgw
open Go.RowKit
open Go.Proofs.YtjndfmpicnkplaaDoor.msgp
open Go.Proofs.YtjndfmpicnkplaaDoor.buf
theorem info75s : (Tryd.prog.info? 75).map (·.size) = some 3 := by kernel_rfl
/-- A store of a whole row. -/
theorem store_all {w : World} {g : Nat} {cur : Array Value} {ty t : TypeId} {n : Nat} (h : w.heap[g]? = some (.cells cur t (0, 0))) (hi : (Tryd.prog.info? ty).map (·.size) = some n) (hc : cur.size = n) (cs : Array Value) (hs : cs.size = n) (ho : cs.toList.all Value.oneCell' = true) :
    (storeVar ty ⟨g, 0, none⟩ (.agg cs)).run Tryd.prog w = .ok () (w.setRow g cs) := by
  have := run_storeVar_mid' (P := Tryd.prog) (ty := ty) (g := g) (o' := 0) (n := n) (cs := cs) h hi hs (by omega) (by rw [← Array.all_toList]; exact ho)
  rw [List.drop_of_length_le (by rw [Array.length_toList, hc]; omega)] at this
  rw [this]
  simp
set_option maxRecDepth 100000 in
theorem which_some {w : World} (hT : Tabs w) (k : Nat) (h1 : 1 ≤ k) (h2 : k < dialectsL.length) :
    Calls Tryd.prog 30 #[.int .i64 k] w fun e w' => e = .returned (.tuple #[.agg #[.int .i64 dialectsL[k].1, .int .u8 dialectsL[k].2.1, .int .i64 dialectsL[k].2.2], .bool true]) ∧ Below w.heap.size w w' := by
  obtain ⟨q0, q1, q2⟩ := hT.dialects k h2
  obtain ⟨x, ex⟩ : ∃ x, dialectsL[k] = x := ⟨_, rfl⟩
  rw [ex] at q0 q1 q2 ⊢
  have h4 : k < 4 := h2
  have n1 : ¬ (k : Int) < 1 := by omega
  have n2 : ¬ (4 : Int) ≤ k := by omega
  obtain ⟨a, b, c⟩ := x
  obtain ⟨w0, e0⟩ : ∃ W, w.alloc (.cells #[.int .i64 0, .int .u8 0, .int .i64 0] 75) = W := ⟨_, rfl⟩
  have b0 : Below w.heap.size w w0 := by rw [← e0]; exact (Below.refl _ _).alloc (Nat.le_refl _) _
  have k0 : w0.heap[w.heap.size]? = some (.cells #[.int .i64 0, .int .u8 0, .int .i64 0] 75 (0, 0)) := by rw [← e0]; exact heap_alloc_last _ _
  replace q0 := b0.keptCell q0
  replace q1 := b0.keptCell q1
  replace q2 := b0.keptCell q2
  have hst := store_all (ty := 75) k0 info75s rfl #[.int .i64 a, .int .u8 b, .int .i64 c] rfl rfl
  subst e0
  have HB := Lib.hid b0
  have K0 := Lib.hid k0
  clear h2 hT ex b0 k0
  go_enter Tryd.func30, Tryd.ntmps30
  go_wp2_with (refine wpList_store_at rfl 75 (.tmp 2) (.tmp 13) rfl ⟨w.heap.size, 0, none⟩ rfl _ rfl hst ?_)
  refine bodyPost_ret (Go.Proofs.YtjndfmpicnkplaaDoorW.PrintWords.results_ct rfl _ _ w.heap.size _ #[.int .i64 a, .int .u8 b, .int .i64 c] (0, 0) _ rfl (setRow_block K0.out) Tryd.underlying75 rfl info75s) rfl ?_
  exact ⟨rfl, HB.out.os, HB.out.tape, HB.out.output, by simp, fun q hq => (setRow_other _ _ q _ (by omega)).trans (HB.out.block q hq)⟩
set_option maxRecDepth 100000 in
theorem which_none {w : World} (n : Int) (h : n < 1 ∨ 4 ≤ n) :
    Calls Tryd.prog 30 #[.int .i64 n] w fun e w' => e = .returned (.tuple #[.agg #[.int .i64 0, .int .u8 0, .int .i64 0], .bool false]) ∧ Below w.heap.size w w' := by
  obtain ⟨w0, e0⟩ : ∃ W, w.alloc (.cells #[.int .i64 0, .int .u8 0, .int .i64 0] 75) = W := ⟨_, rfl⟩
  have b0 : Below w.heap.size w w0 := by rw [← e0]; exact (Below.refl _ _).alloc (Nat.le_refl _) _
  have k0 : w0.heap[w.heap.size]? = some (.cells #[.int .i64 0, .int .u8 0, .int .i64 0] 75 (0, 0)) := by rw [← e0]; exact heap_alloc_last _ _
  have hst := store_all (ty := 75) k0 info75s rfl #[.int .i64 0, .int .u8 0, .int .i64 0] rfl rfl
  subst e0
  have HB := Lib.hid b0
  have K0 := Lib.hid k0
  clear b0 k0
  go_enter Tryd.func30, Tryd.ntmps30
  by_cases h1 : n < 1
  · go_wp2_with (refine wpList_store_at rfl 75 (.tmp 2) (.tmp 10) rfl ⟨w.heap.size, 0, none⟩ rfl _ rfl hst ?_)
    refine bodyPost_ret (Go.Proofs.YtjndfmpicnkplaaDoorW.PrintWords.results_ct rfl _ _ w.heap.size _ #[.int .i64 0, .int .u8 0, .int .i64 0] (0, 0) _ rfl (setRow_block K0.out) Tryd.underlying75 rfl info75s) rfl ?_
    exact ⟨rfl, HB.out.os, HB.out.tape, HB.out.output, by simp, fun q hq => (setRow_other _ _ q _ (by omega)).trans (HB.out.block q hq)⟩
  · have h4 : 4 ≤ n := by omega
    clear h
    go_wp2_with (refine wpList_store_at rfl 75 (.tmp 2) (.tmp 10) rfl ⟨w.heap.size, 0, none⟩ rfl _ rfl hst ?_)
    refine bodyPost_ret (Go.Proofs.YtjndfmpicnkplaaDoorW.PrintWords.results_ct rfl _ _ w.heap.size _ #[.int .i64 0, .int .u8 0, .int .i64 0] (0, 0) _ rfl (setRow_block K0.out) Tryd.underlying75 rfl info75s) rfl ?_
    exact ⟨rfl, HB.out.os, HB.out.tape, HB.out.output, by simp, fun q hq => (setRow_other _ _ q _ (by omega)).trans (HB.out.block q hq)⟩
theorem fault_ok {w : World} : Calls Tryd.prog 46 #[.int .i64 0] w fun e w' => e = .returned .nilIface ∧ Below w.heap.size w w' := by
  go_enter Tryd.func46, Tryd.ntmps46
  go_wp2_with fail
  go_ret
  exact ⟨rfl, Below.refl _ _⟩
theorem told_ok {w : World} : Calls Tryd.prog 28 #[.nilIface] w fun e w' => e = .returned (.int .i64 0) ∧ Below w.heap.size w w' := by
  go_enter Tryd.func28, Tryd.ntmps28
  go_wp2_with fail
  go_ret
  exact ⟨rfl, (Below.refl _ _).alloc (Nat.le_refl _) _⟩
/-- The public Form's answer. -/
def formP : Option (Int × Int) → Value
  | none => .tuple #[.agg #[.int .i64 0, .int .i64 0, .int .i64 0], .int .i64 52]
  | some (k, s) => .tuple #[.agg #[.int .i64 k, .int .i64 s, .int .i64 1], .int .i64 0]
set_option maxHeartbeats 1000000 in
set_option maxRecDepth 100000 in
theorem form_pub {w : World} (hT : Tabs w) (no : Int) :
    Calls Tryd.prog 16 #[.int .i64 1, .int .i64 no] w fun e w' => e = .returned (formP (formF no 0)) ∧ Below w.heap.size w w' := by
  obtain ⟨w0, e0⟩ : ∃ W, w.alloc (.cells #[.int .i64 0, .int .i64 0, .int .i64 0] 55) = W := ⟨_, rfl⟩
  have b0 : Below w.heap.size w w0 := by rw [← e0]; exact (Below.refl _ _).alloc (Nat.le_refl _) _
  have k0 : w0.heap[w.heap.size]? = some (.cells #[.int .i64 0, .int .i64 0, .int .i64 0] 55 (0, 0)) := by rw [← e0]; exact heap_alloc_last _ _
  have HW := Lib.hid (which_some (hT.below b0) 1 (by decide) (by decide))
  have HT0 := Lib.hid (hT.below b0)
  have HB0 := Lib.hid b0
  have K0 := Lib.hid k0
  have E0 := Lib.hid e0
  have hs0 : w0.heap.size = w.heap.size + 1 := by rw [← e0]; simp
  have HS0 := Lib.hid hs0
  clear hT e0 b0 k0 hs0
  go_enter Tryd.func16, Tryd.ntmps16
  go_wp2_with fail
  rw [E0.out]
  refine HW.out.mono ?_
  rintro e w1 ⟨rfl, b1⟩
  rw [show dialectsL[1] = (1, 48, 0) from rfl]
  obtain ⟨w1', e1'⟩ : ∃ W, w1.alloc (.cells #[.int .i64 1, .int .u8 48, .int .i64 0] 75) = W := ⟨_, rfl⟩
  have b1' : Below w1.heap.size w1 w1' := by rw [← e1']; exact (Below.refl _ _).alloc (Nat.le_refl _) _
  have b2' := b1.trans (b1'.mono b1.size)
  have HF := Lib.hid (form_any (HT0.out.below b2') 1 48 0 no (by omega))
  have hlt : w.heap.size < w0.heap.size := by rw [HS0.out]; omega
  have K1 := Lib.hid ((b2'.block w.heap.size hlt).trans K0.out)
  have HB01 := Lib.hid (HB0.out.trans (b2'.mono HB0.out.size))
  have hlt2 : w.heap.size < w1'.heap.size := by have := b2'.size; omega
  have HE1 := Lib.hid e1'
  have HLT2 := Lib.hid hlt2
  clear b1 b1' b2' e1' hlt hlt2
  go_wp2_with fail
  rw [HE1.out]
  refine HF.out.mono ?_
  rintro e w2 ⟨rfl, b2⟩
  have K2 := Lib.hid ((b2.block w.heap.size HLT2.out).trans K1.out)
  have HB02 := Lib.hid (HB01.out.trans (b2.mono HB01.out.size))
  have HLT3 := Lib.hid (Nat.lt_of_lt_of_le HLT2.out b2.size)
  clear b2
  obtain ⟨R, eR⟩ : ∃ R, formF no 0 = R := ⟨_, rfl⟩
  rw [eR]
  cases R with
  | none =>
    have b3 : Below w2.heap.size w2 (w2.alloc (.cells #[.int .i64 0, .int .i64 0, .int .i64 0] 55)) := (Below.refl _ _).alloc (Nat.le_refl _) _
    have HB3 := Lib.hid (HB02.out.trans (b3.mono HB02.out.size))
    have K3 := Lib.hid ((b3.block w.heap.size HLT3.out).trans K2.out)
    have hst := store_all (ty := 55) K3.out info55s rfl #[.int .i64 0, .int .i64 0, .int .i64 0] rfl rfl
    clear b3
    unfold formV
    go_wp2_with (refine wpList_store_at rfl 55 (.tmp 4) (.tmp 26) rfl ⟨w.heap.size, 0, none⟩ rfl _ rfl hst ?_)
    refine bodyPost_ret (Go.Proofs.YtjndfmpicnkplaaDoorW.PrintWords.results_ct rfl _ _ w.heap.size _ #[.int .i64 0, .int .i64 0, .int .i64 0] (0, 0) _ rfl (setRow_block K3.out) Tryd.underlying55 rfl info55s) rfl ?_
    exact ⟨by rw [eR]; rfl, HB3.out.os, HB3.out.tape, HB3.out.output, by have h9 := HB3.out.size; rw [setRow_size]; exact h9, fun q hq => (setRow_other _ _ q _ (by omega)).trans (HB3.out.block q hq)⟩
  | some ks =>
    obtain ⟨k, s⟩ := ks
    have b3 : Below w2.heap.size w2 (w2.alloc (.cells #[.int .i64 k, .int .i64 s, .int .i64 1] 55)) := (Below.refl _ _).alloc (Nat.le_refl _) _
    have HB3 := Lib.hid (HB02.out.trans (b3.mono HB02.out.size))
    have K3 := Lib.hid ((b3.block w.heap.size HLT3.out).trans K2.out)
    have hst := store_all (ty := 55) K3.out info55s rfl #[.int .i64 k, .int .i64 s, .int .i64 1] rfl rfl
    clear b3
    unfold formV
    go_wp2_with (refine wpList_store_at rfl 55 (.tmp 4) (.tmp 27) rfl ⟨w.heap.size, 0, none⟩ rfl _ rfl hst ?_)
    refine bodyPost_ret (Go.Proofs.YtjndfmpicnkplaaDoorW.PrintWords.results_ct rfl _ _ w.heap.size _ #[.int .i64 k, .int .i64 s, .int .i64 1] (0, 0) _ rfl (setRow_block K3.out) Tryd.underlying55 rfl info55s) rfl ?_
    exact ⟨by rw [eR]; rfl, HB3.out.os, HB3.out.tape, HB3.out.output, by have h9 := HB3.out.size; rw [setRow_size]; exact h9, fun q hq => (setRow_other _ _ q _ (by omega)).trans (HB3.out.block q hq)⟩
end Go.Proofs.YtjndfmpicnkplaaDoor.msgw
