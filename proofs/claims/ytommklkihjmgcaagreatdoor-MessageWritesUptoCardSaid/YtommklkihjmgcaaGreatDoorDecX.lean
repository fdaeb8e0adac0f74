/- Layer 5: what sixteen digits of a map say. Layer 5: a reader: take, fail. Layer 5: what Decode reads, in plain words. Layer 5: decode. Layer 5: Decode. Conditions: as each theorem says. -/
import Derived.Test.YtommklkihjmgcaaGreatDoorFieldY
import Derived.Test.YtommklkihjmgcaaGreatDoorEncX
import Derived.Deep.DeepCutAuto
import Derived.Test.YtommklkihjmgcaaGreatDoorWInvWords
import Derived.Test.YtommklkihjmgcaaGreatDoorWApart
namespace Go.Proofs.YtommklkihjmgcaaGreatDoor.msgw
open Go.RowKit
open Go.Proofs.YtommklkihjmgcaaGreatDoor.msgp
open Go.Proofs.YtommklkihjmgcaaGreatDoor.buf
open Go.Proofs.YtommklkihjmgcaaGreatDoor.fieldp
open Go.Proofs.YtommklkihjmgcaaGreatDoor.fieldw
/-- The number of hexadecimal digits. -/
def numH (l : List UInt8) : Nat := l.foldl (fun a c => 16 * a + hv c) 0
theorem numH_snoc (l : List UInt8) (c : UInt8) : numH (l ++ [c]) = 16 * numH l + hv c := by simp [numH]
set_option maxRecDepth 100000 in
theorem hex_row {c : UInt8} (h : inRow hexL c = true) : (48 ≤ c.toNat ∧ c.toNat ≤ 57 ∧ hv c = c.toNat - 48) ∨ (97 ≤ c.toNat ∧ c.toNat ≤ 102 ∧ hv c = c.toNat - 87) := by
 have : ∀ i : Fin 256, inRow hexL (UInt8.ofNat i.1) = true → (48 ≤ i.1 ∧ i.1 ≤ 57 ∧ hv (UInt8.ofNat i.1) = i.1 - 48) ∨ (97 ≤ i.1 ∧ i.1 ≤ 102 ∧ hv (UInt8.ofNat i.1) = i.1 - 87) := by decide +kernel
 have h2 := this ⟨c.toNat, c.toNat_lt⟩ (by rw [UInt8.ofNat_toNat]; exact h)
 rw [UInt8.ofNat_toNat] at h2
 exact h2
theorem numH_take (s : ByteArray) (k : Nat) (hk : k < s.size) : numH (s.data.toList.take (k + 1)) = 16 * numH (s.data.toList.take k) + hv s[k] := by
 have hk' : k < s.data.toList.length := by simpa using hk
 rw [List.take_succ_eq_append_getElem hk', numH_snoc]
 simp [ByteArray.getElem_eq_getElem_data]
theorem numH_fold : ∀ (l : List UInt8) (a m : Nat), a < 16 ^ m → l.all (inRow hexL) = true → l.foldl (fun a c => 16 * a + hv c) a < 16 ^ (m + l.length)
 | [], a, m, ha, _ => by simpa using ha
 | c :: r, a, m, ha, h => by
  simp only [List.all_cons, Bool.and_eq_true] at h
  have h2 := hex_row h.1
  have := numH_fold r (16 * a + hv c) (m + 1) (by rw [Nat.pow_succ]; omega) h.2
  rw [List.foldl_cons, List.length_cons, show m + (r.length + 1) = m + 1 + r.length by omega]
  exact this
theorem numH_lt {l : List UInt8} (h : l.all (inRow hexL) = true) : numH l < 16 ^ l.length := by
 have := numH_fold l 0 0 (by decide) h
 rwa [Nat.zero_add] at this
set_option maxHeartbeats 1000000 in
set_option maxRecDepth 100000 in
theorem number_any {w : World} (s : ByteArray) (hall : s.data.toList.all (inRow hexL) = true) (hl : s.size ≤ 16) :
  Calls Tryz.prog 61 #[.string s] w fun e w' => e = .returned (.int .u64 (numH s.data.toList)) ∧ w' = w := by
 have HA := Lib.hid hall
 have hpow : ∀ k, k ≤ s.size → numH (s.data.toList.take k) < 16 ^ k ∧ (16 : Nat) ^ k ≤ 18446744073709551616 := by
  intro k hk
  have h1 := numH_lt (l := s.data.toList.take k) (List.all_eq_true.2 fun c hc => List.all_eq_true.1 hall c (List.mem_of_mem_take hc))
  rw [List.length_take, Nat.min_eq_left (by simpa using hk)] at h1
  exact ⟨h1, (Nat.pow_le_pow_right (by decide) (by omega) : 16 ^ k ≤ 16 ^ 16)⟩
 have HP := Lib.hid hpow
 clear hall hpow
 go_enter Tryz.func61, Tryz.ntmps61
 go_wp2_with fail
 go_loopw [3, 8] (fun x i wr => ∃ k : Nat, k ≤ s.size ∧ i = .int .i64 k ∧ x = .int .u64 (numH (s.data.toList.take k)) ∧ wr = w) (fun _ i _ => s.size - (intOf i).toNat)
 case atStart => exact ⟨0, Nat.zero_le _, rfl, rfl, rfl⟩
 case round =>
  obtain ⟨k, hk, rfl, rfl, rfl⟩ := hrel
  obtain ⟨n, hn⟩ : ∃ n, numH (s.data.toList.take k) = n := ⟨_, rfl⟩
  rw [hn]
  by_cases hlt : k < s.size
  ·have hlt' : (k : Int) < s.size := by omega
   obtain ⟨c, hc⟩ : ∃ c, s[k] = c := ⟨_, rfl⟩
   have hr := hex_row (c := c) (by rw [← hc]; exact List.all_eq_true.1 HA.out _ (by simp [ByteArray.getElem_eq_getElem_data]))
   have h16 := HP.out (k + 1) hlt
   rw [numH_take s k hlt, hn, hc] at h16
   obtain ⟨h161, h162⟩ := h16
   have HN := Lib.hid (show numH (s.data.toList.take (k + 1)) = 16 * n + hv c by rw [numH_take s k hlt, hn, hc])
   have n16 : 16 * n + hv c < 18446744073709551616 := by omega
   have HC := Lib.hid hc
   clear h161 h162 hn
   have hor : bits BinOp.or IntKind.u64 ((n : Int) * 16) (hv c : Int) = ((16 * n + hv c : Nat) : Int) := by
    rw [show (n : Int) * 16 = ((16 * n : Nat) : Int) by omega, bits_or_u64_nat _ _ (by omega) (by omega)]
    congr 1
    rw [show 16 * n = n <<< 4 by rw [Nat.shiftLeft_eq]; omega, Nat.shiftLeft_add_eq_or_of_lt (by omega)]
   rcases hr with ⟨r1, r2, r3⟩ | ⟨r1, r2, r3⟩
   ·have q1 : ¬ 97 ≤ c.toNat := by omega
    have e1 : (c.toNat : Int) - 48 = (hv c : Int) := by omega
    go_wp2_with (simp only [e1, hor])
    exact ⟨⟨k + 1, hlt, by go_num, by rw [HN.out, ← r3, hor], trivial⟩, by simp [intOf]; omega⟩
   ·have q1 : 97 ≤ c.toNat := by omega
    have e1 : (c.toNat : Int) - 39 - 48 = (hv c : Int) := by omega
    go_wp2_with (simp only [e1, hor])
    exact ⟨⟨k + 1, hlt, by go_num, by rw [HN.out, ← r3, hor], trivial⟩, by simp [intOf]; omega⟩
  ·obtain rfl : k = s.size := by omega
   have hlt' : ¬ (s.size : Int) < s.size := by omega
   rw [List.take_of_length_le (by simp)] at hn
   go_wp2_with fail
   go_ret
   exact ⟨rfl, rfl⟩
end Go.Proofs.YtommklkihjmgcaaGreatDoor.msgw
namespace Go.Proofs.YtommklkihjmgcaaGreatDoor.msgw
open Go.RowKit
open Go.Proofs.YtommklkihjmgcaaGreatDoor.msgp
open Go.Proofs.YtommklkihjmgcaaGreatDoor.buf
open Go.Proofs.YtommklkihjmgcaaGreatDoor.fieldp
open Go.Proofs.YtommklkihjmgcaaGreatDoor.fieldw
open Go.Proofs.YtommklkihjmgcaaGreatDoorW.PrintWords
open Go.Proofs.YtommklkihjmgcaaGreatDoorW.PrintMore
open Go.Proofs.YtommklkihjmgcaaGreatDoor.fieldl
/-- A reader in block b: what it has still to read, what was wrong first; what others may write is S. -/
def RdAt (w : World) (S : Nat → Prop) (b : Nat) (l : List Int) (e : Option Er) : Prop :=
 ∃ v ev, w.heap[b]? = some (.cells #[v, ev] 100 (0, 0)) ∧ Kd.V (Kd.int .u8) 5 w 0 (fun k => ¬ S k) v l ∧ (ErrAt w ev e ∧ ∀ t c, ev = .iface t (.pointer (some ⟨c, 0, none⟩)) → ¬ S c) ∧ S b ∧ ∀ k, S k → k < w.heap.size
theorem ErrAt.step {w w' : World} {v : Value} {e : Option Er} {S : Nat → Prop} (h : ErrAt w v e) (hS : ∀ t c, v = .iface t (.pointer (some ⟨c, 0, none⟩)) → ¬ S c) (hm : ∀ k, k < w.heap.size → ¬ S k → w'.heap[k]? = w.heap[k]?) : ErrAt w' v e := by
 cases e with
 | none => exact h
 | some er =>
  cases er with
  | plain n => exact h
  | field no n =>
   obtain ⟨b, e, hk⟩ := h
   exact ⟨b, e, (hm b (Array.getElem?_eq_some_iff.1 hk).1 (hS _ _ e)).trans hk⟩
theorem RdAt.lt {w : World} {S : Nat → Prop} {b : Nat} {l : List Int} {e : Option Er} (h : RdAt w S b l e) : b < w.heap.size := by
 obtain ⟨v, ev, hk, _⟩ := h
 exact (Array.getElem?_eq_some_iff.1 hk).1
theorem RdAt.step {w w' : World} {S : Nat → Prop} {b : Nat} {l : List Int} {e : Option Er} (h : RdAt w S b l e) (hs : w.heap.size ≤ w'.heap.size) (hm : ∀ k, k < w.heap.size → ¬ S k ∨ k = b → w'.heap[k]? = w.heap[k]?) : RdAt w' S b l e := by
 have hb := h.lt
 obtain ⟨v, ev, hk, hv, ⟨he, hne⟩, hSb, hlt⟩ := h
 exact ⟨v, ev, (hm b hb (.inr rfl)).trans hk, Kd.V_step hv (fun k h1 h2 => hm k h2 (.inl h1)), ⟨he.step hne (fun k h1 h2 => hm k h1 (.inl h2)), hne⟩, hSb, fun k hk => Nat.lt_of_lt_of_le (hlt k hk) hs⟩
theorem RdAt.below {w w' : World} {S : Nat → Prop} {b : Nat} {l : List Int} {e : Option Er} (h : RdAt w S b l e) (hb : Below w.heap.size w w') : RdAt w' S b l e := h.step hb.size (fun k hk _ => hb.block k hk)
/-- A store into a block that others may write. -/
theorem RdAt.set {w : World} {S : Nat → Prop} {b : Nat} {l : List Int} {e : Option Er} (h : RdAt w S b l e) {q : Nat} (hq : S q) (hne : q ≠ b) (j : Nat) (u : Value) : RdAt (w.setCell ⟨q, j, none⟩ u) S b l e :=
 h.step (by simp [World.setCell]) (fun k _ hk => Below.heap_setCell w ⟨q, j, none⟩ u k (by
  rintro rfl
  rcases hk with hk | hk
  ·exact hk hq
  ·exact hne hk))
/-- New blocks that others may write. -/
theorem RdAt.grow {w : World} {S S' : Nat → Prop} {b : Nat} {l : List Int} {e : Option Er} (h : RdAt w S b l e) {w' : World} (hb : Below w.heap.size w w') (hS : ∀ k, S' k → S k ∨ w.heap.size ≤ k) (hlt : ∀ k, S' k → k < w'.heap.size) (hSb : S' b) : RdAt w' S' b l e := by
 have hbb := h.lt
 obtain ⟨v, ev, hk, hv, ⟨he, hne⟩, _, _⟩ := h
 have hV := Kd.V_mono (Kd.V_bound hv) (ok' := fun k => ¬ S' k) (fun k hk hs => by
  rcases hS k hs with h1 | h1
  ·exact hk.1 h1
  ·exact absurd hk.2 (by omega))
 have hE : ∀ t c, ev = .iface t (.pointer (some ⟨c, 0, none⟩)) → ¬ S' c := by
  intro t c hc hs
  rcases hS c hs with h1 | h1
  ·exact hne t c hc h1
  ·cases e with
   | none => obtain rfl : ev = .nilIface := he; cases hc
   | some er =>
    cases er with
    | plain n => have h2 : ev = _ := he; rw [h2] at hc; simp at hc
    | field no n =>
     obtain ⟨b2, h2, h3⟩ := he
     rw [h2] at hc
     simp at hc
     obtain ⟨_, rfl⟩ := hc
     exact absurd (Array.getElem?_eq_some_iff.1 h3).1 (by omega)
 exact ⟨v, ev, (hb.block b hbb).trans hk, Kd.V_below hV hb, ⟨he.step (S := S') hE (fun k h1 _ => hb.block k h1), hE⟩, hSb, hlt⟩
def failM (s : List Int × Option Er) (n : Int) : List Int × Option Er := match s.2 with
 | some _ => s
 | none => (s.1, some (.plain n))
/-- What take answers, and leaves. -/
def takeM (s : List Int × Option Er) (k n c no : Int) : ByteArray × (List Int × Option Er) := match s.2 with
 | some _ => (⟨#[]⟩, s)
 | none => if (takeR s.1 k n c).2.2 = 0 then ((takeR s.1 k n c).1, ((takeR s.1 k n c).2.1, none)) else (⟨#[]⟩, (s.1, some (if 0 < no then .field no (takeR s.1 k n c).2.2 else .plain (takeR s.1 k n c).2.2)))
theorem iface_of {w : World} {v : Value} {er : Er} (h : ErrAt w v (some er)) : ∃ t x, v = .iface t x := by
 cases er with
 | plain n => exact ⟨_, _, h⟩
 | field no n => obtain ⟨b, e, _⟩ := h; exact ⟨_, _, e⟩
set_option maxRecDepth 100000 in
theorem fail_rd {w : World} {S : Nat → Prop} {b : Nat} {l : List Int} {e : Option Er} (h : RdAt w S b l e) (n : Int) :
  Calls Tryz.prog 60 #[.pointer (some ⟨b, 0, none⟩), .int .i64 n] w fun ex w' => ex = .returned (.tuple #[]) ∧ RdAt w' S b (failM (l, e) n).1 (failM (l, e) n).2 ∧ Turn [b] w w' := by
 obtain ⟨v, ev, hk, hv, ⟨he, hne⟩, hSb, hlt⟩ := h
 have HSB := Lib.hid hSb
 have HLT := Lib.hid hlt
 have HNE := Lib.hid hne
 clear hSb hlt hne
 have c1 : w.cell? ⟨b, 1, none⟩ = some ev := cells_at hk 1
 have z1 := frozen_at hk 1
 have HK := Lib.hid hk
 have HV := Lib.hid hv
 have HE := Lib.hid he
 cases e with
 | some er =>
  obtain ⟨t, x, rfl⟩ := iface_of he
  clear hk hv he
  go_enter Tryz.func60, Tryz.ntmps60
  go_wp2_with fail
  go_end0
  exact ⟨rfl, ⟨_, _, HK.out, HV.out, ⟨HE.out, HNE.out⟩, HSB.out, HLT.out⟩, Turn.refl _ _⟩
 | none =>
  obtain rfl : ev = .nilIface := he
  clear hk hv
  go_enter Tryz.func60, Tryz.ntmps60
  go_wp2_with fail
  go_end0
  exact ⟨rfl, ⟨_, _, blk_set HK.out 1 _, Kd.V_far HV.out (p := ⟨b, 1, none⟩) (fun k hk hq => hk (hq ▸ HSB.out)) _, ⟨rfl, fun t c h => by simp at h⟩, HSB.out, by simpa [World.setCell] using HLT.out⟩, (Turn.refl _ _).set (.inl (List.mem_singleton.2 rfl)) 1 _⟩
set_option maxHeartbeats 4000000 in
set_option maxRecDepth 100000 in
theorem take_rd {w : World} {S : Nat → Prop} {b : Nat} {l : List Int} {e : Option Er} (h : RdAt w S b l e) (k n c no : Int) :
  Calls Tryz.prog 57 #[.pointer (some ⟨b, 0, none⟩), .agg #[.int .i64 k, .int .i64 n, .int .i64 c], .int .i64 no] w fun ex w' => ex = .returned (.string (takeM (l, e) k n c no).1) ∧ RdAt w' S b (takeM (l, e) k n c no).2.1 (takeM (l, e) k n c no).2.2 ∧ Turn [b] w w' := by
 have hb0 := h.lt
 obtain ⟨w0, e0⟩ : ∃ W, w.alloc (.cells #[.int .i64 k, .int .i64 n, .int .i64 c] 46) = W := ⟨_, rfl⟩
 have b0 : Below w.heap.size w w0 := by rw [← e0]; exact (Below.refl _ _).alloc (Nat.le_refl _) _
 have kf : w0.heap[w.heap.size]? = some (.cells #[.int .i64 k, .int .i64 n, .int .i64 c] 46 (0, 0)) := by rw [← e0]; exact heap_alloc_last _ _
 have HT0 := Lib.hid (Turn.of_below (O := [b]) b0)
 have hltw : ∀ k, S k → k < w.heap.size := by obtain ⟨_, _, _, _, _, _, hl⟩ := h; exact hl
 obtain ⟨v, ev, hk, hv, ⟨he, hne⟩, hSb, hlt⟩ := h.below b0
 have HSB := Lib.hid hSb
 have HLT := Lib.hid hlt
 have HNE := Lib.hid hne
 have HLW := Lib.hid hltw
 clear hSb hlt hne hltw
 have HK := Lib.hid hk
 have HV := Lib.hid hv
 have HE := Lib.hid he
 have KF := Lib.hid kf
 have E0 := Lib.hid e0
 have c0 : w0.cell? ⟨b, 0, none⟩ = some v := cells_at hk 0
 have c1 : w0.cell? ⟨b, 1, none⟩ = some ev := cells_at hk 1
 have f0 : w0.cell? ⟨w.heap.size, 0, none⟩ = some (.int .i64 k) := cells_at kf 0
 have f1 : w0.cell? ⟨w.heap.size, 1, none⟩ = some (.int .i64 n) := cells_at kf 1
 have f2 : w0.cell? ⟨w.heap.size, 2, none⟩ = some (.int .i64 c) := cells_at kf 2
 have z1 := frozen_at hk 1
 have z0 := frozen_at hk 0
 rw [← e0] at c0 c1 f0 f1 f2 z0 z1
 cases e with
 | some er =>
  obtain ⟨t, x, rfl⟩ := iface_of he
  clear hk hv he kf e0 b0 h
  go_enter Tryz.func57, Tryz.ntmps57
  go_wp2_with fail
  go_ret
  rw [E0.out]
  exact ⟨rfl, ⟨_, _, HK.out, HV.out, ⟨HE.out, HNE.out⟩, HSB.out, HLT.out⟩, HT0.out⟩
 | none =>
  obtain rfl : ev = .nilIface := he
  obtain ⟨A, cc, rfl⟩ := Kd.V_slice hv
  have hC := (Kd.V_reads' hv).2.2
  have HTK := Lib.hid (fun (W : World) (hW : Below w0.heap.size w0 W) => take_any k n c A cc l W (Kd.C_below hC hW))
  clear hk hv kf e0 b0 h
  go_enter Tryz.func57, Tryz.ntmps57
  go_wp2_with fail
  rw [E0.out] at c0 c1 f0 f1 f2 z0 z1 ⊢
  have HBc := Lib.hid (show Below w0.heap.size w0 w0.drew from ⟨rfl, rfl, rfl, Nat.le_refl _, fun _ _ => rfl⟩)
  refine wp_region_held_drew (S := (fun W => ((W.cell? ⟨w.heap.size, 0, none⟩ = some (.int .i64 k) ∧ W.cell? ⟨w.heap.size, 1, none⟩ = some (.int .i64 n)) ∧ W.cell? ⟨w.heap.size, 2, none⟩ = some (.int .i64 c)) ∧ W.cell? ⟨b, 0, none⟩ = some (.slice A l.length cc))) (by kernel_rfl) (⟨⟨⟨f0, f1⟩, f2⟩, c0⟩) (fun hHeld => ?_)
  refine wpAnyH_take (i := 0) (oi := { dst := some 16, op := Op.move (Operand.tmp 0), type := 98, pos := _, after := _, guard := _ }) (v := ?_) rfl (by kernel_rfl) (by kernel_rfl) (by kernel_rfl) (fun _ _ _ h => h) (Or.inl ⟨by rfl, ?hytkx01⟩) (by assumption) ?resttkx01
  case hytkx01 => (intro w hSw; (try dsimp only at hSw); go_simp; try with_reducible rfl)
  try simp only [Act.put, List.setIfInBounds_toArray, List.set_cons_zero, List.set_cons_succ]
  refine wpAnyH_take (i := 1) (oi := { dst := some 17, op := Op.nilCheck (Operand.tmp 16), type := 0, pos := _, after := _, guard := _ }) (v := ?_) rfl (by kernel_rfl) (by kernel_rfl) (by kernel_rfl) (fun _ _ _ h => h) (Or.inl ⟨by rfl, ?hytkx04⟩) (by assumption) ?resttkx04
  case hytkx04 => (intro W hSw; obtain ⟨⟨⟨s0, s1⟩, s2⟩, s3⟩ := hSw; go_simp; try with_reducible rfl)
  try simp only [Act.put, List.setIfInBounds_toArray, List.set_cons_zero, List.set_cons_succ]
  refine wpAnyH_take (i := 2) (oi := { dst := some 18, op := Op.fieldAddr 100 (Operand.tmp 17) 0, type := 0, pos := _, after := _, guard := _ }) (v := ?_) rfl (by kernel_rfl) (by kernel_rfl) (by kernel_rfl) (fun _ _ _ h => h) (Or.inl ⟨by rfl, ?hytkx07⟩) (by assumption) ?resttkx07
  case hytkx07 => (intro W hSw; obtain ⟨⟨⟨s0, s1⟩, s2⟩, s3⟩ := hSw; go_simp; try with_reducible rfl)
  try simp only [Act.put, List.setIfInBounds_toArray, List.set_cons_zero, List.set_cons_succ]
  refine wpAnyH_take (i := 3) (oi := { dst := some 19, op := Op.load 33 (Operand.tmp 18), type := 33, pos := _, after := _, guard := _ }) (v := ?_) rfl (by kernel_rfl) (by kernel_rfl) (by kernel_rfl) (fun _ _ _ h => h) (Or.inl ⟨by rfl, ?hytkx010⟩) (by assumption) ?resttkx010
  case hytkx010 => (intro W hSw; obtain ⟨⟨⟨s0, s1⟩, s2⟩, s3⟩ := hSw; go_simp; try with_reducible rfl)
  try simp only [Act.put, List.setIfInBounds_toArray, List.set_cons_zero, List.set_cons_succ]
  refine wpAnyH_take (i := 4) (oi := { dst := some 20, op := Op.load 46 (Operand.tmp 4), type := 46, pos := _, after := _, guard := _ }) (v := ?_) rfl (by kernel_rfl) (by kernel_rfl) (by kernel_rfl) (fun _ _ _ h => h) (Or.inl ⟨by rfl, ?hytkx013⟩) (by assumption) ?resttkx013
  case hytkx013 => (intro W hSw; obtain ⟨⟨⟨s0, s1⟩, s2⟩, s3⟩ := hSw; go_simp; try with_reducible rfl)
  try simp only [Act.put, List.setIfInBounds_toArray, List.set_cons_zero, List.set_cons_succ]
  refine wpAnyH_ready (rs := [5]) (by kernel_rfl) (by simp) (AllReadyH.cons (o := { dst := some 21, op := Op.call { callee := Callee.value (Operand.func 88), args := #[Operand.tmp 19, Operand.tmp 20], argTypes := #[33, 46] }, type := 72, pos := _, after := _, guard := _ }) rfl (fun K hK => ?_) AllReadyH.nil)
  go_simp
  refine (HTK.out _ HBc.out).mono ?_
  rintro ex w1 ⟨v1, rfl, hv1, b1⟩
  have b01 := HBc.out.trans (b1.mono HBc.out.size)
  have HV1 := Lib.hid hv1
  have HB1 := Lib.hid b01
  refine hK.out _ _ (⟨⟨⟨b01.keptCell f0, b01.keptCell f1⟩, b01.keptCell f2⟩, b01.keptCell c0⟩) (fun hHeld => ?_)
  clear hK K
  try simp only [Act.put, List.setIfInBounds_toArray, List.set_cons_zero, List.set_cons_succ]
  refine wpAnyH_take (i := 6) (oi := { dst := some 15, op := Op.move (Operand.tmp 21), type := 72, pos := _, after := _, guard := _ }) (v := ?_) rfl (by kernel_rfl) (by kernel_rfl) (by kernel_rfl) (fun _ _ _ h => h) (Or.inl ⟨by rfl, ?hytkx026⟩) (by assumption) ?resttkx026
  case hytkx026 => (intro w hSw; (try dsimp only at hSw); go_simp; try with_reducible rfl)
  try simp only [Act.put, List.setIfInBounds_toArray, List.set_cons_zero, List.set_cons_succ]
  refine wpAnyH_take (i := 7) (oi := { dst := some 22, op := Op.extract (Operand.tmp 15) 0, type := 9, pos := _, after := _, guard := _ }) (v := ?_) rfl (by kernel_rfl) (by kernel_rfl) (by kernel_rfl) (fun _ _ _ h => h) (Or.inl ⟨by rfl, ?hytkx029⟩) (by assumption) ?resttkx029
  case hytkx029 => (intro w hSw; (try dsimp only at hSw); go_simp; try with_reducible rfl)
  try simp only [Act.put, List.setIfInBounds_toArray, List.set_cons_zero, List.set_cons_succ]
  refine wpAnyH_take (i := 8) (oi := { dst := some 23, op := Op.extract (Operand.tmp 15) 1, type := 33, pos := _, after := _, guard := _ }) (v := ?_) rfl (by kernel_rfl) (by kernel_rfl) (by kernel_rfl) (fun _ _ _ h => h) (Or.inl ⟨by rfl, ?hytkx032⟩) (by assumption) ?resttkx032
  case hytkx032 => (intro w hSw; (try dsimp only at hSw); go_simp; try with_reducible rfl)
  try simp only [Act.put, List.setIfInBounds_toArray, List.set_cons_zero, List.set_cons_succ]
  refine wpAnyH_take (i := 9) (oi := { dst := some 24, op := Op.extract (Operand.tmp 15) 2, type := 34, pos := _, after := _, guard := _ }) (v := ?_) rfl (by kernel_rfl) (by kernel_rfl) (by kernel_rfl) (fun _ _ _ h => h) (Or.inl ⟨by rfl, ?hytkx035⟩) (by assumption) ?resttkx035
  case hytkx035 => (intro w hSw; (try dsimp only at hSw); go_simp; try with_reducible rfl)
  try simp only [Act.put, List.setIfInBounds_toArray, List.set_cons_zero, List.set_cons_succ]
  refine wpAnyH_take (i := 10) (oi := { dst := some 7, op := Op.assign (Operand.tmp 22), type := 9, pos := _, after := _, guard := _ }) (v := ?_) rfl (by kernel_rfl) (by kernel_rfl) (by kernel_rfl) (fun _ _ _ h => h) (Or.inl ⟨by rfl, ?hytkx038⟩) (by assumption) ?resttkx038
  case hytkx038 => (intro w hSw; (try dsimp only at hSw); go_simp; try with_reducible rfl)
  try simp only [Act.put, List.setIfInBounds_toArray, List.set_cons_zero, List.set_cons_succ]
  refine wpAnyH_take (i := 11) (oi := { dst := some 8, op := Op.assign (Operand.tmp 23), type := 33, pos := _, after := _, guard := _ }) (v := ?_) rfl (by kernel_rfl) (by kernel_rfl) (by kernel_rfl) (fun _ _ _ h => h) (Or.inl ⟨by rfl, ?hytkx041⟩) (by assumption) ?resttkx041
  case hytkx041 => (intro w hSw; (try dsimp only at hSw); go_simp; try with_reducible rfl)
  try simp only [Act.put, List.setIfInBounds_toArray, List.set_cons_zero, List.set_cons_succ]
  refine wpAnyH_take (i := 12) (oi := { dst := some 9, op := Op.assign (Operand.tmp 24), type := 34, pos := _, after := _, guard := _ }) (v := ?_) rfl (by kernel_rfl) (by kernel_rfl) (by kernel_rfl) (fun _ _ _ h => h) (Or.inl ⟨by rfl, ?hytkx044⟩) (by assumption) ?resttkx044
  case hytkx044 => (intro w hSw; (try dsimp only at hSw); go_simp; try with_reducible rfl)
  try simp only [Act.put, List.setIfInBounds_toArray, List.set_cons_zero, List.set_cons_succ]
  refine wpAnyH_done (by kernel_rfl) ?_ _
  clear hHeld
  have hbw : b < w0.heap.size := (Array.getElem?_eq_some_iff.1 HK.out).1
  obtain ⟨⟨ts, tr, tc⟩, eT⟩ : ∃ x, takeR l k n c = x := ⟨_, rfl⟩
  rw [eT] at hv1 ⊢
  obtain ⟨A1, cc1, rfl⟩ := Kd.V_slice hv1
  have HET := Lib.hid eT
  have kR1 := (HB1.out.block b hbw).trans HK.out
  have HVV := Lib.hid (Kd.V_mono hv1 (ok' := fun q => ¬ S q) (fun q hq hs => by have hq2 : w0.heap.size ≤ q := hq; have := HLT.out q hs; omega))
  have HFA := Lib.hid (fault_any (w := w1) tc)
  clear hv1 b1 b01 HTK HBc HV1 eT f0 f1 f2 c0 c1 z0 z1
  go_wp2_with fail
  refine HFA.out.mono ?_
  rintro e w2 ⟨rfl, b2⟩
  have kR2 := (b2.block b (Array.getElem?_eq_some_iff.1 kR1).1).trans kR1
  have HV2 := Lib.hid (Kd.V_below HVV.out b2)
  have HVO := Lib.hid (Kd.V_below HV.out (HB1.out.trans (b2.mono HB1.out.size)))
  have HT2 := Lib.hid (HT0.out.trans (Turn.of_below (HB1.out.trans (b2.mono HB1.out.size))))
  have c0 := cells_at kR2 0
  have c1 := cells_at kR2 1
  have z0 := frozen_at kR2 0
  have z1 := frozen_at kR2 1
  have KR2 := Lib.hid kR2
  have hbb : w.heap.size ≤ w2.heap.size := HT2.out.size
  have HB2 := Lib.hid (show w0.heap.size ≤ w2.heap.size from Nat.le_trans HB1.out.size b2.size)
  have HM := Lib.hid (List.mem_singleton.2 (rfl : b = b))
  clear kR1 kR2 b2
  by_cases h0 : tc = 0
  ·subst h0
   rw [if_pos rfl]
   have hM : takeM (l, none) k n c no = (ts, (tr, none)) := by unfold takeM; simp only; rw [HET.out]; rfl
   have HMM := Lib.hid hM
   clear hM
   go_wp2_with fail
   go_ret
   rw [HMM.out]
   exact ⟨rfl, ⟨_, _, blk_set (blk_set KR2.out 1 _) 0 _, Kd.V_far (Kd.V_far HV2.out (p := ⟨b, 1, none⟩) (fun k hk hq => hk (hq ▸ HSB.out)) _) (p := ⟨b, 0, none⟩) (fun k hk hq => hk (hq ▸ HSB.out)) _, ⟨rfl, fun t c h => by simp at h⟩, HSB.out, by have := HLT.out; have h2 := HB2.out; intro k hk; simp only [World.setCell, Array.size_modify]; exact Nat.lt_of_lt_of_le (this k hk) h2⟩, (HT2.out.set (.inl HM.out) 1 _).set (.inl HM.out) 0 _⟩
  ·rw [if_neg h0]
   have hbl : b < w2.heap.size := (Array.getElem?_eq_some_iff.1 KR2.out).1
   have hbn : b ≠ w2.heap.size := by omega
   by_cases hn : 0 < no
   ·have hM : takeM (l, none) k n c no = (⟨#[]⟩, (l, some (.field no tc))) := by unfold takeM; simp only; rw [HET.out]; simp only; rw [if_neg h0, if_pos hn]
    have HMM := Lib.hid hM
    clear hM
    go_wp2_with fail
    go_ret
    rw [HMM.out]
    obtain ⟨X2, eX⟩ : ∃ X, (w2.setCell ⟨b, 1, none⟩ (.iface 87 (.int .i64 tc))).setCell ⟨b, 1, none⟩ (.iface 86 (.pointer (some ⟨w2.heap.size, 0, none⟩))) = X := ⟨_, rfl⟩
    have kX : X2.heap[b]? = some (.cells #[.slice A l.length cc, .iface 86 (.pointer (some ⟨w2.heap.size, 0, none⟩))] 100 (0, 0)) := by rw [← eX]; exact blk_set (blk_set KR2.out 1 _) 1 _
    have vX : Kd.V (Kd.int .u8) 5 X2 0 (fun k => ¬ S k) (.slice A l.length cc) l := by rw [← eX]; exact Kd.V_far (Kd.V_far HVO.out (p := ⟨b, 1, none⟩) (fun k hk hq => hk (hq ▸ HSB.out)) _) (p := ⟨b, 1, none⟩) (fun k hk hq => hk (hq ▸ HSB.out)) _
    have tX : Turn [b] w X2 := by rw [← eX]; exact (HT2.out.set (.inl HM.out) 1 _).set (.inl HM.out) 1 _
    have sX : X2.heap.size = w2.heap.size := by rw [← eX]; simp [World.setCell]
    rw [eX]
    clear eX
    have bA : Below X2.heap.size X2 (X2.alloc (.cells #[.int .i64 no, .iface 87 (.int .i64 tc)] 89)) := (Below.refl _ _).alloc (Nat.le_refl _) _
    refine ⟨rfl, ⟨_, _, (bA.block b (Array.getElem?_eq_some_iff.1 kX).1).trans kX, Kd.V_below vX bA, ⟨⟨w2.heap.size, rfl, ?_⟩, ?_⟩, HSB.out, ?_⟩, tX.alloc _⟩
    ·rw [← sX]
     exact heap_alloc_last _ _
    ·intro t c h hs
     simp at h
     have := HLT.out c hs
     have h2 := HB2.out
     omega
    ·intro k hk
     have := HLT.out k hk
     have h2 := HB2.out
     have h3 := bA.size
     omega
   ·have hM : takeM (l, none) k n c no = (⟨#[]⟩, (l, some (.plain tc))) := by unfold takeM; simp only; rw [HET.out]; simp only; rw [if_neg h0, if_neg hn]
    have HMM := Lib.hid hM
    clear hM
    go_wp2_with fail
    go_ret
    rw [HMM.out]
    exact ⟨rfl, ⟨_, _, blk_set KR2.out 1 _, Kd.V_far HVO.out (p := ⟨b, 1, none⟩) (fun k hk hq => hk (hq ▸ HSB.out)) _, ⟨rfl, fun t c h => by simp at h⟩, HSB.out, by have := HLT.out; have h2 := HB2.out; intro k hk; simp only [World.setCell, Array.size_modify]; exact Nat.lt_of_lt_of_le (this k hk) h2⟩, HT2.out.set (.inl HM.out) 1 _⟩
end Go.Proofs.YtommklkihjmgcaaGreatDoor.msgw
namespace Go.Proofs.YtommklkihjmgcaaGreatDoor.msgw
open Go.RowKit
open Go.Proofs.YtommklkihjmgcaaGreatDoor.msgp
open Go.Proofs.YtommklkihjmgcaaGreatDoor.buf
open Go.Proofs.YtommklkihjmgcaaGreatDoor.fieldp
open Go.Proofs.YtommklkihjmgcaaGreatDoor.fieldw
open Go.Proofs.YtommklkihjmgcaaGreatDoorW.PrintWords
open Go.Proofs.YtommklkihjmgcaaGreatDoor.fieldl
abbrev Rst := List Int × Option Er
def tyOf (s : ByteArray) : Int := (amountR (s.extract 1 s.size).data.toList).1
def headBad (ver : Int) (s : ByteArray) : Bool := decide (((s.data.toList.headD 0).toNat : Int) ≠ ver) || !(typesL.contains (tyOf s))
def bitM (m : Nat × Nat) (no : Int) : Bool := decide ((if no ≤ 64 then m.1 / 2 ^ (64 - no).toNat else m.2 / 2 ^ (128 - no).toNat) % 2 = 1)
/-- The fields that a map tells, of the first k numbers. -/
def nosK (m : Nat × Nat) (k : Nat) : List Int := ((List.range k).map fun i : Nat => (i : Int) + 2).filter (bitM m)
def nosM (m : Nat × Nat) : List Int := nosK m 127
def noForm (out : Int) (s : Rst) (no : Int) : Rst := if formF no out = none then failM s 52 else s
def formD (code out no : Int) : Int × Int × Int := match formF no out with
 | some (k, n) => (k, n, code)
 | none => (0, 0, 0)
def amtPre (out no : Int) (t : ByteArray) : ByteArray := if no = 4 then (⟨#[48, 48]⟩ : ByteArray).extract 0 out.toNat ++ t else t
def fldStep (code out : Int) (st : Rst × Flds) (no : Int) : Rst × Flds :=
 ((takeM st.1 (formD code out no).1 (formD code out no).2.1 (formD code out no).2.2 no).2, st.2 ++ [(no, amtPre out no (takeM st.1 (formD code out no).1 (formD code out no).2.1 (formD code out no).2.2 no).1)])
/-- Head: type, state. -/
def decHead (code ver : Int) (l : List Int) : Int × Rst :=
 let r := takeM (l, none) 1 4 code 0
 match r.2.2 with
 | some _ => (0, r.2)
 | none => (tyOf r.1, if headBad ver r.1 then failM r.2 51 else r.2)
/-- The map: its halves, state. -/
def decMap (code : Int) (s : Rst) : (Nat × Nat) × Rst :=
 let r := takeM s 4 8 code 0
 if numH r.1.data.toList / 9223372036854775808 = 1 then
  let q := takeM r.2 4 8 code 0
  ((numH r.1.data.toList, numH q.1.data.toList), if numH q.1.data.toList = 0 then failM q.2 53 else q.2)
 else ((numH r.1.data.toList, 0), r.2)
def decFin (ty : Int) (st : Rst × Flds) : (Int × Flds) × Option Er :=
 match (if 0 < st.1.1.length then failM st.1 54 else st.1).2 with
 | some e => ((0, []), some e)
 | none => ((ty, st.2), none)
/-- What decode answers. -/
def decM (code ver out : Int) (l : List Int) : (Int × Flds) × Option Er :=
 let h := decHead code ver l
 let m := decMap code h.2
 decFin h.1 ((nosM m.1).foldl (fldStep code out) ((nosM m.1).foldl (noForm out) m.2, []))
theorem takeM_text {s : Rst} {k n c no : Int} : (takeM s k n c no).1 = ⟨#[]⟩ ∨ checkR k n c (takeM s k n c no).1.data.toList = 0 := by
 unfold takeM
 cases s.2 with
 | some e => exact .inl rfl
 | none =>
  simp only
  by_cases h : (takeR s.1 k n c).2.2 = 0
  ·rw [if_pos h]; exact .inr (takeR_zero h).1
  ·rw [if_neg h]; exact .inl rfl
theorem takeM_none {s : Rst} {k n c no : Int} (h : (takeM s k n c no).2.2 = none) : checkR k n c (takeM s k n c no).1.data.toList = 0 := by
 unfold takeM at h ⊢
 cases hs : s.2 with
 | some e => rw [hs] at h; simp only at h; rw [hs] at h; cases h
 | none =>
  rw [hs] at h
  simp only at h ⊢
  by_cases h2 : (takeR s.1 k n c).2.2 = 0
  ·rw [if_pos h2]; exact (takeR_zero h2).1
  ·rw [if_neg h2] at h; cases h
theorem checkR_right {k n c : Int} {l : List UInt8} (h : checkR k n c l = 0) : rightB k n l = true := by
 cases hr : rightB k n l with
 | true => rfl
 | false =>
  exfalso
  unfold checkR at h
  rw [hr] at h
  cases hm : mayB k n c <;> rw [hm] at h <;> exact absurd h (by decide)
theorem hex_text {s : Rst} {c no : Int} : (takeM s 4 8 c no).1.data.toList.all (inRow hexL) = true ∧ (takeM s 4 8 c no).1.size ≤ 16 := by
 rcases takeM_text (s := s) (k := 4) (n := 8) (c := c) (no := no) with h | h
 ·rw [h]; exact ⟨rfl, by decide⟩
 ·obtain ⟨h1, h2⟩ := ofB_all (show ofB _ hexL (2 * 8) = true from checkR_right h)
  refine ⟨h1, ?_⟩
  have : (takeM s 4 8 c no).1.data.toList.length = (takeM s 4 8 c no).1.size := by simp
  omega
theorem head_text {s : Rst} {c no : Int} (h : (takeM s 1 4 c no).2.2 = none) : (takeM s 1 4 c no).1.size = 4 := by
 obtain ⟨h1, h2⟩ := ofB_all (show ofB _ tenL 4 = true from checkR_right (takeM_none h))
 have : (takeM s 1 4 c no).1.data.toList.length = (takeM s 1 4 c no).1.size := by simp
 omega
theorem nosK_succ (m : Nat × Nat) (k : Nat) : nosK m (k + 1) = nosK m k ++ (if bitM m ((k : Int) + 2) then [(k : Int) + 2] else []) := by
 unfold nosK
 rw [List.range_succ, List.map_append, List.filter_append]
 congr 1
 simp only [List.map_cons, List.map_nil]
 cases h : bitM m ((k : Int) + 2) <;> simp [h]
theorem nosK_len (m : Nat × Nat) (k : Nat) : (nosK m k).length ≤ k := by
 unfold nosK
 exact Nat.le_trans (List.length_filter_le _ _) (by simp)
theorem nosK_mem {m : Nat × Nat} {k : Nat} {no : Int} (h : no ∈ nosK m k) : 2 ≤ no ∧ no ≤ (k : Int) + 1 := by
 unfold nosK at h
 obtain ⟨h1, _⟩ := List.mem_filter.1 h
 obtain ⟨i, hi, rfl⟩ := List.mem_map.1 h1
 have := List.mem_range.1 hi
 omega
theorem RdAt.regrow {W W' : World} {S S' : Nat → Prop} {b : Nat} {l : List Int} {e : Option Er} (h : RdAt W S b l e) (_hs : W.heap.size ≤ W'.heap.size) (hm : ∀ k, k < W.heap.size → ¬ S k ∨ k = b → W'.heap[k]? = W.heap[k]?) (hS : ∀ k, S' k → S k ∨ W.heap.size ≤ k) (hlt : ∀ k, S' k → k < W'.heap.size) (hSb : S' b) : RdAt W' S' b l e := by
 have hbb := h.lt
 obtain ⟨v, ev, hk, hv, ⟨he, hne⟩, _, _⟩ := h
 have hV0 := Kd.V_step (Kd.V_bound hv) (w1 := W') (fun k hk h2 => hm k h2 (.inl hk.1))
 have hV := Kd.V_mono hV0 (ok' := fun k => ¬ S' k) (fun k hk hs => by
  rcases hS k hs with h1 | h1
  ·exact hk.1 h1
  ·exact absurd hk.2 (by omega))
 have hE : ∀ t c, ev = .iface t (.pointer (some ⟨c, 0, none⟩)) → ¬ S' c := by
  intro t c hc hs
  rcases hS c hs with h1 | h1
  ·exact hne t c hc h1
  ·cases e with
   | none => obtain rfl : ev = .nilIface := he; cases hc
   | some er =>
    cases er with
    | plain n => have h2 : ev = _ := he; rw [h2] at hc; simp at hc
    | field no n =>
     obtain ⟨b2, h2, h3⟩ := he
     rw [h2] at hc
     simp at hc
     obtain ⟨_, rfl⟩ := hc
     exact absurd (Array.getElem?_eq_some_iff.1 h3).1 (by omega)
 exact ⟨v, ev, (hm b hbb (.inr rfl)).trans hk, hV, ⟨he.step hne (fun k h1 h2 => hm k h1 (.inl h2)), hE⟩, hSb, hlt⟩
/-- decode's state: its parameters, its result's place, the reader, the message that it makes. -/
structure DS (w W : World) (code ver out ty : Int) (fv : Value) (S : Nat → Prop) (s : Rst) : Prop where
 below : Below w.heap.size w W
 dial : W.heap[w.heap.size]? = some (.cells #[.int .i64 code, .int .u8 ver, .int .i64 out] 56 (0, 0))
 res : W.heap[w.heap.size + 1]? = some (.cells #[.int .i64 0, .slice none 0 0] 24 (0, 0))
 rd : RdAt W S (w.heap.size + 2) s.1 s.2
 m : W.heap[w.heap.size + 3]? = some (.cells #[.int .i64 ty, fv] 24 (0, 0))
section
variable {w W W' : World} {code ver out ty : Int} {fv : Value} {S : Nat → Prop} {s : Rst}
theorem DS.sz (h : DS w W code ver out ty fv S s) : w.heap.size + 4 ≤ W.heap.size := (Array.getElem?_eq_some_iff.1 h.m).1
theorem DS.to (h : DS w W code ver out ty fv S s) (hb : Below W.heap.size W W') : DS w W' code ver out ty fv S s := by
 have := h.sz
 exact ⟨h.below.trans (hb.mono h.below.size), (hb.block _ (by omega)).trans h.dial, (hb.block _ (by omega)).trans h.res, h.rd.below hb, (hb.block _ (by omega)).trans h.m⟩
/-- The reader has turned. -/
theorem DS.turn {s' : Rst} (h : DS w W code ver out ty fv S s) (t : Turn [w.heap.size + 2] W W') (hr : RdAt W' S (w.heap.size + 2) s'.1 s'.2) : DS w W' code ver out ty fv S s' := by
 have := h.sz
 have hk : ∀ k, k < W.heap.size → k ≠ w.heap.size + 2 → W'.heap[k]? = W.heap[k]? := fun k h1 h2 => t.block k h1 (by simpa using h2)
 refine ⟨?_, (hk _ (by omega) (by omega)).trans h.dial, (hk _ (by omega) (by omega)).trans h.res, hr, (hk _ (by omega) (by omega)).trans h.m⟩
 exact ⟨t.os.trans h.below.os, t.tape.trans h.below.tape, t.output.trans h.below.output, Nat.le_trans h.below.size t.size, fun k hk2 => (hk k (by omega) (by omega)).trans (h.below.block k hk2)⟩
theorem DS.more {S' : Nat → Prop} (h : DS w W code ver out ty fv S s) (hb : Below W.heap.size W W') (hS : ∀ k, S' k → S k ∨ W.heap.size ≤ k) (hlt : ∀ k, S' k → k < W'.heap.size) (hSb : S' (w.heap.size + 2)) : DS w W' code ver out ty fv S' s := by
 have h2 := h.to hb
 exact ⟨h2.below, h2.dial, h2.res, h.rd.grow hb hS hlt hSb, h2.m⟩
theorem DS.grown {S' : Nat → Prop} (h : DS w W code ver out ty fv S s) (hb : Below (w.heap.size + 4) W W') (hm : ∀ k, k < W.heap.size → ¬ S k → W'.heap[k]? = W.heap[k]?) (hS : ∀ k, S' k → S k ∨ W.heap.size ≤ k) (hlt : ∀ k, S' k → k < W'.heap.size) (hSb : S' (w.heap.size + 2)) : DS w W' code ver out ty fv S' s := by
 have := h.sz
 exact ⟨h.below.trans (hb.mono (by omega)), (hb.block _ (by omega)).trans h.dial, (hb.block _ (by omega)).trans h.res, h.rd.regrow hb.size (fun k hk hk2 => by
  rcases hk2 with h1 | h1
  ·exact hm k hk h1
  ·exact hb.block k (by omega)) hS hlt hSb, (hb.block _ (by omega)).trans h.m⟩
/-- A store into a block beside, that others may write. -/
theorem DS.set (h : DS w W code ver out ty fv S s) {q : Nat} (hq : S q) (hne : w.heap.size + 4 ≤ q) (j : Nat) (u : Value) : DS w (W.setCell ⟨q, j, none⟩ u) code ver out ty fv S s := by
 have hk : ∀ k, k ≠ q → (W.setCell ⟨q, j, none⟩ u).heap[k]? = W.heap[k]? := fun k hk => Below.heap_setCell W ⟨q, j, none⟩ u k hk
 exact ⟨h.below.setCell (by show w.heap.size ≤ q; omega) _, (hk _ (by omega)).trans h.dial, (hk _ (by omega)).trans h.res, h.rd.set hq (by omega) j _, (hk _ (by omega)).trans h.m⟩
theorem DS.setTy (h : DS w W code ver out ty fv S s) (hS : S (w.heap.size + 3)) (n : Int) : DS w (W.setCell ⟨w.heap.size + 3, 0, none⟩ (.int .i64 n)) code ver out n fv S s := by
 have hk : ∀ k, k ≠ w.heap.size + 3 → (W.setCell ⟨w.heap.size + 3, 0, none⟩ (.int .i64 n)).heap[k]? = W.heap[k]? := fun k hk => Below.heap_setCell W ⟨w.heap.size + 3, 0, none⟩ (.int .i64 n) k hk
 exact ⟨h.below.setCell (by show w.heap.size ≤ w.heap.size + 3; omega) _, (hk _ (by omega)).trans h.dial, (hk _ (by omega)).trans h.res, h.rd.set hS (by omega) 0 _, blk_set h.m 0 _⟩
theorem DS.setF (h : DS w W code ver out ty fv S s) (hS : S (w.heap.size + 3)) (u : Value) : DS w (W.setCell ⟨w.heap.size + 3, 1, none⟩ u) code ver out ty u S s := by
 have hk : ∀ k, k ≠ w.heap.size + 3 → (W.setCell ⟨w.heap.size + 3, 1, none⟩ u).heap[k]? = W.heap[k]? := fun k hk => Below.heap_setCell W ⟨w.heap.size + 3, 1, none⟩ u k hk
 exact ⟨h.below.setCell (by show w.heap.size ≤ w.heap.size + 3; omega) _, (hk _ (by omega)).trans h.dial, (hk _ (by omega)).trans h.res, h.rd.set hS (by omega) 1 _, blk_set h.m 1 _⟩
theorem bufBlock_some {g n c q : Nat} (h : bufBlock (.slice (some ⟨g, 0, none⟩) n c) = some q) : q = g := by
 unfold bufBlock at h
 by_cases hc : c = 0
 ·simp [hc] at h
 ·simpa [hc] using h.symm
theorem DS.cells (h : DS w W code ver out ty fv S s) : (W.cell? ⟨w.heap.size, 0, none⟩ = some (.int .i64 code) ∧ W.cell? ⟨w.heap.size, 1, none⟩ = some (.int .u8 ver) ∧ W.cell? ⟨w.heap.size, 2, none⟩ = some (.int .i64 out)) ∧ W.cell? ⟨w.heap.size + 3, 0, none⟩ = some (.int .i64 ty) ∧ W.cell? ⟨w.heap.size + 3, 1, none⟩ = some fv :=
 ⟨⟨cells_at h.dial 0, cells_at h.dial 1, cells_at h.dial 2⟩, cells_at h.m 0, cells_at h.m 1⟩
/-- What a reader holds of errors, as a cell. -/
theorem DS.err (h : DS w W code ver out ty fv S s) : ∃ ev, W.cell? ⟨w.heap.size + 2, 1, none⟩ = some ev ∧ ErrAt W ev s.2 := by
 obtain ⟨v, ev, hk, hv, he, _⟩ := h.rd
 exact ⟨ev, cells_at hk 1, he.1⟩
end
theorem decMap_lt (code : Int) (s : Rst) : (decMap code s).1.1 < 18446744073709551616 ∧ (decMap code s).1.2 < 18446744073709551616 := by
 have hlt : ∀ s : Rst, numH (takeM s 4 8 code 0).1.data.toList < 18446744073709551616 := by
  intro s
  obtain ⟨h1, h2⟩ := hex_text (s := s) (c := code) (no := 0)
  exact Nat.lt_of_lt_of_le (numH_lt h1) (Nat.pow_le_pow_right (by decide) (by rw [size_list]; exact h2) : (16 : Nat) ^ _ ≤ 16 ^ 16)
 unfold decMap
 simp only
 split
 ·exact ⟨hlt _, hlt _⟩
 ·exact ⟨hlt _, (by decide : (0 : Nat) < 18446744073709551616)⟩
theorem bit_test (p e : Nat) (hp : p < 18446744073709551616) : (bits BinOp.and IntKind.u64 ((p : Int) / 2 ^ e) 1 == 0) = !decide (p / 2 ^ e % 2 = 1) := by
 have h1 : (p : Int) / 2 ^ e = ((p / 2 ^ e : Nat) : Int) := by simp
 have h2 : p / 2 ^ e < 18446744073709551616 := Nat.lt_of_le_of_lt (Nat.div_le_self _ _) hp
 have h3 : (1 : Int) = ((1 : Nat) : Int) := rfl
 rw [h1, h3, bits_and_u64_nat _ _ h2 (by decide), Nat.and_one_is_mod]
 have h4 : p / 2 ^ e % 2 = 0 ∨ p / 2 ^ e % 2 = 1 := by omega
 rcases h4 with h | h <;> rw [h] <;> rfl
theorem info64 : (Tryz.prog.info? 3).map (fun i => (i.zero, i.size, i.bytes)) = some (some (.int .i64 0), 1, 8) := by kernel_rfl
theorem ErrAt.far2 {w : World} {b : Nat} {x : Value} {e : Option Er} {cs : Array Value} {t : TypeId} (h : ErrAt w x e) (hk : w.heap[b]? = some (.cells cs t (0, 0))) (ht : t ≠ 89) (j : Nat) (u : Value) : ErrAt (w.setCell ⟨b, j, none⟩ u) x e := by
 cases e with
 | none => exact h
 | some er =>
  cases er with
  | plain n => exact h
  | field no n =>
   obtain ⟨c, e, hc⟩ := h
   refine ⟨c, e, ?_⟩
   have hne : c ≠ b := by
    rintro rfl
    rw [hk] at hc
    simp only [Option.some.injEq, Obj.cells.injEq] at hc
    exact ht hc.2.1
   exact (Below.heap_setCell w ⟨b, j, none⟩ u c hne).trans hc
end Go.Proofs.YtommklkihjmgcaaGreatDoor.msgw
namespace Go.Proofs.YtommklkihjmgcaaGreatDoor.msgw
open Go.RowKit
open Go.Proofs.YtommklkihjmgcaaGreatDoor.msgp
open Go.Proofs.YtommklkihjmgcaaGreatDoor.buf
open Go.Proofs.YtommklkihjmgcaaGreatDoor.fieldp
open Go.Proofs.YtommklkihjmgcaaGreatDoor.fieldw
open Go.Proofs.YtommklkihjmgcaaGreatDoorW.PrintWords
open Go.Proofs.YtommklkihjmgcaaGreatDoorW.PrintMore
open Go.Proofs.YtommklkihjmgcaaGreatDoor.fieldl
set_option maxHeartbeats 8000000 in
set_option maxRecDepth 100000 in
theorem decode_any {w : World} {bv : Value} {l : List Int} {ok : Nat → Prop} (hV : Kd.V (Kd.int .u8) 5 w 0 ok bv l) (hT : Tabs5 w) (code ver out : Int) (hc : 1 ≤ code ∧ code ≤ 3) (hv : 48 ≤ ver ∧ ver ≤ 57) (ho : out = 0 ∨ out = 2) :
  Calls Tryz.prog 36 #[.agg #[.int .i64 code, .int .u8 ver, .int .i64 out], bv] w fun e w' => ∃ fv ev, e = .returned (.tuple #[.agg #[.int .i64 (decM code ver out l).1.1, fv], ev]) ∧ FBuf w.heap.size w' fv (decM code ver out l).1.2 ∧ ErrAt w' ev (decM code ver out l).2 ∧ Below w.heap.size w w' := by
 obtain ⟨B, eB⟩ : ∃ n, w.heap.size = n := ⟨_, rfl⟩
 obtain ⟨w0, e0⟩ : ∃ W, (((w.alloc (.cells #[.int .i64 code, .int .u8 ver, .int .i64 out] 56)).alloc (.cells #[.int .i64 0, .slice none 0 0] 24)).alloc (.cells #[bv, .nilIface] 100)).alloc (.cells #[.int .i64 0, .slice none 0 0] 24) = W := ⟨_, rfl⟩
 have b0 : Below w.heap.size w w0 := by rw [← e0]; exact ((((Below.refl _ _).alloc (Nat.le_refl _) _).alloc (by simp) _).alloc (by simp; omega) _).alloc (by simp; omega) _
 have s0 : w0.heap.size = B + 4 := by rw [← e0, ← eB]; simp
 have kd : w0.heap[B]? = some (.cells #[.int .i64 code, .int .u8 ver, .int .i64 out] 56 (0, 0)) := by
  rw [← e0, ← eB, Below.heap_alloc _ _ _ (by simp; omega), Below.heap_alloc _ _ _ (by simp; omega), Below.heap_alloc _ _ _ (by simp)]
  exact heap_alloc_last _ _
 have kz : w0.heap[B + 1]? = some (.cells #[.int .i64 0, .slice none 0 0] 24 (0, 0)) := by
  rw [← e0, ← eB, Below.heap_alloc _ _ _ (by simp), Below.heap_alloc _ _ _ (by simp)]
  exact box_row2 _ _ _ _ _
 have kr : w0.heap[B + 2]? = some (.cells #[bv, .nilIface] 100 (0, 0)) := by
  rw [← e0, ← eB, Below.heap_alloc _ _ _ (by simp)]
  have := heap_alloc_last ((w.alloc (.cells #[.int .i64 code, .int .u8 ver, .int .i64 out] 56)).alloc (.cells #[.int .i64 0, .slice none 0 0] 24)) (.cells #[bv, .nilIface] 100)
  simpa using this
 have km : w0.heap[B + 3]? = some (.cells #[.int .i64 0, .slice none 0 0] 24 (0, 0)) := by
  rw [← e0, ← eB]
  have := heap_alloc_last (((w.alloc (.cells #[.int .i64 code, .int .u8 ver, .int .i64 out] 56)).alloc (.cells #[.int .i64 0, .slice none 0 0] 24)).alloc (.cells #[bv, .nilIface] 100)) (.cells #[.int .i64 0, .slice none 0 0] 24)
  simpa using this
 have hrd : RdAt w0 (fun k => B ≤ k ∧ k < B + 4) (B + 2) l none := ⟨bv, .nilIface, kr, Kd.V_mono (Kd.V_below (Kd.V_bound hV) b0) (fun k hk hs => by have := hk.2; omega), ⟨rfl, fun t c h => by simp at h⟩, by omega, fun k hk => by omega⟩
 have HRD := Lib.hid hrd
 have HTV := Lib.hid hT
 have HB0 := Lib.hid b0
 have KD := Lib.hid kd
 have KZ := Lib.hid kz
 have KM := Lib.hid km
 have S0 := Lib.hid s0
 have EB := Lib.hid eB
 have E0 := Lib.hid e0
 have HCO := Lib.hid hc
 have HVE := Lib.hid hv
 have HO := Lib.hid ho
 have d0 : w0.cell? ⟨B, 0, none⟩ = some (.int .i64 code) := cells_at kd 0
 obtain ⟨A, cc, rfl⟩ := Kd.V_slice hV
 rw [← e0] at d0
 clear hrd hT hV b0 kd kz kr km s0 hc hv ho e0
 subst eB
 go_enter Tryz.func36, Tryz.ntmps36
 go_wp2_with fail
 rw [E0.out]
 refine (take_rd HRD.out 1 4 code 0).mono ?_
 rintro e w1 ⟨rfl, hr1, t1⟩
 have ds0 : DS w w0 code ver out 0 (.slice none 0 0) (fun k => w.heap.size ≤ k ∧ k < w.heap.size + 4) (l, none) := ⟨HB0.out, KD.out, KZ.out, HRD.out, KM.out⟩
 have DS1 := Lib.hid (ds0.turn t1 hr1)
 obtain ⟨r, hr⟩ : ∃ r, takeM (l, none) 1 4 code 0 = r := ⟨_, rfl⟩
 rw [hr] at DS1 ⊢
 have HR0 := Lib.hid hr
 obtain ⟨ev, ce, hev⟩ := DS1.out.err
 obtain ⟨⟨c0, c1, c2⟩, m0, m1⟩ := DS1.out.cells
 have zm := frozen_at DS1.out.m 0
 have HH4 := Lib.hid (show r.2.2 = none → r.1.size = 4 from fun h => by rw [← hr] at h ⊢; exact head_text h)
 have HDH := Lib.hid (show decHead code ver l = (match r.2.2 with | some _ => (0, r.2) | none => (tyOf r.1, if headBad ver r.1 then failM r.2 51 else r.2)) by unfold decHead; rw [hr]; try rfl)
 clear hr1 t1 ds0 hr d0 HRD KD KZ KM
 obtain ⟨hd, st⟩ := r
 obtain ⟨l1, e1⟩ := st
 have HEV := Lib.hid hev
 clear hev
 go_upto_region 4 with fail
 go_cut [31] (fun s wx => s = .bool e1.isNone ∧ wx = w1)
 case first =>
  have hev := HEV.out
  cases e1 with
  | some er =>
   obtain ⟨tt, xx, rfl⟩ := iface_of hev
   clear hev
   go_wp2_with fail
   go_meet
   exact ⟨rfl, rfl⟩
  | none =>
   obtain rfl : ev = .nilIface := hev
   go_wp2_with fail
   go_meet
   exact ⟨rfl, rfl⟩
 case rest =>
  obtain ⟨rfl, rfl⟩ := hcut
  go_upto_if 31 with fail
  go_cut [] (fun wx => DS w wx code ver out (decHead code ver l).1 (.slice none 0 0) (fun k => w.heap.size ≤ k ∧ k < w.heap.size + 4) (decHead code ver l).2)
  case first =>
   cases e1 with
   | some er =>
    have hb : Option.isNone (some er) = false := rfl
    go_wp2_with fail
    go_meet
    rw [HDH.out]
    exact DS1.out
   | none =>
    have hb : Option.isNone (none : Option Er) = true := rfl
    have h4 := HH4.out rfl
    have HA := Lib.hid (fun W => amount_any (hd.extract 1 4) W (by rw [ByteArray.size_extract]; omega))
    obtain ⟨T, eT⟩ : ∃ T, tyOf hd = T := ⟨_, rfl⟩
    have hty : (amountR (hd.extract 1 4).data.toList).1 = T := by rw [← eT]; unfold tyOf; rw [h4]
    rw [hty] at HA
    have HTT := Lib.hid eT
    clear hty eT
    go_wp2_with fail
    refine (HA.out _).mono ?_
    rintro e w2 ⟨rfl, rfl⟩
    have ds2 := DS1.out.setTy (by omega) T
    have HCT := Lib.hid (fun n => contains_types ((HTV.out.below (ds2.below.trans ((drewN_base _ n).mono ds2.below.size))).tabs) T)
    have DS2 := Lib.hid ds2
    obtain ⟨⟨c0, c1, c2⟩, m0, m1⟩ := ds2.cells
    have h0 : 0 < hd.size := by omega
    clear ds2
    have HHB := Lib.hid (show headBad ver hd = (decide ((hd[0].toNat : Int) ≠ ver) || !(typesL.contains T)) by
     unfold headBad
     rw [HTT.out]
     have e1 : hd.data.toList.headD 0 = hd[0] := by
      cases e : hd.data.toList with
      | nil => exfalso; have h5 : hd.data.toList.length = 0 := by rw [e]; rfl
               rw [size_list] at h5
               omega
      | cons c r => simp [ByteArray.getElem_eq_getElem_data, ← Array.getElem_toList, e]
     rw [e1])
    go_wp2_with fail
    by_cases hv1 : (hd[0].toNat : Int) = ver
    ·have hne : ((hd[0].toNat : Int) != ver) = false := by simpa using hv1
     have HV1 := Lib.hid hv1
     clear hv1
     cases hct : typesL.contains T with
     | true =>
      rw [hct] at HCT
      go_quiet (first | (refine (HCT.out _).mono ?_; rintro e w3 ⟨rfl, rfl⟩; exact ⟨rfl, _, rfl⟩))
      go_wp2_with fail
      go_meet
      have hdh := HDH.out
      rw [HTT.out, HHB.out, hct, show decide ((hd[0].toNat : Int) ≠ ver) = false by simpa using HV1.out] at hdh
      rw [hdh]
      exact DS2.out.to (drewN_base _ _)
     | false =>
      rw [hct] at HCT
      go_quiet (first | (refine (HCT.out _).mono ?_; rintro e w3 ⟨rfl, rfl⟩; exact ⟨rfl, _, rfl⟩))
      have DS3 := Lib.hid (DS2.out.to (drewN_base _ nq))
      go_wp2_with fail
      refine (fail_rd DS3.out.rd 51).mono ?_
      rintro e w4 ⟨rfl, hr4, t4⟩
      have DS4 := Lib.hid (DS3.out.turn t4 hr4)
      clear hr4 t4
      go_wp2_with fail
      go_meet
      have hdh := HDH.out
      rw [HTT.out, HHB.out, hct, Bool.not_false, Bool.or_true] at hdh
      rw [hdh]
      exact DS4.out
    ·have hne : ((hd[0].toNat : Int) != ver) = true := by simpa using hv1
     have HV1 := Lib.hid hv1
     clear hv1
     go_quiet (fail)
     have DS3 := Lib.hid (DS2.out.to (drewN_base _ nq))
     go_wp2_with fail
     refine (fail_rd DS3.out.rd 51).mono ?_
     rintro e w4 ⟨rfl, hr4, t4⟩
     have DS4 := Lib.hid (DS3.out.turn t4 hr4)
     clear hr4 t4
     go_wp2_with fail
     go_meet
     have hdh := HDH.out
     rw [HTT.out, HHB.out, show decide ((hd[0].toNat : Int) ≠ ver) = true by simpa using HV1.out, Bool.true_or] at hdh
     rw [hdh]
     exact DS4.out
  case rest =>
   have DH := Lib.hid hcut
   obtain ⟨⟨ty1, s1⟩, eh⟩ : ∃ x, decHead code ver l = x := ⟨_, rfl⟩
   rw [eh] at DH
   have HEH := Lib.hid eh
   clear hcut eh HDH HH4 HEV HR0 DS1 E0 HB0 S0 ce c0 c1 c2 m0 m1 zm
   obtain ⟨⟨c0, c1, c2⟩, m0, m1⟩ := DH.out.cells
   go_wp2_with fail
   refine (bits_any code ver out).mono ?_
   rintro e x1 ⟨rfl, b1⟩
   have DH1 := Lib.hid (DH.out.to b1)
   clear b1
   go_wp2_with fail
   refine (take_rd DH1.out.rd 4 8 code 0).mono ?_
   rintro e x2 ⟨rfl, hr2, t2⟩
   have DH2 := Lib.hid (DH1.out.turn t2 hr2)
   obtain ⟨hx1, hx2⟩ := hex_text (s := (s1.1, s1.2)) (c := code) (no := 0)
   have HN0 := Lib.hid (fun W => number_any (w := W) _ hx1 hx2)
   have HLT0 := Lib.hid (Nat.lt_of_lt_of_le (numH_lt hx1) (Nat.pow_le_pow_right (by decide) (by rw [size_list]; exact hx2) : (16 : Nat) ^ _ ≤ 16 ^ 16))
   obtain ⟨q, hq⟩ : ∃ q, takeM (s1.1, s1.2) 4 8 code 0 = q := ⟨_, rfl⟩
   rw [hq] at DH2 HN0 HLT0 ⊢
   have HQ := Lib.hid (show takeM s1 4 8 code 0 = q from hq)
   clear hr2 t2 hx1 hx2 hq
   go_wp2_with fail
   refine (HN0.out _).mono ?_
   rintro e x3 ⟨rfl, rfl⟩
   obtain ⟨n0, en0⟩ : ∃ n, numH q.1.data.toList = n := ⟨_, rfl⟩
   rw [en0] at HLT0 ⊢
   have HEN := Lib.hid en0
   clear en0 HN0
   obtain ⟨P, eP⟩ : ∃ n, x3.heap.size = n := ⟨_, rfl⟩
   obtain ⟨w5, e5⟩ : ∃ W, x3.alloc (.cells #[.int .u64 n0, .int .u64 0] 85) = W := ⟨_, rfl⟩
   have k5 : w5.heap[P]? = some (.cells #[.int .u64 n0, .int .u64 0] 85 (0, 0)) := by rw [← e5, ← eP]; exact heap_alloc_last _ _
   have b5 : Below x3.heap.size x3 w5 := by rw [← e5]; exact (Below.refl _ _).alloc (Nat.le_refl _) _
   have HLP := Lib.hid (show w.heap.size + 4 ≤ P from eP ▸ DH2.out.sz)
   have hs5 : P < w5.heap.size := (Array.getElem?_eq_some_iff.1 k5).1
   have D5 := Lib.hid (DH2.out.more (S' := fun k => (w.heap.size ≤ k ∧ k < w.heap.size + 4) ∨ k = P) b5 (fun k hk => by rcases hk with h | h; exact .inl h; exact .inr (by omega)) (fun k hk => by have := HLP.out; rcases hk with h | h <;> omega) (.inl ⟨by omega, by omega⟩))
   have g0 := cells_at k5 0
   have g1 := cells_at k5 1
   have z1 := frozen_at k5 1
   rw [← e5] at g0 g1 z1
   have HE5 := Lib.hid e5
   have K5 := Lib.hid k5
   have EP := Lib.hid eP
   have HMD := Lib.hid (show decMap code s1 = (if n0 / 9223372036854775808 = 1 then ((n0, numH (takeM q.2 4 8 code 0).1.data.toList), if numH (takeM q.2 4 8 code 0).1.data.toList = 0 then failM (takeM q.2 4 8 code 0).2 53 else (takeM q.2 4 8 code 0).2) else ((n0, 0), q.2)) by unfold decMap; rw [HQ.out]; simp only; rw [HEN.out])
   clear e5 k5 b5 hs5 HEN DH2 HQ DH1 DH m0 m1 c0 c1 c2
   subst eP
   go_upto_if 62 with fail
   rw [HE5.out] at g0 g1 z1 ⊢
   go_cut [] (fun wx => DS w wx code ver out ty1 (.slice none 0 0) (fun k => (w.heap.size ≤ k ∧ k < w.heap.size + 4) ∨ k = x3.heap.size) (decMap code s1).2 ∧ wx.heap[x3.heap.size]? = some (.cells #[.int .u64 ((decMap code s1).1.1 : Nat), .int .u64 ((decMap code s1).1.2 : Nat)] 85 (0, 0)))
   case first =>
    obtain ⟨⟨c0, c1, c2⟩, m0, m1⟩ := D5.out.cells
    by_cases hb : n0 / 9223372036854775808 = 1
    ·have hbb : ((n0 : Int) / 9223372036854775808 == 1) = true := by rw [beq_iff_eq]; omega
     have HBT := Lib.hid hb
     clear hb
     go_wp2_with fail
     refine (bits_any code ver out).mono ?_
     rintro e y1 ⟨rfl, b1⟩
     have D6 := Lib.hid (D5.out.to b1)
     have K6 := Lib.hid ((b1.block _ (Array.getElem?_eq_some_iff.1 K5.out).1).trans K5.out)
     clear b1
     go_wp2_with fail
     refine (take_rd D6.out.rd 4 8 code 0).mono ?_
     rintro e y2 ⟨rfl, hr2, t2⟩
     have D7 := Lib.hid (D6.out.turn t2 hr2)
     have K7 := Lib.hid ((t2.block _ (Array.getElem?_eq_some_iff.1 K6.out).1 (by have := HLP.out; simp; omega)).trans K6.out)
     obtain ⟨hx1, hx2⟩ := hex_text (s := (q.2.1, q.2.2)) (c := code) (no := 0)
     have HN1 := Lib.hid (fun W => number_any (w := W) _ hx1 hx2)
     obtain ⟨q2, hq2⟩ : ∃ q2, takeM (q.2.1, q.2.2) 4 8 code 0 = q2 := ⟨_, rfl⟩
     have hq2' : takeM q.2 4 8 code 0 = q2 := hq2
     rw [hq2] at D7 HN1 ⊢
     have HMD2 := Lib.hid (show decMap code s1 = ((n0, numH q2.1.data.toList), if numH q2.1.data.toList = 0 then failM q2.2 53 else q2.2) by rw [HMD.out, if_pos HBT.out, hq2'])
     clear hr2 t2 hx1 hx2 hq2 hq2' g0 g1 z1
     have g1 := cells_at K7.out 1
     have z1 := frozen_at K7.out 1
     go_wp2_with fail
     refine (HN1.out _).mono ?_
     rintro e y3 ⟨rfl, rfl⟩
     obtain ⟨n1, en1⟩ : ∃ n, numH q2.1.data.toList = n := ⟨_, rfl⟩
     rw [en1] at HMD2 ⊢
     clear en1 HN1
     have D8 := Lib.hid (D7.out.set (q := x3.heap.size) (.inr rfl) HLP.out 1 (.int .u64 (n1 : Int)))
     have K8 := Lib.hid (blk_set K7.out 1 (.int .u64 (n1 : Int)))
     by_cases h1 : n1 = 0
     ·have hzz : (((n1 : Nat) : Int) == 0) = true := by simpa using h1
      have HZ := Lib.hid h1
      clear h1
      go_wp2_with fail
      refine (fail_rd D8.out.rd 53).mono ?_
      rintro e y4 ⟨rfl, hr4, t4⟩
      have D9 := Lib.hid (D8.out.turn t4 hr4)
      have K9 := Lib.hid ((t4.block _ (Array.getElem?_eq_some_iff.1 K8.out).1 (by have := HLP.out; simp; omega)).trans K8.out)
      clear hr4 t4
      go_wp2_with fail
      go_meet
      rw [HMD2.out, if_pos HZ.out]
      exact ⟨D9.out, K9.out⟩
     ·have hzz : (((n1 : Nat) : Int) == 0) = false := by simpa using h1
      have HZ := Lib.hid h1
      clear h1
      go_wp2_with fail
      go_meet
      rw [HMD2.out, if_neg HZ.out]
      exact ⟨D8.out, K8.out⟩
    ·have hbb : ((n0 : Int) / 9223372036854775808 == 1) = false := by rw [beq_eq_false_iff_ne]; omega
     have HBT := Lib.hid hb
     clear hb
     go_wp2_with fail
     go_meet
     rw [HMD.out, if_neg HBT.out]
     exact ⟨D5.out, K5.out⟩
   case rest =>
    obtain ⟨hds, hkp⟩ := hcut
    obtain ⟨P, eP⟩ : ∃ n, x3.heap.size = n := ⟨_, rfl⟩
    rw [eP] at hds hkp HLP
    obtain ⟨⟨⟨p0, p1⟩, s2⟩, em⟩ : ∃ x, decMap code s1 = x := ⟨_, rfl⟩
    have hbd : p0 < 18446744073709551616 ∧ p1 < 18446744073709551616 := by
     have := decMap_lt code s1
     rw [em] at this
     exact this
    rw [em] at hds hkp
    have HEM := Lib.hid em
    have HDS := Lib.hid hds
    have HKP := Lib.hid hkp
    have HBD := Lib.hid hbd
    have HPL := Lib.hid (show P < wc.heap.size from (Array.getElem?_eq_some_iff.1 hkp).1)
    clear hds hkp hbd em HMD D5 K5 g0 g1 z1
    go_wp2_with fail
    clear eP
    go_loopw [10, 11] (fun nv i wr => ∃ k : Nat, k ≤ 127 ∧ i = .int .i64 ((k : Int) + 2) ∧ Kd.R (Kd.int .i64) 3 wr (P + 1) (fun q => P + 1 ≤ q) nv (nosK (p0, p1) k) ∧ DS w wr code ver out ty1 (.slice none 0 0) (fun q => ((w.heap.size ≤ q ∧ q < w.heap.size + 4) ∨ q = P) ∨ nv.ownBlock = some q) ((nosK (p0, p1) k).foldl (noForm out) s2) ∧ wr.heap[P]? = some (.cells #[.int .u64 (p0 : Nat), .int .u64 (p1 : Nat)] 85 (0, 0))) (fun _ i _ => 129 - (intOf i).toNat)
    case atStart => exact ⟨0, by decide, rfl, Kd.R_nil _ _ _ _ _, HDS.out.more (Below.refl _ _) (fun q hq => by rcases hq with h | h; exact .inl h; simp [Value.ownBlock] at h) (fun q hq => by have := HPL.out; have := HLP.out; rcases hq with h | h; omega; simp [Value.ownBlock] at h) (.inl (.inl ⟨by omega, by omega⟩)), HKP.out⟩
    case round =>
     obtain ⟨k, hk, rfl, hnv, hds, hkp⟩ := hrel
     have HNV := Lib.hid hnv
     have HDSr := Lib.hid hds
     have HKPr := Lib.hid hkp
     obtain ⟨⟨c0, c1, c2⟩, m0, m1⟩ := hds.cells
     have g0 := cells_at hkp 0
     have g1 := cells_at hkp 1
     clear hnv hds hkp
     by_cases hlt : k < 127
     ·by_cases h64 : (k : Int) + 2 ≤ 64
      ·have e1 : ((k : Int) + 2 - 1).tdiv 64 = 0 := by rw [Int.tdiv_eq_ediv_of_nonneg (by omega)]; omega
       have e11 : ((k : Int) + 2 - 1) / 64 = 0 := by omega
       have hbit : (bits BinOp.and IntKind.u64 ((p0 : Int) / 2 ^ (63 - (k + 1) % 64)) 1 == 0) = !(bitM (p0, p1) ((k : Int) + 2)) := by
        rw [bit_test _ _ HBD.out.1]
        unfold bitM
        rw [if_pos h64]
        simp only
        rw [show (64 - ((k : Int) + 2)).toNat = 63 - (k + 1) % 64 by omega]
       cases hbm : bitM (p0, p1) ((k : Int) + 2) with
       | false =>
        rw [hbm] at hbit
        have HNX := Lib.hid (show nosK (p0, p1) (k + 1) = nosK (p0, p1) k by rw [nosK_succ, hbm]; simp)
        clear hbm
        go_wp2_with (simp only [hbit])
        exact ⟨⟨k + 1, by omega, by go_num, by rw [HNX.out]; exact HNV.out, by rw [HNX.out]; exact HDSr.out, HKPr.out⟩, by simp [intOf]; omega⟩
       | true =>
        rw [hbm] at hbit
        have HNX := Lib.hid (show nosK (p0, p1) (k + 1) = nosK (p0, p1) k ++ [(k : Int) + 2] by rw [nosK_succ, hbm]; simp)
        have HFO := Lib.hid (form_any ((HTV.out.below HDSr.out.below).tabs) code ver out ((k : Int) + 2) (by have := HO.out; omega))
        clear hbm
        go_wp2_with (simp only [hbit])
        refine HFO.out.mono ?_
        rintro e w3 ⟨rfl, b3⟩
        have D3 := Lib.hid (HDSr.out.to b3)
        have K3 := Lib.hid ((b3.block _ (Array.getElem?_eq_some_iff.1 HKPr.out).1).trans HKPr.out)
        have R3 := Lib.hid (Kd.R_below HNV.out b3)
        clear b3
        cases hfo : formF ((k : Int) + 2) out with
        | none =>
         have HFN := Lib.hid hfo
         clear hfo
         unfold formV
         have b4 : Below w3.heap.size w3 (w3.alloc (.cells #[.int .i64 0, .int .i64 0, .int .i64 0] 46)) := (Below.refl _ _).alloc (Nat.le_refl _) _
         have D4 := Lib.hid (D3.out.to b4)
         have K4 := Lib.hid ((b4.block _ (Array.getElem?_eq_some_iff.1 K3.out).1).trans K3.out)
         have R4 := Lib.hid (Kd.R_below R3.out b4)
         clear b4
         go_wp2_with fail
         refine (fail_rd D4.out.rd 52).mono ?_
         rintro e w5 ⟨rfl, hr5, t5⟩
         have D5 := Lib.hid (D4.out.turn t5 hr5)
         have K5 := Lib.hid ((t5.block _ (Array.getElem?_eq_some_iff.1 K4.out).1 (by have := HLP.out; simp; omega)).trans K4.out)
         have R5 := Lib.hid (Kd.R_step R4.out (w1 := w5) (fun q hq hl => t5.block q hl (by have := HLP.out; have h2 : P + 1 ≤ q := hq; simp; omega)))
         clear hr5 t5
         have DJ := Lib.hid (show DS w w5 code ver out ty1 (.slice none 0 0) (fun q => ((w.heap.size ≤ q ∧ q < w.heap.size + 4) ∨ q = P) ∨ u10.ownBlock = some q) (noForm out ((nosK (p0, p1) k).foldl (noForm out) s2) ((k : Int) + 2)) by unfold noForm; rw [if_pos HFN.out]; exact D5.out)
         have KJ := Lib.hid (show w5.heap[P]? = some (.cells #[.int .u64 (p0 : Nat), .int .u64 (p1 : Nat)] 85 (0, 0)) by exact K5.out)
         have RJ := Lib.hid (show Kd.R (Kd.int .i64) 3 w5 (P + 1) (fun q => P + 1 ≤ q) u10 (nosK (p0, p1) k) by exact R5.out)
         have SJ := Lib.hid (show P + 1 ≤ (w5).heap.size from (Array.getElem?_eq_some_iff.1 KJ.out).1)
         have LJ := Lib.hid (nosK_len (p0, p1) k)
         go_wp2_with (first
          | ((with_reducible refine gate_builtin (b := .append) (xs := #[.tmp 100, .tmp 102]) rfl ?_); at_builtin; refine Kd.R_append (Kd.int .i64) (w0 := w5) (P + 1) rfl (.tmp 100) (.tmp 102) 76 3 (.int .i64 0) 8 rfl Tryz.underlying76 info64 rfl (by decide) (by omega) u10 (nosK (p0, p1) k) ((k : Int) + 2) [.int .i64 ((k : Int) + 2)] (fun q => P + 1 ≤ q) (fun _ => False) rfl rfl ?aP (fun _ hk => hk.elim) ?aF ?aO ?aB ?aS ?aL ?_; (case aP => exact rfl); (case aF => exact fun q hq => Nat.le_trans SJ.out hq); (case aO => exact RJ.out); (case aB => exact Below.mono (Below.refl _ _) SJ.out); (case aS => exact SJ.out); (case aL => have := LJ.out; omega); intro v6 w6 ho hb hg hat; have HO6 := Lib.hid ho; have HB6 := Lib.hid hb; have HG6 := Lib.hid hg; have HA6 := Lib.hid hat; clear ho hb hg hat))
         go_roundw
         case rel =>
          refine ⟨k + 1, by omega, by go_num, by rw [HNX.out]; exact HO6.out, ?_, (HB6.out.block P (Nat.lt_succ_self P)).trans KJ.out⟩
          rw [HNX.out, List.foldl_append]
          refine DJ.out.grown (HB6.out.mono (by have := HLP.out; omega)) (fun q hq hs => HG6.out.block q hq (fun h => hs (.inr h.symm))) (fun q hq => ?_) (fun q hq => ?_) (.inl (.inl ⟨by omega, by omega⟩))
          ·rcases hq with h | h
           ·exact .inl (.inl h)
           ·rcases HA6.out with h2 | ⟨b2, h2, h3⟩
            ·exact .inl (.inr (h2 ▸ h))
            ·rw [h] at h2
             injection h2 with h2
             exact .inr (by omega)
          ·rcases hq with h | h
           ·have h1 := HB6.out.size
            have h2 := SJ.out
            have h3 := HLP.out
            omega
           ·exact ((Kd.R_bound HO6.out).1 q h).2.2.1
         case measure => simp [intOf]; omega
        | some ks =>
         obtain ⟨kk, ss⟩ := ks
         have HFN := Lib.hid hfo
         clear hfo
         unfold formV
         have b4 : Below w3.heap.size w3 (w3.alloc (.cells #[.int .i64 kk, .int .i64 ss, .int .i64 code] 46)) := (Below.refl _ _).alloc (Nat.le_refl _) _
         have D4 := Lib.hid (D3.out.to b4)
         have K4 := Lib.hid ((b4.block _ (Array.getElem?_eq_some_iff.1 K3.out).1).trans K3.out)
         have R4 := Lib.hid (Kd.R_below R3.out b4)
         clear b4
         go_upto_if 97 with fail
         obtain ⟨w5, e5⟩ : ∃ W, w3.alloc (.cells #[.int .i64 kk, .int .i64 ss, .int .i64 code] 46) = W := ⟨_, rfl⟩
         rw [e5] at D4 K4 R4 ⊢
         clear e5
         have DJ := Lib.hid (show DS w w5 code ver out ty1 (.slice none 0 0) (fun q => ((w.heap.size ≤ q ∧ q < w.heap.size + 4) ∨ q = P) ∨ u10.ownBlock = some q) (noForm out ((nosK (p0, p1) k).foldl (noForm out) s2) ((k : Int) + 2)) by unfold noForm; rw [if_neg (by rw [HFN.out]; simp)]; exact D4.out)
         have KJ := Lib.hid (show w5.heap[P]? = some (.cells #[.int .u64 (p0 : Nat), .int .u64 (p1 : Nat)] 85 (0, 0)) by exact K4.out)
         have RJ := Lib.hid (show Kd.R (Kd.int .i64) 3 w5 (P + 1) (fun q => P + 1 ≤ q) u10 (nosK (p0, p1) k) by exact R4.out)
         have SJ := Lib.hid (show P + 1 ≤ (w5).heap.size from (Array.getElem?_eq_some_iff.1 KJ.out).1)
         have LJ := Lib.hid (nosK_len (p0, p1) k)
         go_wp2_with (first
          | ((with_reducible refine gate_builtin (b := .append) (xs := #[.tmp 100, .tmp 102]) rfl ?_); at_builtin; refine Kd.R_append (Kd.int .i64) (w0 := w5) (P + 1) rfl (.tmp 100) (.tmp 102) 76 3 (.int .i64 0) 8 rfl Tryz.underlying76 info64 rfl (by decide) (by omega) u10 (nosK (p0, p1) k) ((k : Int) + 2) [.int .i64 ((k : Int) + 2)] (fun q => P + 1 ≤ q) (fun _ => False) rfl rfl ?aP (fun _ hk => hk.elim) ?aF ?aO ?aB ?aS ?aL ?_; (case aP => exact rfl); (case aF => exact fun q hq => Nat.le_trans SJ.out hq); (case aO => exact RJ.out); (case aB => exact Below.mono (Below.refl _ _) SJ.out); (case aS => exact SJ.out); (case aL => have := LJ.out; omega); intro v6 w6 ho hb hg hat; have HO6 := Lib.hid ho; have HB6 := Lib.hid hb; have HG6 := Lib.hid hg; have HA6 := Lib.hid hat; clear ho hb hg hat))
         go_roundw
         case rel =>
          refine ⟨k + 1, by omega, by go_num, by rw [HNX.out]; exact HO6.out, ?_, (HB6.out.block P (Nat.lt_succ_self P)).trans KJ.out⟩
          rw [HNX.out, List.foldl_append]
          refine DJ.out.grown (HB6.out.mono (by have := HLP.out; omega)) (fun q hq hs => HG6.out.block q hq (fun h => hs (.inr h.symm))) (fun q hq => ?_) (fun q hq => ?_) (.inl (.inl ⟨by omega, by omega⟩))
          ·rcases hq with h | h
           ·exact .inl (.inl h)
           ·rcases HA6.out with h2 | ⟨b2, h2, h3⟩
            ·exact .inl (.inr (h2 ▸ h))
            ·rw [h] at h2
             injection h2 with h2
             exact .inr (by omega)
          ·rcases hq with h | h
           ·have h1 := HB6.out.size
            have h2 := SJ.out
            have h3 := HLP.out
            omega
           ·exact ((Kd.R_bound HO6.out).1 q h).2.2.1
         case measure => simp [intOf]; omega
      ·obtain ⟨n, en⟩ : ∃ n : Int, (k : Int) + 2 = n := ⟨_, rfl⟩
       rw [en] at h64 ⊢
       have hn2 : 2 ≤ n := by omega
       have hn128 : n ≤ 128 := by omega
       have HEN := Lib.hid en
       have HLK := Lib.hid hlt
       clear en
       have e1 : (n - 1).tdiv 64 = 1 := by rw [Int.tdiv_eq_ediv_of_nonneg (by omega)]; omega
       have e11 : (n - 1) / 64 = 1 := by omega
       have hbit : (bits BinOp.and IntKind.u64 ((p1 : Int) / 2 ^ (63 - (n - 1) % 64).toNat) 1 == 0) = !(bitM (p0, p1) n) := by
        rw [bit_test _ _ HBD.out.2]
        unfold bitM
        rw [if_neg (by omega)]
        simp only
        rw [show (128 - n).toNat = (63 - (n - 1) % 64).toNat by omega]
       cases hbm : bitM (p0, p1) n with
       | false =>
        rw [hbm] at hbit
        have HNX := Lib.hid (show nosK (p0, p1) (k + 1) = nosK (p0, p1) k by rw [nosK_succ, HEN.out, hbm]; simp)
        clear hbm
        go_wp2_with (simp only [hbit])
        exact ⟨⟨k + 1, by omega, by rw [← HEN.out]; go_num, by rw [HNX.out]; exact HNV.out, by rw [HNX.out]; exact HDSr.out, HKPr.out⟩, by have := HEN.out; simp [intOf]; omega⟩
       | true =>
        rw [hbm] at hbit
        have HNX := Lib.hid (show nosK (p0, p1) (k + 1) = nosK (p0, p1) k ++ [n] by rw [nosK_succ, HEN.out, hbm]; simp)
        have HFO := Lib.hid (form_any ((HTV.out.below HDSr.out.below).tabs) code ver out n (by have := HO.out; omega))
        clear hbm
        go_wp2_with (simp only [hbit])
        refine HFO.out.mono ?_
        rintro e w3 ⟨rfl, b3⟩
        have D3 := Lib.hid (HDSr.out.to b3)
        have K3 := Lib.hid ((b3.block _ (Array.getElem?_eq_some_iff.1 HKPr.out).1).trans HKPr.out)
        have R3 := Lib.hid (Kd.R_below HNV.out b3)
        clear b3
        cases hfo : formF n out with
        | none =>
         have HFN := Lib.hid hfo
         clear hfo
         unfold formV
         have b4 : Below w3.heap.size w3 (w3.alloc (.cells #[.int .i64 0, .int .i64 0, .int .i64 0] 46)) := (Below.refl _ _).alloc (Nat.le_refl _) _
         have D4 := Lib.hid (D3.out.to b4)
         have K4 := Lib.hid ((b4.block _ (Array.getElem?_eq_some_iff.1 K3.out).1).trans K3.out)
         have R4 := Lib.hid (Kd.R_below R3.out b4)
         clear b4
         go_wp2_with fail
         refine (fail_rd D4.out.rd 52).mono ?_
         rintro e w5 ⟨rfl, hr5, t5⟩
         have D5 := Lib.hid (D4.out.turn t5 hr5)
         have K5 := Lib.hid ((t5.block _ (Array.getElem?_eq_some_iff.1 K4.out).1 (by have := HLP.out; simp; omega)).trans K4.out)
         have R5 := Lib.hid (Kd.R_step R4.out (w1 := w5) (fun q hq hl => t5.block q hl (by have := HLP.out; have h2 : P + 1 ≤ q := hq; simp; omega)))
         clear hr5 t5
         have DJ := Lib.hid (show DS w w5 code ver out ty1 (.slice none 0 0) (fun q => ((w.heap.size ≤ q ∧ q < w.heap.size + 4) ∨ q = P) ∨ u10.ownBlock = some q) (noForm out ((nosK (p0, p1) k).foldl (noForm out) s2) n) by unfold noForm; rw [if_pos HFN.out]; exact D5.out)
         have KJ := Lib.hid (show w5.heap[P]? = some (.cells #[.int .u64 (p0 : Nat), .int .u64 (p1 : Nat)] 85 (0, 0)) by exact K5.out)
         have RJ := Lib.hid (show Kd.R (Kd.int .i64) 3 w5 (P + 1) (fun q => P + 1 ≤ q) u10 (nosK (p0, p1) k) by exact R5.out)
         have SJ := Lib.hid (show P + 1 ≤ (w5).heap.size from (Array.getElem?_eq_some_iff.1 KJ.out).1)
         have LJ := Lib.hid (nosK_len (p0, p1) k)
         go_wp2_with (first
          | ((with_reducible refine gate_builtin (b := .append) (xs := #[.tmp 100, .tmp 102]) rfl ?_); at_builtin; refine Kd.R_append (Kd.int .i64) (w0 := w5) (P + 1) rfl (.tmp 100) (.tmp 102) 76 3 (.int .i64 0) 8 rfl Tryz.underlying76 info64 rfl (by decide) (by omega) u10 (nosK (p0, p1) k) n [.int .i64 n] (fun q => P + 1 ≤ q) (fun _ => False) rfl rfl ?aP (fun _ hk => hk.elim) ?aF ?aO ?aB ?aS ?aL ?_; (case aP => exact rfl); (case aF => exact fun q hq => Nat.le_trans SJ.out hq); (case aO => exact RJ.out); (case aB => exact Below.mono (Below.refl _ _) SJ.out); (case aS => exact SJ.out); (case aL => have := LJ.out; omega); intro v6 w6 ho hb hg hat; have HO6 := Lib.hid ho; have HB6 := Lib.hid hb; have HG6 := Lib.hid hg; have HA6 := Lib.hid hat; clear ho hb hg hat))
         go_roundw
         case rel =>
          refine ⟨k + 1, by omega, by rw [← HEN.out]; go_num, by rw [HNX.out]; exact HO6.out, ?_, (HB6.out.block P (Nat.lt_succ_self P)).trans KJ.out⟩
          rw [HNX.out, List.foldl_append]
          refine DJ.out.grown (HB6.out.mono (by have := HLP.out; omega)) (fun q hq hs => HG6.out.block q hq (fun h => hs (.inr h.symm))) (fun q hq => ?_) (fun q hq => ?_) (.inl (.inl ⟨by omega, by omega⟩))
          ·rcases hq with h | h
           ·exact .inl (.inl h)
           ·rcases HA6.out with h2 | ⟨b2, h2, h3⟩
            ·exact .inl (.inr (h2 ▸ h))
            ·rw [h] at h2
             injection h2 with h2
             exact .inr (by omega)
          ·rcases hq with h | h
           ·have h1 := HB6.out.size
            have h2 := SJ.out
            have h3 := HLP.out
            omega
           ·exact ((Kd.R_bound HO6.out).1 q h).2.2.1
         case measure => have := HEN.out; simp [intOf]; omega
        | some ks =>
         obtain ⟨kk, ss⟩ := ks
         have HFN := Lib.hid hfo
         clear hfo
         unfold formV
         have b4 : Below w3.heap.size w3 (w3.alloc (.cells #[.int .i64 kk, .int .i64 ss, .int .i64 code] 46)) := (Below.refl _ _).alloc (Nat.le_refl _) _
         have D4 := Lib.hid (D3.out.to b4)
         have K4 := Lib.hid ((b4.block _ (Array.getElem?_eq_some_iff.1 K3.out).1).trans K3.out)
         have R4 := Lib.hid (Kd.R_below R3.out b4)
         clear b4
         go_upto_if 97 with fail
         obtain ⟨w5, e5⟩ : ∃ W, w3.alloc (.cells #[.int .i64 kk, .int .i64 ss, .int .i64 code] 46) = W := ⟨_, rfl⟩
         rw [e5] at D4 K4 R4 ⊢
         clear e5
         have DJ := Lib.hid (show DS w w5 code ver out ty1 (.slice none 0 0) (fun q => ((w.heap.size ≤ q ∧ q < w.heap.size + 4) ∨ q = P) ∨ u10.ownBlock = some q) (noForm out ((nosK (p0, p1) k).foldl (noForm out) s2) n) by unfold noForm; rw [if_neg (by rw [HFN.out]; simp)]; exact D4.out)
         have KJ := Lib.hid (show w5.heap[P]? = some (.cells #[.int .u64 (p0 : Nat), .int .u64 (p1 : Nat)] 85 (0, 0)) by exact K4.out)
         have RJ := Lib.hid (show Kd.R (Kd.int .i64) 3 w5 (P + 1) (fun q => P + 1 ≤ q) u10 (nosK (p0, p1) k) by exact R4.out)
         have SJ := Lib.hid (show P + 1 ≤ (w5).heap.size from (Array.getElem?_eq_some_iff.1 KJ.out).1)
         have LJ := Lib.hid (nosK_len (p0, p1) k)
         go_wp2_with (first
          | ((with_reducible refine gate_builtin (b := .append) (xs := #[.tmp 100, .tmp 102]) rfl ?_); at_builtin; refine Kd.R_append (Kd.int .i64) (w0 := w5) (P + 1) rfl (.tmp 100) (.tmp 102) 76 3 (.int .i64 0) 8 rfl Tryz.underlying76 info64 rfl (by decide) (by omega) u10 (nosK (p0, p1) k) n [.int .i64 n] (fun q => P + 1 ≤ q) (fun _ => False) rfl rfl ?aP (fun _ hk => hk.elim) ?aF ?aO ?aB ?aS ?aL ?_; (case aP => exact rfl); (case aF => exact fun q hq => Nat.le_trans SJ.out hq); (case aO => exact RJ.out); (case aB => exact Below.mono (Below.refl _ _) SJ.out); (case aS => exact SJ.out); (case aL => have := LJ.out; omega); intro v6 w6 ho hb hg hat; have HO6 := Lib.hid ho; have HB6 := Lib.hid hb; have HG6 := Lib.hid hg; have HA6 := Lib.hid hat; clear ho hb hg hat))
         go_roundw
         case rel =>
          refine ⟨k + 1, by omega, by rw [← HEN.out]; go_num, by rw [HNX.out]; exact HO6.out, ?_, (HB6.out.block P (Nat.lt_succ_self P)).trans KJ.out⟩
          rw [HNX.out, List.foldl_append]
          refine DJ.out.grown (HB6.out.mono (by have := HLP.out; omega)) (fun q hq hs => HG6.out.block q hq (fun h => hs (.inr h.symm))) (fun q hq => ?_) (fun q hq => ?_) (.inl (.inl ⟨by omega, by omega⟩))
          ·rcases hq with h | h
           ·exact .inl (.inl h)
           ·rcases HA6.out with h2 | ⟨b2, h2, h3⟩
            ·exact .inl (.inr (h2 ▸ h))
            ·rw [h] at h2
             injection h2 with h2
             exact .inr (by omega)
          ·rcases hq with h | h
           ·have h1 := HB6.out.size
            have h2 := SJ.out
            have h3 := HLP.out
            omega
           ·exact ((Kd.R_bound HO6.out).1 q h).2.2.1
         case measure => have := HEN.out; simp [intOf]; omega
     ·obtain rfl : k = 127 := by omega
      rw [show (((127 : Nat) : Int) + 2) = 129 from rfl]
      have HST := Lib.hid (show nosK (p0, p1) 127 = nosM (p0, p1) from rfl)
      obtain ⟨nl, enl⟩ : ∃ x, nosK (p0, p1) 127 = x := ⟨_, rfl⟩
      rw [enl] at HNV HDSr HST
      have HNL := Lib.hid (show nl.length ≤ 127 from enl ▸ nosK_len (p0, p1) 127)
      have HNB := Lib.hid (show ∀ no ∈ nl, 2 ≤ no ∧ no ≤ 128 from fun no h => by have := nosK_mem (m := (p0, p1)) (k := 127) (no := no) (enl ▸ h); omega)
      clear enl hk hlt
      obtain ⟨NA, nc, rfl⟩ := Kd.R_slice HNV.out
      obtain ⟨s3, es3⟩ : ∃ x, nl.foldl (noForm out) s2 = x := ⟨_, rfl⟩
      rw [es3] at HDSr
      have HES := Lib.hid es3
      clear es3
      go_wp2_with fail
      obtain ⟨X, eX⟩ : ∃ n, wr.heap.size = n := ⟨_, rfl⟩
      have HXP := Lib.hid (show P < X from eX ▸ (Array.getElem?_eq_some_iff.1 HKPr.out).1)
      have HNOS := Lib.hid (Kd.R_tight rfl HNV.out)
      have HNX := Lib.hid (show ∀ q, (Value.slice NA nl.length nc).ownBlock = some q → P + 1 ≤ q ∧ q < X from fun q hq => ⟨(HNV.out.1 q hq), eX ▸ ((Kd.R_bound HNV.out).1 q hq).2.2.1⟩)
      have HEX := Lib.hid eX
      clear eX HNV g0 g1 c0 c1 c2 m0 m1
      go_loopw [106] (fun i wq => ∃ (j : Nat) (fv : Value) (st : Rst × Flds), j ≤ nl.length ∧ i = .int .i64 j ∧ (nl.take j).foldl (fldStep code out) (s3, []) = st ∧ Kd.R (Kd.int .i64) 3 wq (P + 1) (fun q => some q = (Value.slice NA nl.length nc).ownBlock) (.slice NA nl.length nc) nl ∧ DS w wq code ver out ty1 fv (fun q => (((w.heap.size ≤ q ∧ q < w.heap.size + 4) ∨ q = P) ∨ (Value.slice NA nl.length nc).ownBlock = some q) ∨ bufBlock fv = some q) st.1 ∧ FBuf X wq fv st.2 ∧ st.2.length = j ∧ X ≤ wq.heap.size) (fun i _ => 127 - (intOf i).toNat)
      case atStart => exact ⟨0, .slice none 0 0, (s3, []), Nat.zero_le _, rfl, rfl, HNOS.out, HDSr.out.more (Below.refl _ _) (fun q hq => by rcases hq with h | h; exact .inl h; simp [bufBlock] at h) (fun q hq => by rcases hq with h | h; obtain ⟨_, _, _, _, _, _, hl⟩ := HDSr.out.rd; exact hl q h; simp [bufBlock] at h) (.inl (.inl (.inl ⟨by omega, by omega⟩))), ⟨⟨rfl, .inl ⟨rfl, .inl rfl⟩⟩, fun g h => by simp [bufBlock] at h⟩, rfl, by rw [HEX.out]; exact Nat.le_refl _⟩
      case round =>
       obtain ⟨j, fv, st, hj, rfl, hst, hnos, hds, hfb, hlen, hX⟩ := hrel
       by_cases hlt : j < nl.length
       ·have hlt' : (j : Int) < nl.length := by omega
        have hj127 : (j : Int) < 127 := by have := HNL.out; omega
        obtain ⟨g, rfl⟩ : ∃ g, NA = some ⟨g, 0, none⟩ := by
         obtain ⟨ad, c', hvv⟩ := Kd.R_slice1 hnos (by omega)
         injection hvv with h1 h2 h3
         subst h1
         obtain ⟨g, rfl⟩ := Kd.R_head hnos
         exact ⟨g, rfl⟩
        have q0 := (Kd.R_celln (enc := Value.int .i64) 0 hnos (j : Int) (by omega) (by omega)).1
        have hno : rdOf 0 nl (j : Int) = nl[j] := by unfold rdOf; simp [List.getD, hlt]
        rw [hno, Int.toNat_natCast] at q0
        obtain ⟨no, eno⟩ : ∃ n, nl[j] = n := ⟨_, rfl⟩
        rw [eno] at q0
        have hnb := HNB.out no (eno ▸ List.getElem_mem hlt)
        have HST2 := Lib.hid (show (nl.take (j + 1)).foldl (fldStep code out) (s3, []) = fldStep code out st no by rw [List.take_succ_eq_append_getElem hlt, List.foldl_append, hst, eno]; rfl)
        have HNO := Lib.hid hnb
        have HNS := Lib.hid hnos
        have HD := Lib.hid hds
        have HFB := Lib.hid hfb
        have HLE := Lib.hid hlen
        have HXX := Lib.hid hX
        have HFO := Lib.hid (form_any ((HTV.out.below hds.below).tabs) code ver out no (by have := HO.out; omega))
        obtain ⟨⟨c0, c1, c2⟩, m0, m1⟩ := hds.cells
        clear hno eno hnb hst hnos hds hfb hlen hX
        go_wp2_with fail
        refine HFO.out.mono ?_
        rintro e w3 ⟨rfl, b3⟩
        have D3 := Lib.hid (HD.out.to b3)
        have N3 := Lib.hid (Kd.R_below HNS.out b3)
        have F3 := Lib.hid (HFB.out.below b3)
        have X3 := Lib.hid (Nat.le_trans HXX.out b3.size)
        clear b3
        obtain ⟨⟨fk, fs, fc⟩, efd⟩ : ∃ x, formD code out no = x := ⟨_, rfl⟩
        have hfv : ∃ bb, formV code (formF no out) = .tuple #[.agg #[.int .i64 fk, .int .i64 fs, .int .i64 fc], .bool bb] := by
         unfold formD at efd
         cases hfo : formF no out with
         | none => rw [hfo] at efd; simp only [Prod.mk.injEq] at efd; obtain ⟨rfl, rfl, rfl⟩ := efd; exact ⟨false, rfl⟩
         | some ks => obtain ⟨k1, k2⟩ := ks; rw [hfo] at efd; simp only [Prod.mk.injEq] at efd; obtain ⟨rfl, rfl, rfl⟩ := efd; exact ⟨true, rfl⟩
        obtain ⟨bb, hfv⟩ := hfv
        rw [hfv]
        have HFD := Lib.hid efd
        clear efd hfv
        have b4 : Below w3.heap.size w3 (w3.alloc (.cells #[.int .i64 fk, .int .i64 fs, .int .i64 fc] 46)) := (Below.refl _ _).alloc (Nat.le_refl _) _
        have D4 := Lib.hid (D3.out.to b4)
        have N4 := Lib.hid (Kd.R_below N3.out b4)
        have F4 := Lib.hid (F3.out.below b4)
        have X4 := Lib.hid (Nat.le_trans X3.out b4.size)
        have k4 := box_row w3 #[.int .i64 fk, .int .i64 fs, .int .i64 fc] 46
        have p0' := cells_at k4 0
        have p1' := cells_at k4 1
        have p2' := cells_at k4 2
        clear b4 k4 q0
        go_wp2_with fail
        refine (take_rd D4.out.rd fk fs fc no).mono ?_
        rintro e w5 ⟨rfl, hr5, t5⟩
        have D5 := Lib.hid (D4.out.turn t5 hr5)
        have N5 := Lib.hid (Kd.R_step N4.out (w1 := w5) (fun q hq hl => t5.block q hl (by have := (HNX.out q hq.symm).1; have := HLP.out; simp; omega)))
        have X5 := Lib.hid (Nat.le_trans X4.out t5.size)
        have F5 := Lib.hid (show FBuf X w5 fv st.2 from ⟨F4.out.buf.kept fun q hq => t5.block q (F4.out.buf.lt q hq) (by have := F4.out.new q hq; have := HXP.out; have := HLP.out; simp; omega), F4.out.new⟩)
        obtain ⟨⟨tx, st5⟩, etk⟩ : ∃ x, takeM (st.1.1, st.1.2) fk fs fc no = x := ⟨_, rfl⟩
        rw [etk] at D5 ⊢
        have HTK := Lib.hid (show fldStep code out st no = (st5, st.2 ++ [(no, amtPre out no tx)]) by unfold fldStep; rw [HFD.out]; simp only; rw [show takeM st.1 fk fs fc no = _ from etk])
        have HTX := Lib.hid etk
        clear hr5 t5 etk p0' p1' p2' c0 c1 c2 m0 m1
        obtain ⟨⟨c0, c1, c2⟩, m0, m1⟩ := D5.out.cells
        have htx : tx.size ≤ 200 := by
         rcases takeM_text (s := (st.1.1, st.1.2)) (k := fk) (n := fs) (c := fc) (no := no) with h | h
         ·rw [HTX.out] at h; simp only at h; rw [h]; decide
         ·rw [HTX.out] at h; have := fit_size (fit_of h); simp only [size_list] at this; omega
        go_upto_if 121 with fail
        by_cases h4 : no = 4
        ·have H4 := Lib.hid h4
         have hb4 : (no == 4) = true := by rw [h4]; rfl
         have ho0 : 0 ≤ out := by have := HO.out; omega
         have ho2 : out ≤ 2 := by have := HO.out; omega
         clear h4
         have HAP := Lib.hid (show amtPre out no tx = (⟨#[48, 48]⟩ : ByteArray).extract 0 out.toNat ++ tx by unfold amtPre; rw [if_pos H4.out])
         obtain ⟨w6, e6⟩ : ∃ W, w5.alloc (.cells #[.int .i64 no, .string ((⟨#[48, 48]⟩ : ByteArray).extract 0 out.toNat ++ tx)] 28) = W := ⟨_, rfl⟩
         have b6 : Below w5.heap.size w5 w6 := by rw [← e6]; exact (Below.refl _ _).alloc (Nat.le_refl _) _
         have k6 : w6.heap[w5.heap.size]? = some (.cells #[.int .i64 no, .string ((⟨#[48, 48]⟩ : ByteArray).extract 0 out.toNat ++ tx)] 28 (0, 0)) := by rw [← e6]; exact heap_alloc_last _ _
         have D6 := Lib.hid (D5.out.to b6)
         have N6 := Lib.hid (Kd.R_below N5.out b6)
         have F6 := Lib.hid (F5.out.below b6)
         have X6 := Lib.hid (Nat.le_trans X5.out b6.size)
         have hbW : Buf w6 28 2 fv st.2.length (st.2.flatMap fCells) := F6.out.buf
         have hnews : ∀ i u, ([.int .i64 no, .string ((⟨#[48, 48]⟩ : ByteArray).extract 0 out.toNat ++ tx)] : List Value)[i]? = some u → w6.cell? ((⟨w5.heap.size, 0, none⟩ : Addr).add i) = some u := by
          intro i u hu
          rw [show (⟨w5.heap.size, 0, none⟩ : Addr).add i = ⟨w5.heap.size, i, none⟩ from by unfold Addr.add; split <;> simp_all, cells_at k6 i]
          simpa using hu
         have hone : ∀ u ∈ ([.int .i64 no, .string ((⟨#[48, 48]⟩ : ByteArray).extract 0 out.toNat ++ tx)] : List Value), u.oneCell' = true := by
          intro u hu
          simp only [List.mem_cons, List.not_mem_nil, or_false] at hu
          rcases hu with rfl | rfl <;> rfl
         have HLJ := Lib.hid (show st.2.length + 1 ≤ 200 by have := HLE.out; have := HNL.out; omega)
         rw [← e6] at hbW hnews
         have HE6 := Lib.hid e6
         have HHW := Lib.hid hbW
         have HHN := Lib.hid hnews
         have HHO := Lib.hid hone
         obtain ⟨pf, cf, efv, hnf, hcf⟩ := hbW.shape
         have HFV := Lib.hid efv
         clear e6 b6 k6 hbW hnews hone
         rw [efv] at m1
         clear efv
         go_wp2_with (first
          | ((with_reducible refine gate_builtin (b := .append) (xs := #[.tmp 128, .tmp 132]) rfl ?_); at_builtin; refine wpList_append_buf rfl (.tmp 128) (.tmp 132) 22 rfl 28 _ 2 24 Tryz.underlying22 info45f rfl (by omega) fv st.2.length _ HFV.out.symm HHW.out ⟨w5.heap.size, 0, none⟩ 1 1 rfl [.int .i64 no, .string ((⟨#[48, 48]⟩ : ByteArray).extract 0 out.toNat ++ tx)] rfl HHN.out HHO.out (by omega) (by have := HLJ.out; simp only [maxLen]; omega) (by have := HLJ.out; omega) ?_; intro gg cap w7 hB7 hg7 hc7 hm7 hat7 hl7; rw [HE6.out] at hg7 hat7; have km7 := (hg7.block (w.heap.size + 3) (by have := D6.out.sz; omega) (fun h => by have := F6.out.new _ h.symm; have := HXP.out; have := HLP.out; omega)).trans D6.out.m; have m17 := cells_at km7 1; have z17 := frozen_at km7 1; have HB7 := Lib.hid hB7; have HG7 := Lib.hid hg7; have HA7 := Lib.hid hat7; have HL7 := Lib.hid hl7; clear hB7 hg7 hat7 hl7 km7))
         go_roundw
         case rel =>
          have hlt7 : ∀ q, q < w6.heap.size → q < w7.heap.size := fun q hq => Nat.lt_of_lt_of_le hq HG7.out.size
          have hne : ∀ q, q < X → some q ≠ bufBlock fv := fun q hq h => by have := F6.out.new _ h.symm; omega
          have hbg : Below (w.heap.size + 4) w6 w7 := ⟨HG7.out.os, HG7.out.tape, HG7.out.output, HG7.out.size, fun q hq => HG7.out.block q (by have := D6.out.sz; omega) (hne q (by have := HXP.out; have := HLP.out; omega))⟩
          have D7 := D6.out.grown (S' := fun q => (((w.heap.size ≤ q ∧ q < w.heap.size + 4) ∨ q = P) ∨ (Value.slice (some ⟨g, 0, none⟩) nl.length nc).ownBlock = some q) ∨ bufBlock (.slice (some ⟨gg, 0, none⟩) (st.2.length + 1) cap) = some q) hbg (fun q hq hs => HG7.out.block q hq (fun h => hs (.inr h.symm))) (fun q hq => by
           rcases hq with h | h
           ·exact .inl (.inl h)
           ·obtain rfl := bufBlock_some h
            rcases HA7.out with h2 | h2
            ·exact .inl (.inr h2)
            ·exact .inr (by omega)) (fun q hq => by
           rcases hq with h | h
           ·obtain ⟨_, _, _, _, _, _, hl⟩ := D6.out.rd
            exact hlt7 q (hl q (.inl h))
           ·obtain rfl := bufBlock_some h
            exact HL7.out) (.inl (.inl (.inl ⟨by omega, by omega⟩)))
          have D8 := D7.setF (.inl (.inl (.inl ⟨by omega, by omega⟩))) (.slice (some ⟨gg, 0, none⟩) (st.2.length + 1) cap)
          have hgX : X ≤ gg := by
           rcases HA7.out with h2 | h2
           ·exact F6.out.new _ h2
           ·have := X6.out; omega
          have hg3 : gg ≠ w.heap.size + 3 := by have := HXP.out; have := HLP.out; omega
          refine ⟨j + 1, .slice (some ⟨gg, 0, none⟩) (st.2.length + 1) cap, (st5, st.2 ++ [(no, (⟨#[48, 48]⟩ : ByteArray).extract 0 out.toNat ++ tx)]), by omega, by go_num, by rw [HST2.out, HTK.out, HAP.out], ?_, D8, ?_, by rw [List.length_append, HLE.out]; rfl, ?_⟩
          ·refine Kd.R_far (Kd.R_step N6.out (w1 := w7) (fun q hq hl => HG7.out.block q hl (hne q (HNX.out q hq.symm).2))) (p := ⟨w.heap.size + 3, 1, none⟩) (fun q hq => ?_) _
           have := (HNX.out q hq.symm).1
           have := HLP.out
           show q ≠ w.heap.size + 3
           omega
          ·refine ⟨?_, fun q hq => by obtain rfl := bufBlock_some hq; exact hgX⟩
           have hb := HB7.out.kept (w' := w7.setCell ⟨w.heap.size + 3, 1, none⟩ (.slice (some ⟨gg, 0, none⟩) (st.2.length + 1) cap)) (fun q hq => by obtain rfl := bufBlock_some hq; exact Below.heap_setCell _ _ _ _ hg3)
           rw [List.length_append, List.flatMap_append]
           simpa [fCells] using hb
          ·simp only [World.setCell, Array.size_modify]
           exact Nat.le_trans X6.out HG7.out.size
         case measure => have := HNL.out; have := HLE.out; simp [intOf]; omega
        ·have H4 := Lib.hid h4
         have hb4 : (no == 4) = false := by simpa using h4
         clear h4
         have HAP := Lib.hid (show amtPre out no tx = tx by unfold amtPre; rw [if_neg H4.out])
         obtain ⟨w6, e6⟩ : ∃ W, w5.alloc (.cells #[.int .i64 no, .string (tx)] 28) = W := ⟨_, rfl⟩
         have b6 : Below w5.heap.size w5 w6 := by rw [← e6]; exact (Below.refl _ _).alloc (Nat.le_refl _) _
         have k6 : w6.heap[w5.heap.size]? = some (.cells #[.int .i64 no, .string (tx)] 28 (0, 0)) := by rw [← e6]; exact heap_alloc_last _ _
         have D6 := Lib.hid (D5.out.to b6)
         have N6 := Lib.hid (Kd.R_below N5.out b6)
         have F6 := Lib.hid (F5.out.below b6)
         have X6 := Lib.hid (Nat.le_trans X5.out b6.size)
         have hbW : Buf w6 28 2 fv st.2.length (st.2.flatMap fCells) := F6.out.buf
         have hnews : ∀ i u, ([.int .i64 no, .string (tx)] : List Value)[i]? = some u → w6.cell? ((⟨w5.heap.size, 0, none⟩ : Addr).add i) = some u := by
          intro i u hu
          rw [show (⟨w5.heap.size, 0, none⟩ : Addr).add i = ⟨w5.heap.size, i, none⟩ from by unfold Addr.add; split <;> simp_all, cells_at k6 i]
          simpa using hu
         have hone : ∀ u ∈ ([.int .i64 no, .string (tx)] : List Value), u.oneCell' = true := by
          intro u hu
          simp only [List.mem_cons, List.not_mem_nil, or_false] at hu
          rcases hu with rfl | rfl <;> rfl
         have HLJ := Lib.hid (show st.2.length + 1 ≤ 200 by have := HLE.out; have := HNL.out; omega)
         rw [← e6] at hbW hnews
         have HE6 := Lib.hid e6
         have HHW := Lib.hid hbW
         have HHN := Lib.hid hnews
         have HHO := Lib.hid hone
         obtain ⟨pf, cf, efv, hnf, hcf⟩ := hbW.shape
         have HFV := Lib.hid efv
         clear e6 b6 k6 hbW hnews hone
         rw [efv] at m1
         clear efv
         go_wp2_with (first
          | ((with_reducible refine gate_builtin (b := .append) (xs := #[.tmp 128, .tmp 132]) rfl ?_); at_builtin; refine wpList_append_buf rfl (.tmp 128) (.tmp 132) 22 rfl 28 _ 2 24 Tryz.underlying22 info45f rfl (by omega) fv st.2.length _ HFV.out.symm HHW.out ⟨w5.heap.size, 0, none⟩ 1 1 rfl [.int .i64 no, .string (tx)] rfl HHN.out HHO.out (by omega) (by have := HLJ.out; simp only [maxLen]; omega) (by have := HLJ.out; omega) ?_; intro gg cap w7 hB7 hg7 hc7 hm7 hat7 hl7; rw [HE6.out] at hg7 hat7; have km7 := (hg7.block (w.heap.size + 3) (by have := D6.out.sz; omega) (fun h => by have := F6.out.new _ h.symm; have := HXP.out; have := HLP.out; omega)).trans D6.out.m; have m17 := cells_at km7 1; have z17 := frozen_at km7 1; have HB7 := Lib.hid hB7; have HG7 := Lib.hid hg7; have HA7 := Lib.hid hat7; have HL7 := Lib.hid hl7; clear hB7 hg7 hat7 hl7 km7))
         go_roundw
         case rel =>
          have hlt7 : ∀ q, q < w6.heap.size → q < w7.heap.size := fun q hq => Nat.lt_of_lt_of_le hq HG7.out.size
          have hne : ∀ q, q < X → some q ≠ bufBlock fv := fun q hq h => by have := F6.out.new _ h.symm; omega
          have hbg : Below (w.heap.size + 4) w6 w7 := ⟨HG7.out.os, HG7.out.tape, HG7.out.output, HG7.out.size, fun q hq => HG7.out.block q (by have := D6.out.sz; omega) (hne q (by have := HXP.out; have := HLP.out; omega))⟩
          have D7 := D6.out.grown (S' := fun q => (((w.heap.size ≤ q ∧ q < w.heap.size + 4) ∨ q = P) ∨ (Value.slice (some ⟨g, 0, none⟩) nl.length nc).ownBlock = some q) ∨ bufBlock (.slice (some ⟨gg, 0, none⟩) (st.2.length + 1) cap) = some q) hbg (fun q hq hs => HG7.out.block q hq (fun h => hs (.inr h.symm))) (fun q hq => by
           rcases hq with h | h
           ·exact .inl (.inl h)
           ·obtain rfl := bufBlock_some h
            rcases HA7.out with h2 | h2
            ·exact .inl (.inr h2)
            ·exact .inr (by omega)) (fun q hq => by
           rcases hq with h | h
           ·obtain ⟨_, _, _, _, _, _, hl⟩ := D6.out.rd
            exact hlt7 q (hl q (.inl h))
           ·obtain rfl := bufBlock_some h
            exact HL7.out) (.inl (.inl (.inl ⟨by omega, by omega⟩)))
          have D8 := D7.setF (.inl (.inl (.inl ⟨by omega, by omega⟩))) (.slice (some ⟨gg, 0, none⟩) (st.2.length + 1) cap)
          have hgX : X ≤ gg := by
           rcases HA7.out with h2 | h2
           ·exact F6.out.new _ h2
           ·have := X6.out; omega
          have hg3 : gg ≠ w.heap.size + 3 := by have := HXP.out; have := HLP.out; omega
          refine ⟨j + 1, .slice (some ⟨gg, 0, none⟩) (st.2.length + 1) cap, (st5, st.2 ++ [(no, tx)]), by omega, by go_num, by rw [HST2.out, HTK.out, HAP.out], ?_, D8, ?_, by rw [List.length_append, HLE.out]; rfl, ?_⟩
          ·refine Kd.R_far (Kd.R_step N6.out (w1 := w7) (fun q hq hl => HG7.out.block q hl (hne q (HNX.out q hq.symm).2))) (p := ⟨w.heap.size + 3, 1, none⟩) (fun q hq => ?_) _
           have := (HNX.out q hq.symm).1
           have := HLP.out
           show q ≠ w.heap.size + 3
           omega
          ·refine ⟨?_, fun q hq => by obtain rfl := bufBlock_some hq; exact hgX⟩
           have hb := HB7.out.kept (w' := w7.setCell ⟨w.heap.size + 3, 1, none⟩ (.slice (some ⟨gg, 0, none⟩) (st.2.length + 1) cap)) (fun q hq => by obtain rfl := bufBlock_some hq; exact Below.heap_setCell _ _ _ _ hg3)
           rw [List.length_append, List.flatMap_append]
           simpa [fCells] using hb
          ·simp only [World.setCell, Array.size_modify]
           exact Nat.le_trans X6.out HG7.out.size
         case measure => have := HNL.out; have := HLE.out; simp [intOf]; omega
       ·obtain rfl : j = nl.length := by omega
        have hlt' : ¬ (nl.length : Int) < nl.length := by omega
        have HDM := Lib.hid (show decM code ver out l = decFin ty1 st by unfold decM; simp only [HEH.out, HEM.out, ← HST.out, HES.out]; rw [← hst, List.take_length])
        have HD := Lib.hid hds
        have HFB := Lib.hid hfb
        have HLE := Lib.hid hlen
        have HXX := Lib.hid hX
        obtain ⟨rv, re, hrk, hrv, hre, _⟩ := hds.rd
        obtain ⟨rA, rc, rfl⟩ := Kd.V_slice hrv
        have r0 := cells_at hrk 0
        clear hst hnos hds hfb hlen hX hrk hrv hre
        by_cases hpos : 0 < st.1.1.length
        ·have hpp : 0 < (st.1.1.length : Int) := by omega
         have HPO := Lib.hid hpos
         clear hpos
         go_wp2_with fail
         refine (fail_rd HD.out.rd 54).mono ?_
         rintro e y1 ⟨rfl, hr1, t1⟩
         have DZ := Lib.hid (HD.out.turn t1 hr1)
         have FZ := Lib.hid (show FBuf X y1 fv st.2 from ⟨HFB.out.buf.kept fun q hq => t1.block q (HFB.out.buf.lt q hq) (by have := HFB.out.new q hq; have := HXP.out; have := HLP.out; simp; omega), HFB.out.new⟩)
         obtain ⟨s9, es9⟩ : ∃ s, failM (st.1.1, st.1.2) 54 = s := ⟨_, rfl⟩
         rw [es9] at DZ
         have HFI := Lib.hid (show decFin ty1 st = (match s9.2 with | some e => ((0, []), some e) | none => ((ty1, st.2), none)) by unfold decFin; rw [if_pos HPO.out, show failM st.1 54 = s9 from es9] <;> cases s9.2 <;> rfl)
         clear hr1 t1 es9 r0
         obtain ⟨ev9, ce9, hev9⟩ := DZ.out.err
         obtain ⟨⟨c0, c1, c2⟩, m0, m1⟩ := DZ.out.cells
         have z0 := cells_at DZ.out.res 0
         have z1 := cells_at DZ.out.res 1
         have y0 := frozen_at DZ.out.res 0
         have y1' := frozen_at DZ.out.res 1
         have HEV9 := Lib.hid hev9
         obtain ⟨l9, e9⟩ := s9
         cases e9 with
         | some er =>
          obtain ⟨tt, xx, rfl⟩ := iface_of hev9
          clear hev9
          go_wp2_with fail
          go_region
          go_wp2_with fail
          have kres := blk_set (blk_set DZ.out.res 0 (.int .i64 0)) 1 (.slice none 0 0)
          refine bodyPost_ret (Go.Proofs.YtommklkihjmgcaaGreatDoorW.PrintWords.results_ct rfl _ _ (w.heap.size + 1) _ #[.int .i64 0, .slice none 0 0] (0, 0) _ rfl kres Tryz.underlying24 rfl info32s) rfl ?_
          have hE2 := (HEV9.out.far2 DZ.out.res (by decide) 0 (.int .i64 0)).far2 (blk_set DZ.out.res 0 (.int .i64 0)) (by decide) 1 (.slice none 0 0)
          refine ⟨.slice none 0 0, .iface tt xx, ?_, ?_, ?_, ((DZ.out.below.setCell (by show w.heap.size ≤ w.heap.size + 1; omega) _).setCell (by show w.heap.size ≤ w.heap.size + 1; omega) _).drew⟩
          ·rw [HDM.out, HFI.out]; rfl
          ·rw [HDM.out, HFI.out]; exact ⟨⟨rfl, .inl ⟨rfl, .inl rfl⟩⟩, fun g h => by simp [bufBlock] at h⟩
          ·rw [HDM.out, HFI.out]; exact hE2
         | none =>
          obtain rfl : ev9 = .nilIface := hev9
          obtain ⟨pf, cf, efv, hnf, hcf⟩ := FZ.out.buf.shape
          have HFV := Lib.hid efv
          rw [efv] at m1
          clear efv
          go_wp2_with fail
          have kres := blk_set (blk_set DZ.out.res 0 (.int .i64 ty1)) 1 (.slice pf st.2.length cf)
          refine bodyPost_ret (Go.Proofs.YtommklkihjmgcaaGreatDoorW.PrintWords.results_ct rfl _ _ (w.heap.size + 1) _ #[.int .i64 ty1, .slice pf st.2.length cf] (0, 0) _ rfl kres Tryz.underlying24 rfl info32s) rfl ?_
          refine ⟨.slice pf st.2.length cf, .nilIface, ?_, ?_, ?_, (DZ.out.below.setCell (by show w.heap.size ≤ w.heap.size + 1; omega) _).setCell (by show w.heap.size ≤ w.heap.size + 1; omega) _⟩
          ·rw [HDM.out, HFI.out]; rfl
          ·rw [HDM.out, HFI.out, ← HFV.out]
           have hnb : ∀ q, bufBlock fv = some q → q ≠ w.heap.size + 1 := fun q hq => by have := FZ.out.new q hq; have := HXP.out; have := HLP.out; omega
           exact ⟨(FZ.out.buf.kept fun q hq => Below.heap_setCell _ ⟨w.heap.size + 1, 0, none⟩ _ q (hnb q hq)).kept fun q hq => Below.heap_setCell _ ⟨w.heap.size + 1, 1, none⟩ _ q (hnb q hq), fun q hq => by have := FZ.out.new q hq; have := HXP.out; have := HLP.out; omega⟩
          ·rw [HDM.out, HFI.out]; rfl
        ·have hpp : ¬ 0 < (st.1.1.length : Int) := by omega
         have HPO := Lib.hid hpos
         clear hpos
         have DZ := HD
         have FZ := HFB
         obtain ⟨s9, es9⟩ : ∃ s, st.1 = s := ⟨_, rfl⟩
         rw [es9] at DZ
         have HFI := Lib.hid (show decFin ty1 st = (match s9.2 with | some e => ((0, []), some e) | none => ((ty1, st.2), none)) by unfold decFin; rw [if_neg HPO.out, es9] <;> cases s9.2 <;> rfl)
         clear es9
         obtain ⟨ev9, ce9, hev9⟩ := DZ.out.err
         obtain ⟨⟨c0, c1, c2⟩, m0, m1⟩ := DZ.out.cells
         have z0 := cells_at DZ.out.res 0
         have z1 := cells_at DZ.out.res 1
         have y0 := frozen_at DZ.out.res 0
         have y1' := frozen_at DZ.out.res 1
         have HEV9 := Lib.hid hev9
         obtain ⟨l9, e9⟩ := s9
         cases e9 with
         | some er =>
          obtain ⟨tt, xx, rfl⟩ := iface_of hev9
          clear hev9
          go_wp2_with fail
          go_region
          go_wp2_with fail
          have kres := blk_set (blk_set DZ.out.res 0 (.int .i64 0)) 1 (.slice none 0 0)
          refine bodyPost_ret (Go.Proofs.YtommklkihjmgcaaGreatDoorW.PrintWords.results_ct rfl _ _ (w.heap.size + 1) _ #[.int .i64 0, .slice none 0 0] (0, 0) _ rfl kres Tryz.underlying24 rfl info32s) rfl ?_
          have hE2 := (HEV9.out.far2 DZ.out.res (by decide) 0 (.int .i64 0)).far2 (blk_set DZ.out.res 0 (.int .i64 0)) (by decide) 1 (.slice none 0 0)
          refine ⟨.slice none 0 0, .iface tt xx, ?_, ?_, ?_, ((DZ.out.below.setCell (by show w.heap.size ≤ w.heap.size + 1; omega) _).setCell (by show w.heap.size ≤ w.heap.size + 1; omega) _).drew⟩
          ·rw [HDM.out, HFI.out]; rfl
          ·rw [HDM.out, HFI.out]; exact ⟨⟨rfl, .inl ⟨rfl, .inl rfl⟩⟩, fun g h => by simp [bufBlock] at h⟩
          ·rw [HDM.out, HFI.out]; exact hE2
         | none =>
          obtain rfl : ev9 = .nilIface := hev9
          obtain ⟨pf, cf, efv, hnf, hcf⟩ := FZ.out.buf.shape
          have HFV := Lib.hid efv
          rw [efv] at m1
          clear efv
          go_wp2_with fail
          have kres := blk_set (blk_set DZ.out.res 0 (.int .i64 ty1)) 1 (.slice pf st.2.length cf)
          refine bodyPost_ret (Go.Proofs.YtommklkihjmgcaaGreatDoorW.PrintWords.results_ct rfl _ _ (w.heap.size + 1) _ #[.int .i64 ty1, .slice pf st.2.length cf] (0, 0) _ rfl kres Tryz.underlying24 rfl info32s) rfl ?_
          refine ⟨.slice pf st.2.length cf, .nilIface, ?_, ?_, ?_, (DZ.out.below.setCell (by show w.heap.size ≤ w.heap.size + 1; omega) _).setCell (by show w.heap.size ≤ w.heap.size + 1; omega) _⟩
          ·rw [HDM.out, HFI.out]; rfl
          ·rw [HDM.out, HFI.out, ← HFV.out]
           have hnb : ∀ q, bufBlock fv = some q → q ≠ w.heap.size + 1 := fun q hq => by have := FZ.out.new q hq; have := HXP.out; have := HLP.out; omega
           exact ⟨(FZ.out.buf.kept fun q hq => Below.heap_setCell _ ⟨w.heap.size + 1, 0, none⟩ _ q (hnb q hq)).kept fun q hq => Below.heap_setCell _ ⟨w.heap.size + 1, 1, none⟩ _ q (hnb q hq), fun q hq => by have := FZ.out.new q hq; have := HXP.out; have := HLP.out; omega⟩
          ·rw [HDM.out, HFI.out]; rfl
end Go.Proofs.YtommklkihjmgcaaGreatDoor.msgw
namespace Go.Proofs.YtommklkihjmgcaaGreatDoor.msgw
open Go.RowKit
open Go.Proofs.YtommklkihjmgcaaGreatDoor.msgp
open Go.Proofs.YtommklkihjmgcaaGreatDoor.buf
open Go.Proofs.YtommklkihjmgcaaGreatDoor.fieldp
open Go.Proofs.YtommklkihjmgcaaGreatDoor.fieldw
open Go.Proofs.YtommklkihjmgcaaGreatDoorW.PrintWords
open Go.Proofs.YtommklkihjmgcaaGreatDoorW.PrintMore
open Go.Proofs.YtommklkihjmgcaaGreatDoor.fieldl
/-- What Decode answers. -/
def decR (d : Int) (l : List Int) : (Int × Flds) × Int := if 1 ≤ d ∧ d ≤ 3 then ((decM (dia d).1 (dia d).2.1 (dia d).2.2 l).1, erZ (decM (dia d).1 (dia d).2.1 (dia d).2.2 l).2) else ((0, []), 50)
set_option maxHeartbeats 2000000 in
set_option maxRecDepth 100000 in
theorem decodeP_any {w : World} {bv : Value} {l : List Int} {ok : Nat → Prop} (hV : Kd.V (Kd.int .u8) 5 w 0 ok bv l) (hT : Tabs5 w) (d : Int) :
  Calls Tryz.prog 20 #[.int .i64 d, bv] w fun e w' => ∃ fv, e = .returned (.tuple #[.agg #[.int .i64 (decR d l).1.1, fv], .int .i64 (decR d l).2]) ∧ FBuf w.heap.size w' fv (decR d l).1.2 ∧ Below w.heap.size w w' := by
 obtain ⟨w0, e0⟩ : ∃ W, w.alloc (.cells #[.int .i64 0, .slice none 0 0] 24) = W := ⟨_, rfl⟩
 have b0 : Below w.heap.size w w0 := by rw [← e0]; exact (Below.refl _ _).alloc (Nat.le_refl _) _
 have km : w0.heap[w.heap.size]? = some (.cells #[.int .i64 0, .slice none 0 0] 24 (0, 0)) := by rw [← e0]; exact heap_alloc_last _ _
 have HV0 := Lib.hid (Kd.V_below hV b0)
 have HT := Lib.hid (hT.below b0)
 have HB0 := Lib.hid b0
 have KM := Lib.hid km
 obtain ⟨A, cc, rfl⟩ := Kd.V_slice hV
 by_cases hd : 1 ≤ d ∧ d ≤ 3
 ·obtain ⟨hc, hv, ho⟩ := dia_ok hd
  have hl : d.toNat < dialectsL.length := by show d.toNat < 4; omega
  have HW := Lib.hid (which_some (hT.below b0).tabs d.toNat (by omega) hl)
  have hdd : ((d.toNat : Nat) : Int) = d := by omega
  have hds : dialectsL[d.toNat] = dia d := by unfold dia; simp [List.getD, hl]
  rw [hdd, hds] at HW
  have hR : decR d l = ((decM (dia d).1 (dia d).2.1 (dia d).2.2 l).1, erZ (decM (dia d).1 (dia d).2.1 (dia d).2.2 l).2) := by unfold decR; rw [if_pos hd]
  rw [hR]
  obtain ⟨⟨code, ver, out⟩, ed⟩ : ∃ x, dia d = x := ⟨_, rfl⟩
  rw [ed] at hc hv ho HW ⊢
  have HC := Lib.hid hc
  have HV := Lib.hid hv
  have HO := Lib.hid ho
  have E0 := Lib.hid e0
  clear hV hT b0 km e0 hd hc hv ho hl hdd hds hR ed
  go_enter Tryz.func20, Tryz.ntmps20
  go_wp2_with fail
  rw [E0.out]
  refine HW.out.mono ?_
  rintro e w1 ⟨rfl, b1⟩
  have b2 : Below w1.heap.size w1 (w1.alloc (.cells #[.int .i64 code, .int .u8 ver, .int .i64 out] 56)) := (Below.refl _ _).alloc (Nat.le_refl _) _
  have k2 := box_row w1 #[.int .i64 code, .int .u8 ver, .int .i64 out] 56
  have b02 := b1.trans (b2.mono b1.size)
  have d0 := cells_at k2 0
  have d1 := cells_at k2 1
  have d2 := cells_at k2 2
  have HV2 := Lib.hid (Kd.V_below HV0.out b02)
  have HT2 := Lib.hid (HT.out.below b02)
  have HB2 := Lib.hid (HB0.out.trans (b02.mono HB0.out.size))
  have KM2 := Lib.hid ((b02.block w.heap.size (Array.getElem?_eq_some_iff.1 KM.out).1).trans KM.out)
  clear b1 b2 k2 b02
  go_wp2_with fail
  refine (decode_any HV2.out HT2.out code ver out HC.out HV.out HO.out).mono ?_
  rintro e w3 ⟨fv, ev, rfl, hfv, hev, b3⟩
  obtain ⟨⟨⟨mt, mF⟩, me⟩, em⟩ : ∃ x, decM code ver out l = x := ⟨_, rfl⟩
  rw [em] at hfv hev ⊢
  obtain ⟨pf, cf, rfl, hnf, hcf⟩ := hfv.buf.shape
  have HFV := Lib.hid hfv
  have HEV := Lib.hid hev
  have HB3 := Lib.hid (HB2.out.trans (b3.mono HB2.out.size))
  have HT3 := Lib.hid (HT2.out.below b3)
  have KM3 := Lib.hid ((b3.block w.heap.size (Array.getElem?_eq_some_iff.1 KM2.out).1).trans KM2.out)
  have L2 := Lib.hid (show w.heap.size < w1.heap.size + 1 by have := (Array.getElem?_eq_some_iff.1 KM2.out).1; simpa using this)
  have HEM := Lib.hid em
  clear hev b3 d0 d1 d2 hfv em
  go_wp2_with fail
  obtain ⟨w4, e4⟩ : ∃ W, w3.alloc (.cells #[.int .i64 mt, .slice pf mF.length cf] 24) = W := ⟨_, rfl⟩
  have b4 : Below w3.heap.size w3 w4 := by rw [← e4]; exact (Below.refl _ _).alloc (Nat.le_refl _) _
  have k4 : w4.heap[w3.heap.size]? = some (.cells #[.int .i64 mt, .slice pf mF.length cf] 24 (0, 0)) := by rw [← e4]; exact heap_alloc_last _ _
  have km4 := (b4.block w.heap.size (Array.getElem?_eq_some_iff.1 KM3.out).1).trans KM3.out
  have bd : Below w4.heap.size w4 w4.drew := ⟨rfl, rfl, rfl, Nat.le_refl _, fun _ _ => rfl⟩
  have KM4 := Lib.hid km4
  have HT4 := Lib.hid ((HT3.out.below b4).below bd)
  have HEV4 := Lib.hid (ErrAt.step (S := fun _ => False) (ErrAt.step (S := fun _ => False) (show ErrAt w3 ev me from HEV.out) (fun _ _ _ hf => hf) (fun k hk _ => b4.block k hk)) (fun _ _ _ hf => hf) (fun k hk _ => bd.block k hk))
  have HFV4 := Lib.hid ((HFV.out.below b4).below bd)
  have HB4 := Lib.hid (HB3.out.trans ((b4.trans (bd.mono b4.size)).mono HB3.out.size))
  have c0 : w4.cell? ⟨w3.heap.size, 0, none⟩ = some (.int .i64 mt) := cells_at k4 0
  have c1 : w4.cell? ⟨w3.heap.size, 1, none⟩ = some (.slice pf mF.length cf) := cells_at k4 1
  rw [e4]
  clear e4 b4 k4 km4 bd
  refine wp_region_held_drew (S := (fun W => W.cell? ⟨w3.heap.size, 0, none⟩ = some (.int .i64 mt) ∧ W.cell? ⟨w3.heap.size, 1, none⟩ = some (.slice pf mF.length cf))) (by kernel_rfl) (⟨c0, c1⟩) (fun hHeld => ?_)
  refine wpAnyH_take (i := 0) (oi := { dst := some 24, op := Op.load 24 (Operand.tmp 8), type := 24, pos := _, after := _, guard := _ }) (v := ?_) rfl (by kernel_rfl) (by kernel_rfl) (by kernel_rfl) (fun _ _ _ h => h) (Or.inl ⟨by rfl, ?hyddx01⟩) (by assumption) ?restddx01
  case hyddx01 => (intro W hSw; obtain ⟨s0, s1⟩ := hSw; go_simp; try with_reducible rfl)
  try simp only [Act.put, List.setIfInBounds_toArray, List.set_cons_zero, List.set_cons_succ]
  refine wpAnyH_take (i := 1) (oi := { dst := some 25, op := Op.move (Operand.tmp 9), type := 60, pos := _, after := _, guard := _ }) (v := ?_) rfl (by kernel_rfl) (by kernel_rfl) (by kernel_rfl) (fun _ _ _ h => h) (Or.inl ⟨by rfl, ?hyddx04⟩) (by assumption) ?restddx04
  case hyddx04 => (intro w hSw; (try dsimp only at hSw); go_simp; try with_reducible rfl)
  try simp only [Act.put, List.setIfInBounds_toArray, List.set_cons_zero, List.set_cons_succ]
  refine wpAnyH_ready (rs := [2]) (by kernel_rfl) (by simp) (AllReadyH.cons (o := { dst := some 26, op := Op.call { callee := Callee.value (Operand.func 35), args := #[Operand.tmp 25], argTypes := #[60] }, type := 34, pos := _, after := _, guard := _ }) rfl (fun K hK => ?_) AllReadyH.nil)
  go_simp
  refine (told_all HT4.out.tabs.err HEV4.out).mono ?_
  rintro e w5 ⟨rfl, b5⟩
  have HB5 := Lib.hid b5
  refine hK.out _ _ (⟨HB5.out.keptCell c0, HB5.out.keptCell c1⟩) (fun hHeld => ?_)
  clear hK K
  try simp only [Act.put, List.setIfInBounds_toArray, List.set_cons_zero, List.set_cons_succ]
  refine wpAnyH_ready (rs := [3]) (by kernel_rfl) (by simp) (AllReadyH.cons (o := { dst := none, op := Op.store 24 (Operand.tmp 4) (Operand.tmp 24), type := 0, pos := _, after := _, guard := _ }) rfl (fun K hK => ?_) AllReadyH.nil)
  have hne : w3.heap.size ≠ w.heap.size := by have := (Array.getElem?_eq_some_iff.1 KM3.out).1; omega
  have k5 := (HB5.out.block w.heap.size (Array.getElem?_eq_some_iff.1 KM4.out).1).trans KM4.out
  have hst := store_all (ty := 24) k5 info32s rfl #[.int .i64 mt, .slice pf mF.length cf] rfl rfl
  refine step_nov rfl (exec_store 24 (.tmp 4) (.tmp 24) rfl ⟨w.heap.size, 0, none⟩ rfl _ rfl hst) ?_
  refine hK.out _ _ (⟨(World.cell?_of_block (a := ⟨w3.heap.size, 0, none⟩) (setRow_other _ _ _ _ hne)).trans (HB5.out.keptCell c0), (World.cell?_of_block (a := ⟨w3.heap.size, 1, none⟩) (setRow_other _ _ _ _ hne)).trans (HB5.out.keptCell c1)⟩) (fun hHeld => ?_)
  clear hK K
  refine wpAnyH_take (i := 4) (oi := { dst := some 5, op := Op.assign (Operand.tmp 26), type := 34, pos := _, after := _, guard := _ }) (v := ?_) rfl (by kernel_rfl) (by kernel_rfl) (by kernel_rfl) (fun _ _ _ h => h) (Or.inl ⟨by rfl, ?hyddx022⟩) (by assumption) ?restddx022
  case hyddx022 => (intro w hSw; (try dsimp only at hSw); go_simp; try with_reducible rfl)
  try simp only [Act.put, List.setIfInBounds_toArray, List.set_cons_zero, List.set_cons_succ]
  refine wpAnyH_done (by kernel_rfl) ?_ _
  clear hHeld
  go_wp2_with fail
  have kr := setRow_block k5 (cs' := #[.int .i64 mt, .slice pf mF.length cf])
  refine bodyPost_ret (Go.Proofs.YtommklkihjmgcaaGreatDoorW.PrintWords.results_ct rfl _ _ w.heap.size _ #[.int .i64 mt, .slice pf mF.length cf] (0, 0) _ rfl kr Tryz.underlying24 rfl info32s) rfl ?_
  have hb5 := HB4.out.trans (HB5.out.mono HB4.out.size)
  have hq : ∀ q, bufBlock (.slice pf mF.length cf) = some q → w.heap.size < q := fun q hq => (Nat.lt_of_lt_of_le L2.out (show w1.heap.size + 1 ≤ q by simpa using HFV.out.new q hq))
  rw [HEM.out]
  refine ⟨_, rfl, ⟨((HFV4.out.below HB5.out).buf).kept fun q h => setRow_other _ _ q _ (Nat.ne_of_gt (hq q h)), fun q h => Nat.le_of_lt (hq q h)⟩, hb5.os, hb5.tape, hb5.output, by simpa using hb5.size, fun q h => (setRow_other _ _ q _ (by omega)).trans (hb5.block q h)⟩
 ·have HW := Lib.hid (which_none (w := w0) d (by omega))
  have hR : decR d l = ((0, []), 50) := by unfold decR; rw [if_neg hd]
  rw [hR]
  have E0 := Lib.hid e0
  have z0 := cells_at km 0
  clear hV hT b0 km e0 hd hR
  go_enter Tryz.func20, Tryz.ntmps20
  go_wp2_with fail
  rw [E0.out]
  refine HW.out.mono ?_
  rintro e w1 ⟨rfl, b1⟩
  have b2 : Below w1.heap.size w1 (w1.alloc (.cells #[.int .i64 0, .int .u8 0, .int .i64 0] 56)) := (Below.refl _ _).alloc (Nat.le_refl _) _
  have b02 := b1.trans (b2.mono b1.size)
  have km2 := (b02.block w.heap.size (Array.getElem?_eq_some_iff.1 KM.out).1).trans KM.out
  have c0 := cells_at km2 0
  have c1 := cells_at km2 1
  have y0 := frozen_at km2 0
  have y1 := frozen_at km2 1
  have KM2 := Lib.hid km2
  have HB2 := Lib.hid (HB0.out.trans (b02.mono HB0.out.size))
  clear b1 b2 b02 km2 z0
  go_wp2_with fail
  have kr := blk_set (blk_set KM2.out 0 (.int .i64 0)) 1 (.slice none 0 0)
  refine bodyPost_ret (Go.Proofs.YtommklkihjmgcaaGreatDoorW.PrintWords.results_ct rfl _ _ w.heap.size _ #[.int .i64 0, .slice none 0 0] (0, 0) _ rfl kr Tryz.underlying24 rfl info32s) rfl ?_
  exact ⟨_, rfl, ⟨⟨rfl, .inl ⟨rfl, .inl rfl⟩⟩, fun g h => by simp [bufBlock] at h⟩, (HB2.out.setCell (Nat.le_refl _) _).setCell (Nat.le_refl _) _⟩
end Go.Proofs.YtommklkihjmgcaaGreatDoor.msgw
