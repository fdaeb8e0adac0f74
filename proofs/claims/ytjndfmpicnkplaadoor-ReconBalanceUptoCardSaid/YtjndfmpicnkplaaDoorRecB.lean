/- Layer 20: Read. Conditions: as each theorem says. -/
import Derived.Test.YtjndfmpicnkplaaDoorRecA
namespace Go.Proofs.YtjndfmpicnkplaaDoor.msgw
open Go.RowKit
open Go.Proofs.YtjndfmpicnkplaaDoor.msgp
open Go.Proofs.YtjndfmpicnkplaaDoor.buf
open Go.Proofs.YtjndfmpicnkplaaDoor.fieldp
open Go.Proofs.YtjndfmpicnkplaaDoor.fieldw
def readNos : List Int := [7, 11, 32, 74, 76, 86, 88, 97]
/-- The fields that hold numbers: number, kind, size. -/
def tail5 : List Shp := [(74, 1, 10), (76, 1, 10), (86, 1, 16), (88, 1, 16), (97, 5, 16)]
/-- What a stated number is. -/
def valOf (sz : Int) (s : ByteArray) : Int := if s.data.toList.head? = some 68 then -(amountR (s.extract ((s.size : Int) - sz).toNat s.size).data.toList).1 else (amountR (s.extract ((s.size : Int) - sz).toNat s.size).data.toList).1
def readL (x : Flds) : List Shp → Option (List Int)
  | [] => some []
  | t :: r => if checkR t.2.1 t.2.2 1 ((getM x t.1).getD ⟨#[]⟩).data.toList = 0 then (readL x r).map (valOf t.2.2 ((getM x t.1).getD ⟨#[]⟩) :: ·) else none
/-- What Read answers. -/
def readR (ty : Int) (F : Flds) : List Int × Int := if ty ≠ 500 then ([0, 0, 0, 0, 0], 51) else if (copyM F readNos []).length < 8 then ([0, 0, 0, 0, 0], 52) else match readL (copyM F readNos []) tail5 with
  | none => ([0, 0, 0, 0, 0], 41)
  | some l => (l, 0)
def totV (m : Int) (l : List Int) : Value := .agg (#[.int .i64 m] ++ (l.map (fun z => Value.int .i64 z)).toArray)
def SmallF (F : Flds) : Prop := ∀ x ∈ F, x.2.size ≤ 100000000
theorem getM_small {F : Flds} (h : SmallF F) (no : Int) : ((getM F no).getD ⟨#[]⟩).size ≤ 100000000 := by
  unfold getM
  cases e : F.find? fun x => decide (x.1 = no) with
  | none => decide
  | some y => exact h y (List.mem_of_find?_eq_some e)
theorem delM_small {F : Flds} (h : SmallF F) (no : Int) : SmallF (delM F no) := fun x hx => h x (List.mem_filter.1 hx).1
theorem setM_small {F : Flds} (h : SmallF F) (no : Int) {s : ByteArray} (hs : s.size ≤ 100000000) : SmallF (setM F no s) := by
  intro x hx
  unfold setM insM at hx
  rcases List.mem_append.1 hx with h1 | h1
  · exact delM_small h no x (List.mem_of_mem_take h1)
  · rcases List.mem_cons.1 h1 with rfl | h2
    · exact hs
    · exact delM_small h no x (List.mem_of_mem_drop h2)
theorem copyM_small {F : Flds} (h : SmallF F) : ∀ (nos : List Int) (acc : Flds), SmallF acc → SmallF (copyM F nos acc)
  | [], acc, ha => ha
  | n :: r, acc, ha => by
    have e : copyM F (n :: r) acc = copyM F r (match getM F n with | none => acc | some s => setM acc n s) := rfl
    rw [e]
    refine copyM_small h r _ ?_
    cases eg : getM F n with
    | none => exact ha
    | some s => exact setM_small ha n (by have := getM_small h n; rw [eg] at this; exact this)
theorem info23s : (Tryd.prog.info? 23).map (·.size) = some 6 := by kernel_rfl
theorem checkR_of {k n : Int} {l : List UInt8} (h : checkR k n 1 l = 0) : rightB k n l = true := by
  cases hr : rightB k n l with
  | true => rfl
  | false =>
    exfalso
    unfold checkR at h
    rw [hr] at h
    cases hm : mayB k n 1 <;> rw [hm] at h <;> exact absurd h (by decide)
theorem getD_snoc (ns : List Int) (z : Int) (j : Nat) : (ns ++ [z]).getD j 0 = if j = ns.length then z else ns.getD j 0 := by
  simp only [List.getD, List.getElem?_append]
  by_cases h : j < ns.length
  · rw [if_pos h, if_neg (by omega)]
  · rw [if_neg h]
    by_cases e : j = ns.length
    · subst e; simp
    · rw [if_neg e, List.getElem?_eq_none (by simp; omega), List.getElem?_eq_none (by omega)]
theorem head_s (s : ByteArray) (h : 0 < s.size) : s.data.toList.head? = some s[0] := by
  have h1 : 0 < s.data.toList.length := by simpa using h
  cases e : s.data.toList with
  | nil => rw [e] at h1; simp at h1
  | cons c r =>
    have : s[0] = s.data.toList[0] := by simp [ByteArray.getElem_eq_getElem_data]
    simp only [e] at this
    rw [this]
    rfl
theorem amountR_range (s : ByteArray) : 0 ≤ (amountR s.data.toList).1 ∧ (amountR s.data.toList).1 < 1000000000000000000 := by
  unfold amountR
  split
  · rename_i h
    have h1 := take_dig h.2.2 s.data.toList.length
    rw [List.take_length] at h1
    have h2 := numL_range _ _ rfl h1
    have h3 : (10 : Int) ^ s.data.toList.length ≤ 10 ^ 18 := by
      have := Nat.pow_le_pow_right (n := 10) (by decide) h.2.1
      exact_mod_cast this
    exact ⟨h2.1, by have := h2.2; show numL s.data.toList < _; omega⟩
  · exact ⟨Int.le_refl _, by decide⟩
theorem ofB_len {l row : List UInt8} {n : Int} (h : ofB l row n = true) : (l.length : Int) = n := (ofB_all h).2
/-- A stated number's text: as long as its form says, a letter ahead or none. -/
theorem tail5_len (k : Nat) (hk : k < tail5.length) {s : ByteArray} (h : checkR tail5[k].2.1 tail5[k].2.2 1 s.data.toList = 0) : ∃ d : Nat, (s.size : Int) - tail5[k].2.2 = d ∧ d ≤ 1 ∧ 1 ≤ s.size ∧ s.size ≤ 17 ∧ d ≤ s.size := by
  have h1 := checkR_of h
  have hs : s.data.toList.length = s.size := by simp
  have h5 : k < 5 := hk
  have hc : k = 0 ∨ k = 1 ∨ k = 2 ∨ k = 3 ∨ k = 4 := by omega
  rcases hc with rfl | rfl | rfl | rfl | rfl
  · have h2 := ofB_len (show ofB s.data.toList tenL 10 = true from h1)
    exact ⟨0, by show (s.size : Int) - 10 = _; omega, by omega, by omega, by omega, by omega⟩
  · have h2 := ofB_len (show ofB s.data.toList tenL 10 = true from h1)
    exact ⟨0, by show (s.size : Int) - 10 = _; omega, by omega, by omega, by omega, by omega⟩
  · have h2 := ofB_len (show ofB s.data.toList tenL 16 = true from h1)
    exact ⟨0, by show (s.size : Int) - 16 = _; omega, by omega, by omega, by omega, by omega⟩
  · have h2 := ofB_len (show ofB s.data.toList tenL 16 = true from h1)
    exact ⟨0, by show (s.size : Int) - 16 = _; omega, by omega, by omega, by omega, by omega⟩
  · have h3 : (match s.data.toList with | [] => false | c :: r => (c == 67 || c == 68) && ofB r tenL 16) = true := h1
    cases hl : s.data.toList with
    | nil => rw [hl] at h3; cases h3
    | cons c r =>
      rw [hl] at h3 hs
      simp only [Bool.and_eq_true] at h3
      have h2 := ofB_len h3.2
      simp only [List.length_cons] at hs
      exact ⟨1, by show (s.size : Int) - 16 = _; omega, by omega, by omega, by omega, by omega⟩
theorem tail5_form (k : Nat) (hk : k < tail5.length) : formF tail5[k].1 0 = some (tail5[k].2.1, tail5[k].2.2) := by
  have h5 : k < 5 := hk
  have hc : k = 0 ∨ k = 1 ∨ k = 2 ∨ k = 3 ∨ k = 4 := by omega
  rcases hc with rfl | rfl | rfl | rfl | rfl <;> rfl
theorem tail5_nos (k : Nat) (hk : k < tail5.length) : ∀ h : 3 + k < readNos.length, readNos[3 + k] = tail5[k].1 := by
  have h5 : k < 5 := hk
  have hc : k = 0 ∨ k = 1 ∨ k = 2 ∨ k = 3 ∨ k = 4 := by omega
  rcases hc with rfl | rfl | rfl | rfl | rfl <;> exact fun _ => rfl
def eightR : Array Value := #[.int .i64 7, .int .i64 11, .int .i64 32, .int .i64 74, .int .i64 76, .int .i64 86, .int .i64 88, .int .i64 97]
theorem eight_at (i : Nat) (h : i < readNos.length) : eightR[i]? = some (.int .i64 readNos[i]) := by
  have h8 : i < 8 := h
  have hc : i = 0 ∨ i = 1 ∨ i = 2 ∨ i = 3 ∨ i = 4 ∨ i = 5 ∨ i = 6 ∨ i = 7 := by omega
  rcases hc with rfl | rfl | rfl | rfl | rfl | rfl | rfl | rfl <;> rfl
set_option maxHeartbeats 2000000 in
set_option maxRecDepth 100000 in
theorem read_any {w : World} {v : Value} {F : Flds} (h : FsAt w v F) (hT : Tabs w) (hS : SmallF F) (ty : Int) :
    Calls Tryd.prog 7 #[.agg #[.int .i64 ty, v]] w fun e w' => e = .returned (.tuple #[totV 0 (readR ty F).1, .int .i64 (readR ty F).2]) ∧ Below w.heap.size w w' := by
  obtain ⟨p, c, rfl⟩ := h.shape
  obtain ⟨B, eB⟩ : ∃ b, w.heap.size = b := ⟨_, rfl⟩
  obtain ⟨w0, e0⟩ : ∃ W, (w.alloc (.cells #[.int .i64 ty, .slice p F.length c] 32)).alloc (.cells #[.int .i64 0, .int .i64 0, .int .i64 0, .int .i64 0, .int .i64 0, .int .i64 0] 23) = W := ⟨_, rfl⟩
  have b0 : Below w.heap.size w w0 := by rw [← e0]; exact ((Below.refl _ _).alloc (Nat.le_refl _) _).alloc (by simp) _
  have s0 : w0.heap.size = B + 2 := by rw [← e0, ← eB]; simp
  have km : w0.heap[B]? = some (.cells #[.int .i64 ty, .slice p F.length c] 32 (0, 0)) := by
    rw [← e0, ← eB, Below.heap_alloc _ _ _ (by simp)]
    exact heap_alloc_last _ _
  have kr : w0.heap[B + 1]? = some (.cells #[.int .i64 0, .int .i64 0, .int .i64 0, .int .i64 0, .int .i64 0, .int .i64 0] 23 (0, 0)) := by
    rw [← e0, ← eB]
    have := heap_alloc_last (w.alloc (.cells #[.int .i64 ty, .slice p F.length c] 32)) (.cells #[.int .i64 0, .int .i64 0, .int .i64 0, .int .i64 0, .int .i64 0, .int .i64 0] 23)
    simpa using this
  have H := Lib.hid h
  have HB0 := Lib.hid b0
  have S0 := Lib.hid s0
  have KR := Lib.hid kr
  have KM := Lib.hid km
  have E0 := Lib.hid e0
  have EB := Lib.hid eB
  have m0 := cells_at km 0
  have m1 := cells_at km 1
  have HSM := Lib.hid hS
  have HT := Lib.hid hT
  clear h b0 s0 km hS hT
  go_enter Tryd.func7, Tryd.ntmps7
  by_cases hty : ty = 500
  · subst hty
    rw [← e0] at m0 m1
    obtain ⟨w1, e1⟩ : ∃ W, w0.alloc (.cells #[.int .i64 7, .int .i64 11, .int .i64 32, .int .i64 74, .int .i64 76, .int .i64 86, .int .i64 88, .int .i64 97] 3) = W := ⟨_, rfl⟩
    have b1 : Below w0.heap.size w0 w1 := by rw [← e1]; exact (Below.refl _ _).alloc (Nat.le_refl _) _
    have s1 : w1.heap.size = B + 3 := by have := S0.out; rw [← e1]; simp; omega
    have k1 : w1.heap[B + 2]? = some (.cells eightR 3 (0, 0)) := by rw [← e1, ← S0.out]; exact heap_alloc_last _ _
    have HB1 := Lib.hid (HB0.out.trans (b1.mono HB0.out.size))
    have HN1 := Lib.hid (show IntsAt w1 (.slice (some ⟨B + 2, 0, none⟩) 8 8) readNos from ⟨B + 2, 0, 8, rfl, fun i hi => by rw [Nat.zero_add]; exact (cells_at k1 i).trans (eight_at i hi)⟩)
    have HC1 := Lib.hid (copied_any (H.out.below HB1.out) HN1.out (by decide) 500 500)
    have S1 := Lib.hid s1
    have KR1 := Lib.hid ((b1.block (B + 1) (by have := S0.out; omega)).trans kr)
    have K1 := Lib.hid k1
    have E1 := Lib.hid e1
    clear eB e0 b1 s1 k1 e1 kr
    go_wp2_with fail
    rw [EB.out, E0.out, E1.out]
    refine HC1.out.mono ?_
    rintro e w2 ⟨v2, rfl, f2, b2⟩
    obtain ⟨px, cx, rfl, _, _⟩ := f2.buf.shape
    obtain ⟨X, eX⟩ : ∃ X, copyM F readNos [] = X := ⟨_, rfl⟩
    rw [eX] at f2 ⊢
    have HX := Lib.hid eX
    have HF2 := Lib.hid f2
    have l1 : B + 2 < w1.heap.size := by have := S1.out; omega
    have HB2 := Lib.hid (HB1.out.trans (b2.mono HB1.out.size))
    have k2 := (b2.block (B + 2) l1).trans K1.out
    have kr2 := (b2.block (B + 1) (by omega)).trans KR1.out
    have hs2 : B + 3 ≤ w2.heap.size := by have := b2.size; have := S1.out; omega
    obtain ⟨w3, e3⟩ : ∃ W, w2.alloc (.cells #[.int .i64 500, .slice px X.length cx] 32) = W := ⟨_, rfl⟩
    have b3 : Below w2.heap.size w2 w3 := by rw [← e3]; exact (Below.refl _ _).alloc (Nat.le_refl _) _
    have k3 : w3.heap[w2.heap.size]? = some (.cells #[.int .i64 500, .slice px X.length cx] 32 (0, 0)) := by rw [← e3]; exact heap_alloc_last _ _
    have x0 := cells_at k3 0
    have x1 := cells_at k3 1
    have kr3 := (b3.block (B + 1) (by omega)).trans kr2
    have kn3 := (b3.block (B + 2) (by omega)).trans k2
    have HF3 := Lib.hid (f2.below b3)
    have HB3 := Lib.hid (HB2.out.trans (b3.mono HB2.out.size))
    have HS2 := Lib.hid hs2
    have s3 : w3.heap.size = w2.heap.size + 1 := by rw [← e3]; simp
    have S3 := Lib.hid s3
    clear b2 f2 l1 k2 kr2 hs2 b3 s3 m0 m1
    by_cases h8 : X.length < 8
    · have HR := Lib.hid (show readR 500 F = ([0, 0, 0, 0, 0], 52) by unfold readR; rw [if_neg (by decide), HX.out, if_pos h8])
      have h8' : (X.length : Int) < 8 := by omega
      have hst := store_all (ty := 23) kr3 info23s rfl #[.int .i64 0, .int .i64 0, .int .i64 0, .int .i64 0, .int .i64 0, .int .i64 0] rfl rfl
      have HK3 := Lib.hid kr3
      rw [← e3] at x0 x1 hst
      have E3 := Lib.hid e3
      clear k3 kr3 kn3 eX e3
      go_wp2_with (refine wpList_store_at rfl 23 (.tmp 2) (.tmp 30) rfl ⟨B + 1, 0, none⟩ rfl _ rfl hst ?_)
      rw [E3.out]
      refine bodyPost_ret (Go.Proofs.YtjndfmpicnkplaaDoorW.PrintWords.results_ct rfl _ _ (B + 1) _ #[.int .i64 0, .int .i64 0, .int .i64 0, .int .i64 0, .int .i64 0, .int .i64 0] (0, 0) _ rfl (setRow_block HK3.out) Tryd.underlying23 rfl info23s) rfl ?_
      exact ⟨by rw [HR.out]; rfl, HB3.out.os, HB3.out.tape, HB3.out.output, by have h9 := HB3.out.size; simpa using h9, fun q hq => (setRow_other _ _ q _ (by have := EB.out; omega)).trans (HB3.out.block q hq)⟩
    · have h8' : ¬ (X.length : Int) < 8 := by omega
      have E3 := Lib.hid e3
      have HK3 := Lib.hid k3
      have HKR3 := Lib.hid kr3
      have HKN3 := Lib.hid kn3
      rw [← e3] at x0 x1
      clear k3 kr3 kn3 eX e3
      obtain ⟨N, eN⟩ : ∃ n, w2.heap.size + 1 = n := ⟨_, rfl⟩
      obtain ⟨xb, exb⟩ : ∃ n, w2.heap.size = n := ⟨_, rfl⟩
      obtain ⟨w4, e4⟩ : ∃ W, w3.alloc (.cells #[.int .i64 0, .int .i64 0, .int .i64 0, .int .i64 0, .int .i64 0, .int .i64 0, .int .i64 0, .int .i64 0] 53) = W := ⟨_, rfl⟩
      have b4 : Below w3.heap.size w3 w4 := by rw [← e4]; exact (Below.refl _ _).alloc (Nat.le_refl _) _
      have hs3 : w3.heap.size = N := by rw [S3.out, eN]
      have k4 : w4.rowIs N 53 8 (fun j => .int .i64 (([] : List Int).getD j 0)) := ⟨#[.int .i64 0, .int .i64 0, .int .i64 0, .int .i64 0, .int .i64 0, .int .i64 0, .int .i64 0, .int .i64 0], by rw [← e4, ← hs3]; exact heap_alloc_last _ _, rfl, fun i hi => by
        have hc : i = 0 ∨ i = 1 ∨ i = 2 ∨ i = 3 ∨ i = 4 ∨ i = 5 ∨ i = 6 ∨ i = 7 := by omega
        rcases hc with rfl | rfl | rfl | rfl | rfl | rfl | rfl | rfl <;> rfl⟩
      have HX4 := Lib.hid (show w4.heap[xb]? = some (.cells #[.int .i64 500, .slice px X.length cx] 32 (0, 0)) from (b4.block xb (by omega)).trans (by rw [← exb]; exact HK3.out))
      have HKR4 := Lib.hid ((b4.block (B + 1) (by have := HS2.out; omega)).trans HKR3.out)
      have HKN4 := Lib.hid ((b4.block (B + 2) (by have := HS2.out; omega)).trans HKN3.out)
      have HB4 := Lib.hid (HB3.out.trans (b4.mono HB3.out.size))
      have HF4 := Lib.hid (HF3.out.below b4)
      have HFL := Lib.hid (fun q (hq : bufBlock (.slice px X.length cx) = some q) => show q < N by have := HF2.out.buf.lt q hq; omega)
      have HNB := Lib.hid (show B + 4 ≤ N ∧ xb < N ∧ B + 3 ≤ xb ∧ N < w4.heap.size by have := HS2.out; refine ⟨by omega, by omega, by omega, by rw [← e4]; simp; omega⟩)
      have HXX := Lib.hid exb
      have HNN := Lib.hid eN
      have E4 := Lib.hid e4
      have K4 := Lib.hid k4
      have HR := Lib.hid (show readR 500 F = match readL X tail5 with | none => ([0, 0, 0, 0, 0], 41) | some l => (l, 0) by unfold readR; rw [if_neg (by decide), HX.out, if_neg h8])
      have HXS := Lib.hid (show SmallF X by rw [← HX.out]; exact copyM_small HSM.out _ _ (fun x hx => by simp at hx))
      have HXL := Lib.hid (show X.length ≤ 8 by rw [← HX.out]; exact copyM_len F readNos [])
      clear b4 e4 k4 hs3 exb eN
      go_wp2_with fail
      rw [HNN.out, HXX.out, E3.out, E4.out]
      clear x0 x1
      go_loopw [34] (fun i wr => Turn [N] w4 wr ∧ ∃ (k : Nat) (ns : List Int), k ≤ 5 ∧ i = .int .i64 k ∧ ns.length = k ∧ wr.rowIs N 53 8 (fun j => .int .i64 (ns.getD j 0)) ∧ readL X tail5 = (readL X (tail5.drop k)).map (ns ++ ·)) (fun i _ => 5 - (intOf i).toNat)
      case atStart => exact ⟨Turn.refl _ _, 0, [], by omega, rfl, rfl, K4.out, by rw [List.drop_zero]; cases readL X tail5 <;> rfl⟩
      case round =>
        obtain ⟨ht, k, ns, hk, rfl, hns, hrow, he⟩ := hrel
        have hN := HNB.out
        have hx4 := (ht.block xb (by omega) (by simp; omega)).trans HX4.out
        have hkr4 := (ht.block (B + 1) (by omega) (by simp; omega)).trans HKR4.out
        have hkn4 := (ht.block (B + 2) (by omega) (by simp; omega)).trans HKN4.out
        have hbw : Below w.heap.size w wr := HB4.out.trans (ht.below HB4.out.size (fun q hq => by
          have h9 : q = N := by simpa using hq
          have := EB.out
          omega))
        have hfx : FBuf w1.heap.size wr (.slice px X.length cx) X := ⟨HF4.out.buf.kept fun q hq => ht.block q (by have := HFL.out q hq; omega) (by have := HFL.out q hq; simp; omega), HF4.out.new⟩
        have HTR := Lib.hid ht
        have HBW := Lib.hid hbw
        have HROW := Lib.hid hrow
        have HE := Lib.hid he
        have HNS := Lib.hid hns
        have HKR := Lib.hid hkr4
        have HTb := Lib.hid (HT.out.below hbw)
        have x0 := cells_at hx4 0
        have x1 := cells_at hx4 1
        by_cases hlt : k < 5
        · have hlt' : (k : Int) < 5 := by omega
          have hkt : k < tail5.length := hlt
          have q0 : wr.cell? ⟨B + 2, 3 + k, none⟩ = some (.int .i64 tail5[k].1) := by
            rw [cells_at hkn4 (3 + k), eight_at (3 + k) (by show 3 + k < 8; omega), tail5_nos k hkt]
          have HFM := Lib.hid (tail5_form k hkt)
          have HLN := Lib.hid (fun (s : ByteArray) => tail5_len k hkt (s := s))
          have hrl : readL X (tail5.drop k) = if checkR tail5[k].2.1 tail5[k].2.2 1 ((getM X tail5[k].1).getD ⟨#[]⟩).data.toList = 0 then (readL X (tail5.drop (k + 1))).map (valOf tail5[k].2.2 ((getM X tail5[k].1).getD ⟨#[]⟩) :: ·) else none := by
            rw [List.drop_eq_getElem_cons hkt]; rfl
          obtain ⟨t5, et5⟩ : ∃ t, tail5[k] = t := ⟨_, rfl⟩
          rw [et5] at q0 HFM HLN hrl
          obtain ⟨nn, kk, sz⟩ := t5
          have HGS := Lib.hid (getM_small HXS.out nn)
          have HG := Lib.hid (get_any (hfx.fs (by have := HXL.out; simp only [maxLen]; omega)) 500 nn)
          obtain ⟨s, es⟩ : ∃ s, (getM X nn).getD ⟨#[]⟩ = s := ⟨_, rfl⟩
          simp only [es] at hrl HGS HG
          have HRL := Lib.hid hrl
          clear hrl et5 hkt es ht hx4 hkr4 hkn4 hrow he hns hfx hN hbw
          go_wp2_with fail
          refine HG.out.mono ?_
          rintro e w5 ⟨rfl, b5⟩
          have hlN : N < wr.heap.size := HROW.out.lt
          have r5 := HROW.out.of_block (b5.block N hlN)
          have x05 := b5.keptCell x0
          have x15 := b5.keptCell x1
          have T5 := Lib.hid (HTR.out.trans (Turn.of_below b5))
          have HB5 := Lib.hid (HBW.out.trans (b5.mono HBW.out.size))
          have HKR5 := Lib.hid ((b5.block (B + 1) (by have := HNB.out; omega)).trans HKR.out)
          have HTb5 := Lib.hid (HTb.out.below b5)
          have HR5 := Lib.hid r5
          have HFP := Lib.hid (form_pub HTb5.out nn)
          rw [HFM.out] at HFP
          clear b5 hlN r5 x0 x1 q0
          go_wp2_with fail
          refine HFP.out.mono ?_
          rintro e w6 ⟨rfl, b6⟩
          unfold formP
          obtain ⟨w7, e7⟩ : ∃ W, w6.alloc (.cells #[.int .i64 kk, .int .i64 sz, .int .i64 1] 55) = W := ⟨_, rfl⟩
          have b7 : Below w6.heap.size w6 w7 := by rw [← e7]; exact (Below.refl _ _).alloc (Nat.le_refl _) _
          have k7 := box_row w6 #[.int .i64 kk, .int .i64 sz, .int .i64 1] 55
          have b57 := b6.trans (b7.mono b6.size)
          have r7 := HR5.out.of_block (b57.block N HR5.out.lt)
          have x07 := b57.keptCell x05
          have x17 := b57.keptCell x15
          have T7 := Lib.hid (T5.out.trans (Turn.of_below b57))
          have HB7 := Lib.hid (HB5.out.trans (b57.mono HB5.out.size))
          have HKR7 := Lib.hid ((b57.block (B + 1) (by have := HNB.out; have := HR5.out.lt; omega)).trans HKR5.out)
          have HR7 := Lib.hid r7
          have g0 := cells_at k7 0
          have g1 := cells_at k7 1
          have g2 := cells_at k7 2
          have HCK := Lib.hid (check_any kk sz 1 s w7 HGS.out)
          have HK7 := Lib.hid k7
          have E7 := Lib.hid e7
          clear b6 b7 k7 b57 r7 x05 x15 x07 x17 e7
          go_wp2_with fail
          rw [E7.out]
          refine HCK.out.mono ?_
          rintro e w8 ⟨rfl, b8⟩
          have HR8 := Lib.hid (HR7.out.of_block (b8.block N HR7.out.lt))
          have T8 := Lib.hid (T7.out.trans (Turn.of_below b8))
          have HB8 := Lib.hid (HB7.out.trans (b8.mono HB7.out.size))
          have HKR8 := Lib.hid ((b8.block (B + 1) (by have := HNB.out; have := HR7.out.lt; omega)).trans HKR7.out)
          rw [E7.out] at HK7
          have HK8 := Lib.hid ((b8.block w6.heap.size (by rw [← E7.out]; simp)).trans HK7.out)
          clear b8 g0 g1 g2
          obtain ⟨ce, hce⟩ : ∃ ce, checkR kk sz 1 s.data.toList = ce := ⟨_, rfl⟩
          have HLN2 := Lib.hid (HLN.out s)
          simp only [hce] at HRL HLN2 ⊢
          clear hce HLN
          by_cases hz : ce = 0
          · subst hz
            obtain ⟨d, hd, hd1, hs1, hs17, hds⟩ := HLN2.out rfl
            have hdW : wrap64 (d : Int) = d := IntWalk.wrap64_in _ ⟨by omega, by omega⟩
            have hdM : max 0 (d : Int) = d := by omega
            have hds' : (d : Int) ≤ s.size := by omega
            have f1 := cells_at HK8.out 1
            have f0 := cells_at HK8.out 0
            have f2 := cells_at HK8.out 2
            obtain ⟨dg, edg⟩ : ∃ dg, s.extract d s.size = dg := ⟨_, rfl⟩
            have hdgs : dg.size ≤ 17 := by rw [← edg, ByteArray.size_extract]; omega
            have HA := Lib.hid (amount_any dg w8 (by omega))
            have hrg := amountR_range dg
            have hval : valOf sz s = if s.data.toList.head? = some 68 then -(amountR dg.data.toList).1 else (amountR dg.data.toList).1 := by
              unfold valOf
              rw [hd, Int.toNat_natCast, edg]
            obtain ⟨av, eav⟩ : ∃ av, (amountR dg.data.toList).1 = av := ⟨_, rfl⟩
            obtain ⟨ae, eae⟩ : ∃ ae, (amountR dg.data.toList).2 = ae := ⟨_, rfl⟩
            simp only [eav, eae] at HA hrg hval
            have HVAL := Lib.hid hval
            have HRG := Lib.hid hrg
            clear eav eae hval hrg hdgs
            go_wp2_with fail
            refine HA.out.mono ?_
            rintro e w9 ⟨rfl, rfl⟩
            have c8 : w8.cell? ⟨N, k, none⟩ = some (.int .i64 (ns.getD k 0)) := HR8.out.cell (by omega)
            have z8 : w8.frozen? ⟨N, k, none⟩ = false := HR8.out.frozen k
            have HR9 := Lib.hid (HR8.out.set k (.int .i64 av))
            have c9 : (w8.setCell ⟨N, k, none⟩ (.int .i64 av)).cell? ⟨N, k, none⟩ = some (.int .i64 av) := by rw [HR9.out.cell (by omega), if_pos rfl]
            have z9 : (w8.setCell ⟨N, k, none⟩ (.int .i64 av)).frozen? ⟨N, k, none⟩ = false := HR9.out.frozen k
            have hng : wrap64 (-av) = -av := IntWalk.wrap64_in _ ⟨by have := HRG.out; omega, by have := HRG.out; omega⟩
            have hs0 : 0 < s.size := by omega
            have HFIN := Lib.hid (fun (z : Int) (hz : valOf sz s = z) => show readL X tail5 = (readL X (tail5.drop (k + 1))).map ((ns ++ [z]) ++ ·) by
              rw [HE.out, HRL.out, if_pos trivial, hz, Option.map_map]
              congr 1
              funext l
              simp)
            have HHD := Lib.hid (head_s s hs0)
            clear f0 f1 f2 hd hdW hdM hds'
            go_wp2_with fail
            · rename_i hb
              have hv : valOf sz s = -av := by
                rw [HVAL.out, if_pos]
                rw [HHD.out]
                have e2 : ((s[0].toNat : Nat) : Int) = 68 := by simpa using hb
                have e3 : s[0].toNat = 68 := by omega
                rw [UInt8.toNat_inj.1 (e3.trans (show 68 = (68 : UInt8).toNat from rfl))]
              exact ⟨⟨(T8.out.set (.inl (by simp)) k _).set (.inl (by simp)) k _, k + 1, ns ++ [-av], by omega, by go_num, by simp [HNS.out], (HR9.out.set k (.int .i64 (-av))).congr fun j hj => by rw [getD_snoc, HNS.out]; split <;> rfl, HFIN.out _ hv⟩, by simp [intOf]; omega⟩
            · rename_i hb
              have hv : valOf sz s = av := by
                rw [HVAL.out, if_neg]
                rw [HHD.out]
                intro e
                have e2 : s[0] = 68 := by simpa using e
                rw [e2] at hb
                exact absurd hb (by decide)
              exact ⟨⟨T8.out.set (.inl (by simp)) k _, k + 1, ns ++ [av], by omega, by go_num, by simp [HNS.out], HR9.out.congr fun j hj => by rw [getD_snoc, HNS.out]; split <;> rfl, HFIN.out av hv⟩, by simp [intOf]; omega⟩
          · have HRF := Lib.hid (show readR 500 F = ([0, 0, 0, 0, 0], 41) by rw [HR.out, HE.out, HRL.out, if_neg hz]; rfl)
            have hst := store_all (ty := 23) HKR8.out info23s rfl #[.int .i64 0, .int .i64 0, .int .i64 0, .int .i64 0, .int .i64 0, .int .i64 0] rfl rfl
            go_wp2_with (refine wpList_store_at rfl 23 (.tmp 2) (.tmp 54) rfl ⟨B + 1, 0, none⟩ rfl _ rfl hst ?_)
            refine bodyPost_ret (Go.Proofs.YtjndfmpicnkplaaDoorW.PrintWords.results_ct rfl _ _ (B + 1) _ #[.int .i64 0, .int .i64 0, .int .i64 0, .int .i64 0, .int .i64 0, .int .i64 0] (0, 0) _ rfl (setRow_block HKR8.out) Tryd.underlying23 rfl info23s) rfl ?_
            exact ⟨by rw [HRF.out]; rfl, HB8.out.os, HB8.out.tape, HB8.out.output, by have h9 := HB8.out.size; simpa using h9, fun q hq => (setRow_other _ _ q _ (by have := EB.out; omega)).trans (HB8.out.block q hq)⟩
        · obtain rfl : k = 5 := by omega
          obtain ⟨a0, a1, a2, a3, a4, rfl⟩ : ∃ a0 a1 a2 a3 a4, ns = [a0, a1, a2, a3, a4] := by
            match ns, hns with
            | [a0, a1, a2, a3, a4], _ => exact ⟨a0, a1, a2, a3, a4, rfl⟩
          have c0 : wr.cell? ⟨N, 0, none⟩ = some (.int .i64 a0) := hrow.cell (by omega)
          have c1 : wr.cell? ⟨N, 1, none⟩ = some (.int .i64 a1) := hrow.cell (by omega)
          have c2 : wr.cell? ⟨N, 2, none⟩ = some (.int .i64 a2) := hrow.cell (by omega)
          have c3 : wr.cell? ⟨N, 3, none⟩ = some (.int .i64 a3) := hrow.cell (by omega)
          have c4 : wr.cell? ⟨N, 4, none⟩ = some (.int .i64 a4) := hrow.cell (by omega)
          have HRF := Lib.hid (show readR 500 F = ([a0, a1, a2, a3, a4], 0) by rw [HR.out, HE.out]; rfl)
          have hst := store_all (ty := 23) HKR.out info23s rfl #[.int .i64 0, .int .i64 a0, .int .i64 a1, .int .i64 a2, .int .i64 a3, .int .i64 a4] rfl rfl
          clear hfx ht hx4 hkr4 hkn4 hrow he hns hN hbw
          go_wp2_with (refine wpList_store_at rfl 23 (.tmp 2) (.tmp 90) rfl ⟨B + 1, 0, none⟩ rfl _ rfl hst ?_)
          refine bodyPost_ret (Go.Proofs.YtjndfmpicnkplaaDoorW.PrintWords.results_ct rfl _ _ (B + 1) _ #[.int .i64 0, .int .i64 a0, .int .i64 a1, .int .i64 a2, .int .i64 a3, .int .i64 a4] (0, 0) _ rfl (setRow_block HKR.out) Tryd.underlying23 rfl info23s) rfl ?_
          exact ⟨by rw [HRF.out]; rfl, HBW.out.os, HBW.out.tape, HBW.out.output, by have h9 := HBW.out.size; simpa using h9, fun q hq => (setRow_other _ _ q _ (by have := EB.out; omega)).trans (HBW.out.block q hq)⟩
  · have hty' : (decide (ty = 500)) = false := by simpa using hty
    have HR := Lib.hid (show readR ty F = ([0, 0, 0, 0, 0], 51) by unfold readR; rw [if_pos hty])
    have hst := store_all (ty := 23) kr info23s rfl #[.int .i64 0, .int .i64 0, .int .i64 0, .int .i64 0, .int .i64 0, .int .i64 0] rfl rfl
    rw [← e0] at m0 m1 hst
    clear eB e0 kr
    go_wp2_with (refine wpList_store_at rfl 23 (.tmp 2) (.tmp 17) rfl ⟨B + 1, 0, none⟩ rfl _ rfl hst ?_)
    rw [E0.out, EB.out]
    refine bodyPost_ret (Go.Proofs.YtjndfmpicnkplaaDoorW.PrintWords.results_ct rfl _ _ (B + 1) _ #[.int .i64 0, .int .i64 0, .int .i64 0, .int .i64 0, .int .i64 0, .int .i64 0] (0, 0) _ rfl KR.out Tryd.underlying23 rfl info23s) rfl ?_
    exact ⟨by rw [HR.out]; rfl, EB.out ▸ HB0.out⟩
end Go.Proofs.YtjndfmpicnkplaaDoor.msgw
